/- Part E of a maker of conditions for walks, and why it is sound. -/
import Derived.Test.YtibidgfjopmgnaaDoorAmD
import Derived.ChangeArms
import Derived.DataReads
import Derived.WideShapes
import Derived.Deep.Slices
import Derived.RowKit
import Derived.Below
import Derived.Lib.Bytealg
import Derived.Shelf.Strings.OnBuilder
import Derived.Shelf.Strings.Repeat
import Derived.Shelf.Strings.Builder1
import Derived.Shelf.Strings.Search3
import Derived.SizedLaws
import Derived.Handed
import Derived.OpenShut
import Derived.OpenVars
import Derived.Stop.LaidErr
set_option linter.unusedVariables false
set_option linter.unusedSimpArgs false
set_option linter.unusedVariables false
set_option linter.unusedSimpArgs false
namespace Go.AM
open Go Go.RowKit
section
variable {P : Program}
/-- Whatever reads at type t stands for a value of the shape ty, with Q. -/
def OpR (P : Program) (t : TypeId) (ty : Ty) (Q : ty.El → Prop) : Prop :=
 ∀ {H : Type} (enc : TypeId × Value → H) (w : World) (base : Nat) (spare : Nat → Bool) (held : Bool) (fuel : Nat) (cs : List Value) (x : DataW H × List MemPlace),
  DataW.trod enc P w base spare held fuel t cs = some x → ∃ a : ty.El, Rep X0 w ty a cs ∧ Q a
theorem opR_int {t : TypeId} {k : IntKind} (ht : P.underlying t = some (.int k)) : OpR P t (.int k) (fun n => (Lit.int k n).wf = true) := by
 intro H enc w base spare held fuel cs x h
 obtain ⟨n, rfl, _, hw⟩ := DataW.trod_int ht h
 exact ⟨n, rfl, hw⟩
theorem opR_bool {t : TypeId} (ht : P.underlying t = some .bool) : OpR P t .bool (fun _ => True) := by
 intro H enc w base spare held fuel cs x h
 obtain ⟨n, rfl, _⟩ := DataW.trod_bool ht h
 exact ⟨n, rfl, trivial⟩
theorem opR_str {t : TypeId} (ht : P.underlying t = some .string) : OpR P t .str (fun s => List.length (α := UInt8) s ≤ maxLen) := by
 intro H enc w base spare held fuel cs x h
 obtain ⟨s, rfl, _, hs⟩ := DataW.trod_string ht h
 refine ⟨s.data.toList, ?_, ?_⟩
 ·show [Value.string s] = [.string ⟨s.data.toList.toArray⟩]
  cases s; simp
 ·show s.data.toList.length ≤ maxLen
  rw [Array.length_toList]; exact hs
/-- The fields fs, from offset o on, stand for a value of the shape ty in line. -/
def OpRAt (P : Program) (fs : List Field) (o total : Nat) (ty : Ty) (Q : ty.El → Prop) : Prop :=
 ∀ {H : Type} (enc : TypeId × Value → H) (w : World) (base : Nat) (spare : Nat → Bool) (held : Bool) (n : Nat) (cs : List Value), cs.length = total →
  (∀ f ∈ fs, ∃ x, DataW.trod enc P w base spare held n f.type ((cs.drop f.offset).take (P.cellsOf f.type)) = some x) → ∃ a : ty.El, Rep X0 w ty a (cs.drop o) ∧ Q a
theorem opR_last {f : Field} {o total : Nat} {ty : Ty} {Q : ty.El → Prop} (h : OpR P f.type ty Q) (ho : f.offset = o) (ht : o + P.cellsOf f.type = total) : OpRAt P [f] o total ty Q := by
 intro H enc w base spare held n cs hl hf
 obtain ⟨x, hx⟩ := hf f (by simp)
 rw [ho, List.take_of_length_le (by rw [List.length_drop]; omega)] at hx
 exact h enc w base spare held n _ x hx
theorem opR_cons {f : Field} {fs : List Field} {o total : Nat} {ty ty' : Ty} {Q : ty.El → Prop} {Q' : ty'.El → Prop} (h : OpR P f.type ty Q) (ho : f.offset = o)
    (hr : OpRAt P fs (o + P.cellsOf f.type) total ty' Q') : OpRAt P (f :: fs) o total (.pair ty ty') (fun a => Q a.1 ∧ Q' a.2) := by
 intro H enc w base spare held n cs hl hf
 obtain ⟨x, hx⟩ := hf f (by simp)
 obtain ⟨a, ha, qa⟩ := h enc w base spare held n _ x hx
 obtain ⟨b, hb, qb⟩ := hr enc w base spare held n cs hl (fun g hg => hf g (by simp [hg]))
 refine ⟨(a, b), ⟨_, _, ?_, ha, hb⟩, qa, qb⟩
 rw [ho, ← List.drop_drop, List.take_append_drop]
theorem opR_struct {t : TypeId} {fs : Array Field} {ty : Ty} {Q : ty.El → Prop} (total : Nat) (ht : P.underlying t = some (.struct fs)) (hc : P.cellsOf t = total)
    (h : OpRAt P fs.toList 0 total ty Q) : OpR P t ty Q := by
 intro H enc w base spare held fuel cs x hx
 obtain ⟨xs, n, _, _, hl, hlen, hf⟩ := DataW.trod_struct ht hx
 obtain ⟨a, ha, qa⟩ := h enc w base spare held n cs (hl.trans hc) (fun f hfm => by
  obtain ⟨i, hi, rfl⟩ := List.getElem_of_mem hfm
  have hi' : i < fs.size := by simpa using hi
  have e : fs[i]? = some fs.toList[i] := by rw [Array.getElem?_eq_getElem hi']; simp
  have := hf i _ e
  rw [List.getElem?_eq_getElem (by omega)] at this
  exact ⟨_, this⟩)
 rw [List.drop_zero] at ha
 exact ⟨a, ha, qa⟩
theorem list_of {α : Type} (R : Nat → α → Prop) (n : Nat) (h : ∀ i, i < n → ∃ a, R i a) : ∃ l : List α, l.length = n ∧ ∀ i a, l[i]? = some a → R i a := by
 induction n with
 | zero => exact ⟨[], rfl, fun i a h => by simp at h⟩
 | succ n ih =>
  obtain ⟨l, hl, hr⟩ := ih (fun i hi => h i (by omega))
  obtain ⟨a, ha⟩ := h n (by omega)
  refine ⟨l ++ [a], by simp [hl], fun i b hb => ?_⟩
  by_cases hi : i < n
  ·rw [List.getElem?_append_left (by omega)] at hb; exact hr i b hb
  ·have hin : i = n := by
    have := (List.getElem?_eq_some_iff.1 hb).1
    simp at this; omega
   subst hin
   rw [List.getElem?_append_right (by omega), hl] at hb
   simp at hb
   subst hb; exact ha
theorem cell_row {w : World} {a : Addr} {u : Value} (h : w.cell? a = some u) : a.spot = none ∧ ∃ c el fr, w.heap[a.block]? = some (.cells c el fr) ∧ c[a.off]? = some u := by
 refine ⟨World.cell?_spot h, ?_⟩
 unfold World.cell? at h
 split at h
 ·next c el fr hh =>
  split at h
  ·cases h
  ·exact ⟨c, el, fr, hh, h⟩
 ·cases h
theorem add_row (a : Addr) (n : Nat) : (a.add n).block = a.block ∧ (a.add n).off = a.off + n := by
 unfold Addr.add
 split
 ·next h => subst h; exact ⟨rfl, rfl⟩
 ·exact ⟨rfl, rfl⟩
theorem opR_list {t e : TypeId} {ty : Ty} {Q : ty.El → Prop} (ht : P.underlying t = some (.slice e)) (hz : P.cellsOf e = ty.size) (hp : 0 < ty.size) (h : OpR P e ty Q) :
    OpR P t (.list ty) (fun l => List.length (α := ty.El) l ≤ maxLen ∧ ∀ a ∈ (l : List ty.El), Q a) := by
 intro H enc w base spare held fuel cs x hx
 rcases Go.Deep.open_slice ht hx with ⟨rfl, _⟩ | ⟨a, len, cap, m, n, D, Pl, rfl, hb, hl, hm, hmm, _, hi⟩
 ·exact ⟨([] : List ty.El), ⟨none, 0, rfl, Nat.le_refl _, Or.inl rfl⟩, Nat.zero_le _, fun a ha => nomatch ha⟩
 ·have hlm : len ≤ m := by rw [hmm]; split <;> omega
  obtain ⟨l, hll, hr⟩ := list_of (fun i (a' : ty.El) => Q a' ∧ ∃ c, c.length = ty.size ∧ Rep X0 w ty a' c ∧ ∀ j u, c[j]? = some u → w.cell? (a.add (i * ty.size + j)) = some u) len (fun i hil => by
   obtain ⟨cs', hc, ht'⟩ := hi i (by omega)
   obtain ⟨_, hcl, hat⟩ := World.cells?_some hc
   obtain ⟨a', hk, hq⟩ := h enc w base spare held n cs' _ ht'
   refine ⟨a', hq, cs', hcl.trans hz, hk, fun j u hu => ?_⟩
   have hj : j < cs'.length := (List.getElem?_eq_some_iff.1 hu).1
   have := hat j (by omega)
   rw [hu, hz] at this
   rw [← Go.Deep.add_add]; exact this)
  refine ⟨l, ⟨some a, cap, ?_, ?_, ?_⟩, ?_, fun b hb' => ?_⟩
  ·show [Value.slice (some a) len cap] = [Value.slice (some a) (List.length l) cap]
   rw [hll]
  ·show List.length l ≤ cap
   omega
  ·cases l with
   | nil => exact Or.inl rfl
   | cons y l' =>
    right
    obtain ⟨_, c, hcl, _, hcc⟩ := hr 0 y rfl
    have h0 : c[0]? = some (c[0]'(by omega)) := List.getElem?_eq_getElem _
    obtain ⟨hsp, vals, el, fr, hh, _⟩ := cell_row (hcc 0 _ h0)
    have hsp' : a.spot = none := by
     rw [Nat.zero_mul] at hsp; exact hsp
    rw [(add_row a _).1] at hh
    refine ⟨a.block, a.off, ?_, ?_⟩
    ·cases a; subst hsp'; rfl
    ·refine ⟨fun hf => hf, vals, el, fr, hh, fun i z hz' => ?_⟩
     obtain ⟨_, c', _, hrep, hcc'⟩ := hr i z hz'
     refine ⟨c', hrep, fun j u hu => ?_⟩
     obtain ⟨hs2, vals', el', fr', hh', hv⟩ := cell_row (hcc' j u hu)
     obtain ⟨hb2, ho2⟩ := add_row a (i * ty.size + j)
     rw [hb2, hh] at hh'
     cases hh'
     rw [ho2] at hv
     rw [Nat.add_assoc]; exact hv
  ·show List.length l ≤ maxLen
   omega
  ·obtain ⟨i, hi', rfl⟩ := List.getElem_of_mem hb'
   exact (hr i _ (List.getElem?_eq_getElem hi')).1
end
end Go.AM
/- Functions of the library for which a contract is known. -/
set_option linter.unusedSimpArgs false
set_option linter.unusedVariables false
namespace Go.AM
open Go Go.RowKit
theorem Ans.below {X : Nat → Prop} {β : Nat → Value} {w w' : World} {r : V} {v : Value} (h : RepV β (YY X β []) w' r v) (hb : Below w.heap.size w w') : Ans X β w [] r [] v w' β := by
 refine ⟨h, fun k s hk => by simp [nth] at hk, fun j k s s' b hj => by simp [nth] at hj, fun b o hb' _ => ?_, ?_, hb.size, ⟨hb.os, hb.tape, hb.output⟩, fun k s hk => by simp [nth] at hk, fun k s hk => by simp [nth] at hk⟩
 ·rw [hb.block b (by obtain ⟨h, _⟩ := Array.getElem?_eq_some_iff.1 hb'; exact h)]; exact hb'
 ·rintro b ⟨k, s, hk, _⟩
  simp [nth] at hk
/-- A contract of the library, told as a model. -/
theorem FX.of_calls {P : Program} {cx : Cx} {rt : VT} (g : Nat) (vts : List VT1) (m : VT1s.El vts × SSs.El [] → Option (rt.El × SSs.El []))
    (henter : ∀ vs w, (callFunc g vs).run P w = .ok (.enter g vs) w)
    (h : ∀ (x : VT1s.El vts × SSs.El []) (y : rt.El × SSs.El []), m x = some y → ∀ (β : Nat → Value) (Y : Nat → Prop) w vs, RepVs β Y w (VT1s.enc vts x.1) vs → (∀ b, Y b → b < w.heap.size) →
     Calls P g vs.toArray w fun e w' => (∃ v, e = .returned v ∧ ∀ β Y, RepV β Y w' (rt.enc y.1) v) ∧ Below w.heap.size w w') : (⟨g, vts, [], m⟩ : FX rt []).Valid P cx := by
 rintro ⟨x, x2⟩ ⟨y, y2⟩ hr X β w vs hpre
 refine .inl ⟨henter _ _, (h _ _ hr β (YY X β []) w vs hpre.args ?_).mono ?_⟩
 ·rintro b (hb | ⟨k, s, hk, _⟩)
  ·exact hpre.outer b hb
  ·simp [SSs.enc, nth] at hk
 ·rintro e w' ⟨⟨v, rfl, hv⟩, hb⟩
  exact ⟨v, β, rfl, Ans.below (hv _ _) hb⟩
end Go.AM
/- strings.Join and strings.Repeat, as the library's contracts tell them. -/
set_option linter.unusedSimpArgs false
set_option linter.unusedVariables false
namespace Go.AM
open Go Go.RowKit Go.Proofs Go.Shelf
theorem cell_of_row {w : World} {b : Nat} {vals : Array Value} {el : TypeId} {fr : Nat × Nat} (h : w.heap[b]? = some (.cells vals el fr)) (o : Nat) : w.cell? ⟨b, o, none⟩ = vals[o]? := by
 unfold World.cell?; simp [h]
def joinM (xs : List (List UInt8)) (sep : List UInt8) : Option (List UInt8 × Unit) :=
 if xs.length ≤ 140737488355328 ∧ (Lib.join xs sep).length ≤ 140737488355328 then some (Lib.join xs sep, ()) else none
theorem join_valid {P : Program} {cx : Cx} {ρ : Ren} (L : Lays.n156 P ρ) (X : Builder.Extra P ρ) :
    (⟨ρ.f 156, [.one (.ty (.list .str)), .one (.ty .str)], [], fun x => joinM x.1.1 x.1.2.1⟩ : FX (.v (.one (.ty .str))) []).Valid P cx := by
 refine FX.of_calls _ _ _ (enters_of L.f156 (by kernel_rfl) rfl) ?_
 rintro ⟨⟨xs, sep, u⟩, u2⟩ ⟨y, y2⟩ hm β Y w vs hr hY
 have hm' : joinM xs sep = some (y, ()) := hm
 unfold joinM at hm'
 split at hm'
 case isFalse => cases hm'
 case isTrue hc =>
  simp only [Option.some.injEq, Prod.mk.injEq, and_true] at hm'
  match vs, hr with
  | [v1, v2], ⟨h1, h2, _⟩ =>
   have h2' : v2 = .string ⟨sep.toArray⟩ := h2
   subst h2'
   obtain ⟨a, cap, hv, hcap, hrow⟩ : Rep Y w (.list .str) xs [v1] := h1
   have hv' : v1 = .slice a xs.length cap := by simpa using hv
   subst hv'
   have fin : ∀ {e : Ending} {w' : World}, (e = .returned (.string ⟨(Lib.join xs sep).toArray⟩) ∧ Below w.heap.size w w') → (∃ v, e = .returned v ∧ ∀ β Y, RepV β Y w' (VT.enc (.v (.one (.ty .str))) y) v) ∧ Below w.heap.size w w' := by
    rintro e w' ⟨he, hb⟩
    refine ⟨⟨_, he, fun β Y => ?_⟩, hb⟩
    subst hm'; rfl
   have key := Any.strings_Join L X
   rcases hrow with h0 | ⟨b, off, rfl, hnb, vals, el, fr, hh, hc2⟩
   ·have h0' : xs = [] := h0
    subst h0'
    refine (Any.strings_Join_none L X a cap ⟨sep.toArray⟩ w).mono fun e w' ⟨he, hw⟩ => fin ⟨?_, hw ▸ Below.refl _ _⟩
    rw [he]; rfl
   ·have hmap : (xs.map fun s => (⟨s.toArray⟩ : ByteArray)).map (·.data.toList) = xs := by
     rw [List.map_map]; exact (List.map_congr_left (fun x _ => rfl)).trans (List.map_id _)
    have hlen : (xs.map fun s => (⟨s.toArray⟩ : ByteArray)).length = xs.length := List.length_map ..
    have := key b off cap (xs.map fun s => (⟨s.toArray⟩ : ByteArray)) ⟨sep.toArray⟩ w ?_ ?_ (by rw [hlen]; exact hc.1) (by rw [hlen]; exact hcap) (by rw [hmap]; exact hc.2)
    ·rw [hlen, hmap] at this
     exact this.mono fun e w' h => fin h
    ·intro j x hx
     rw [List.getElem?_map] at hx
     obtain ⟨s, hs, rfl⟩ := Option.map_eq_some_iff.1 hx
     obtain ⟨us, hu, hc3⟩ := hc2 j s hs
     have hu' : us = [.string ⟨s.toArray⟩] := hu
     subst hu'
     have := hc3 0 _ rfl
     rw [cell_of_row hh]
     simpa [Ty.size] using this
    ·exact (Array.getElem?_eq_some_iff.1 hh).1
def repeatM (s : List UInt8) (c : Int) : Option (List UInt8 × Unit) :=
 if 0 ≤ c ∧ c ≤ 9223372036854775807 ∧ s.length * c.toNat ≤ 140737488355328 then some (Lib.repeatL s c.toNat, ()) else none
theorem repeat_valid {P : Program} {cx : Cx} {ρ : Ren} (L : Lays.n105 P ρ) (X : Builder.Extra P ρ) :
    (⟨ρ.f 105, [.one (.ty .str), .one (.ty (.int .i64))], [], fun x => repeatM x.1.1 x.1.2.1⟩ : FX (.v (.one (.ty .str))) []).Valid P cx := by
 refine FX.of_calls _ _ _ (enters_of L.f105 (by kernel_rfl) rfl) ?_
 rintro ⟨⟨s, c, u⟩, u2⟩ ⟨y, y2⟩ hm β Y w vs hr hY
 have hm' : repeatM s c = some (y, ()) := hm
 unfold repeatM at hm'
 split at hm'
 case isFalse => cases hm'
 case isTrue hc =>
  simp only [Option.some.injEq, Prod.mk.injEq, and_true] at hm'
  match vs, hr with
  | [v1, v2], ⟨h1, h2, _⟩ =>
   have h1' : v1 = .string ⟨s.toArray⟩ := h1
   have h2' : v2 = .int .i64 c := h2
   subst h1'; subst h2'
   obtain ⟨n, rfl⟩ : ∃ n : Nat, c = n := ⟨c.toNat, (Int.toNat_of_nonneg hc.1).symm⟩
   have := Any.strings_Repeat L X ⟨s.toArray⟩ n w (by omega) (by have := hc.2.2; rw [Int.toNat_natCast] at this; exact this)
   refine this.mono fun e w' ⟨he, hb⟩ => ⟨⟨_, he, fun β Y => ?_⟩, hb⟩
   subst hm'; rfl
end Go.AM
/- strings.Builder: copyCheck and String. -/
set_option linter.unusedSimpArgs false
set_option linter.unusedVariables false
namespace Go.AM
open Go Go.RowKit Go.Proofs Go.Shelf
def strOf (xs : List Int) : List UInt8 := xs.map fun n => n.toNat.toUInt8
theorem run_loadInts {P : Program} (w : World) : ∀ (l : List Int) (a : Addr) (acc : ByteArray), (∀ (j : Nat) x, l[j]? = some x → w.cell? (a.add j) = some (.int .u8 x)) →
    (loadBytes a acc l.length).run P w = .ok ⟨acc.data ++ (strOf l).toArray⟩ w
 | [], a, acc, _ => by simp [loadBytes, strOf]
 | x :: l, a, acc, h => by
  have h0 : w.cell? a = some (.int .u8 x) := by
   have := h 0 x rfl
   simpa [Addr.add] using this
  have ih := run_loadInts (P := P) w l (a.add 1) (acc.push x.toNat.toUInt8) (fun j y hy => by
   have := h (j + 1) y (by simpa using hy)
   have e : (a.add 1).add j = a.add (j + 1) := by
    unfold Addr.add
    by_cases hj : j = 0
    ·subst hj; simp
    ·simp [hj]; omega
   rw [e]; exact this)
  simp only [List.length_cons, loadBytes, Sem.run_bind, run_load, h0, Result.andThen]
  rw [ih]
  congr 1
  apply ByteArray.ext
  simp [ByteArray.push, strOf]
theorem run_unsafeString_ints {P : Program} (w : World) (pt it ty e : TypeId) (hp : P.underlying pt = some (.pointer e)) (hc : P.cellsOf e = 1) (g cells : Nat) (hsh : w.shape? g = some (e, cells)) (l : List Int) (h0 : l ≠ []) (hn : l.length ≤ cells) (h63 : l.length ≤ 9223372036854775807)
    (hcell : ∀ (j : Nat) x, l[j]? = some x → w.cell? ((⟨g, 0, none⟩ : Addr).add j) = some (.int .u8 x)) :
    (Builtin.unsafeString_ #[pt, it] ty #[.pointer (some ⟨g, 0, none⟩), .int .i64 l.length]).run P w = .ok (.string ⟨(strOf l).toArray⟩) (w.freeze ⟨g, 0, none⟩ l.length) := by
 have hl : l.length ≠ 0 := by simpa using h0
 have hlb := run_loadInts (P := P) w l ⟨g, 0, none⟩ .empty hcell
 have hlies := Lib.liesAt_bytes (P := P) hc (cells / P.cellsOf e) l.length (by rw [hc]; simpa using hn)
 have h63' : ¬ (9223372036854775807 : Int) < (l.length : Int) := by omega
 have hdef : Builtin.unsafeString_ #[pt, it] ty #[.pointer (some ⟨g, 0, none⟩), .int .i64 l.length] =
     (do
      let n ← asInt (.int .i64 l.length)
      if n < 0 then runtimePanic (.error "unsafe.String: len out of range")
      if n > IntKind.i64.max then unsupported (.unsafePointer "String: a length above the largest int")
      if n = 0 then pure (.string .empty)
      else if ← variablesAt ⟨g, 0, none⟩ (← elemOf pt) n.toNat then do
       let s ← loadBytes ⟨g, 0, none⟩ .empty n.toNat
       freeze ⟨g, 0, none⟩ n.toNat
       pure (.string s)
      else unsupported (.unsafePointer "String: not so many bytes at ptr")) := rfl
 rw [hdef]
 have hmax : IntKind.i64.max = 9223372036854775807 := rfl
 have hneg : ¬ (l.length : Int) < 0 := by omega
 simp [asInt, asIntOf, hmax, h63', hneg, hl, variablesAt, hsh, elemOf, run_underlying hp, hlies, hlb]
theorem freeze_heap (w : World) (a : Addr) (n : Nat) {k : Nat} (hk : k ≠ a.block) : (w.freeze a n).heap[k]? = w.heap[k]? := by
 unfold World.freeze
 split
 ·rfl
 ·simp only [Array.getElem?_modify]; rw [if_neg (fun e => hk e.symm)]
theorem freeze_same (w : World) (a : Addr) (n : Nat) : Same w (w.freeze a n) := by
 unfold World.freeze
 split
 ·exact Same.refl w
 ·exact ⟨rfl, rfl, rfl⟩
theorem freeze_size (w : World) (a : Addr) (n : Nat) : (w.freeze a n).heap.size = w.heap.size := by
 unfold World.freeze
 split
 ·rfl
 ·simp
section
variable {P : Program} {ρ : Ren}
set_option maxHeartbeats 2000000 in
set_option maxRecDepth 100000 in
theorem str_run (L : Lays.n169 P ρ) (X : Builder.Extra P ρ) (b g cap : Nat) (xs : List Int) (p : Value) (fr fr2 : Nat × Nat) (cur : Array Value) (w : World)
    (hbk : w.heap[b]? = some (.cells #[p, .slice (some ⟨g, 0, none⟩) xs.length (cap + 1)] (ρ.t 72) fr)) (hg : w.heap[g]? = some (.cells cur (ρ.t 5) fr2)) (hn : xs.length ≤ cur.size)
    (hc : ∀ (j : Nat) x, xs[j]? = some x → cur[j]? = some (.int .u8 x)) (h63 : xs.length ≤ 9223372036854775807) (h0 : xs ≠ []) :
    Calls P (ρ.f 169) #[.pointer (some ⟨b, 0, none⟩)] w fun e w' => e = .returned (.string ⟨(strOf xs).toArray⟩) ∧ ∃ W : World, W.heap = w.heap ∧ Same w W ∧ w' = W.freeze ⟨g, 0, none⟩ xs.length := by
 have c1 : w.drew.cell? ⟨b, 1, none⟩ = some (.slice (some ⟨g, 0, none⟩) xs.length (cap + 1)) := by
  have : w.drew.heap[b]? = some (.cells #[p, .slice (some ⟨g, 0, none⟩) xs.length (cap + 1)] (ρ.t 72) fr) := hbk
  rw [Lib.cell_of_heap this]; rfl
 have hSD : (Builtin.unsafeSliceData_ #[(ρ.t 37)] (ρ.t 127) #[.slice (some ⟨g, 0, none⟩) xs.length (cap + 1)]).run P w.drew = .ok (.pointer (some ⟨g, 0, none⟩)) w.drew :=
  Lib.run_unsafeSliceData_row _ _ _ _ _ _ (by omega)
 have hUS : (Builtin.unsafeString_ #[(ρ.t 127), (ρ.t 3)] (ρ.t 9) #[.pointer (some ⟨g, 0, none⟩), .int .i64 xs.length]).run P w.drew = .ok (.string ⟨(strOf xs).toArray⟩) (w.drew.freeze ⟨g, 0, none⟩ xs.length) := by
  have hg' : w.drew.heap[g]? = some (.cells cur (ρ.t 5) fr2) := hg
  refine run_unsafeString_ints w.drew (ρ.t 127) (ρ.t 3) (ρ.t 9) (ρ.t 5) L.t127 X.cellsByte g cur.size (by simp [World.shape?, hg']) xs h0 hn h63 ?_
  intro j x hx
  rw [Addr.add_lit, cell_at (w := w.drew) hg']
  simpa using hc j x hx
 have mixed := L.mixed
 have t72 := L.t72; have a72 := L.a72; have z72 := L.z72; have v72 := L.v72; have u72 := run_underlying L.t72
 have t70 := L.t70; have a70 := L.a70; have z70 := L.z70; have v70 := L.v70; have u70 := run_underlying L.t70
 have t37 := L.t37; have a37 := L.a37; have z37 := L.z37; have v37 := L.v37; have u37 := run_underlying L.t37
 have t127 := L.t127; have a127 := L.a127; have z127 := L.z127; have v127 := L.v127; have u127 := run_underlying L.t127
 have t3 := L.t3; have a3 := L.a3; have z3 := L.z3; have v3 := L.v3; have u3 := run_underlying L.t3
 have t9 := L.t9; have a9 := L.a9; have z9 := L.z9; have v9 := L.v9; have u9 := run_underlying L.t9
 have t5 := X.t5; have a5 := X.a5; have z5 := X.z5; have v5 := X.v5; have u5 := run_underlying X.t5
 go_enter L.f169, Body.n169_ntmps ρ
 go_wp2
 go_region_o
 all_goals (go_wp2; go_ret; exact ⟨rfl, w.drew, rfl, ⟨rfl, rfl, rfl⟩, rfl⟩)
set_option maxHeartbeats 2000000 in
set_option maxRecDepth 100000 in
theorem str_run_room (L : Lays.n169 P ρ) (X : Builder.Extra P ρ) (b g cap : Nat) (p : Value) (fr : Nat × Nat) (w : World) (hbk : w.heap[b]? = some (.cells #[p, .slice (some ⟨g, 0, none⟩) 0 (cap + 1)] (ρ.t 72) fr)) :
    Calls P (ρ.f 169) #[.pointer (some ⟨b, 0, none⟩)] w fun e w' => e = .returned (.string ⟨#[]⟩) ∧ w'.heap = w.heap ∧ Same w w' := by
 have hUS := Any.unsafeString_none L X
 have c1 : w.drew.cell? ⟨b, 1, none⟩ = some (.slice (some ⟨g, 0, none⟩) 0 (cap + 1)) := by
  have : w.drew.heap[b]? = some (.cells #[p, .slice (some ⟨g, 0, none⟩) 0 (cap + 1)] (ρ.t 72) fr) := hbk
  rw [Lib.cell_of_heap this]; rfl
 have hSD : (Builtin.unsafeSliceData_ #[(ρ.t 37)] (ρ.t 127) #[.slice (some ⟨g, 0, none⟩) 0 (cap + 1)]).run P w.drew = .ok (.pointer (some ⟨g, 0, none⟩)) w.drew :=
  Lib.run_unsafeSliceData_row _ _ _ _ _ _ (by omega)
 have mixed := L.mixed
 have t72 := L.t72; have a72 := L.a72; have z72 := L.z72; have v72 := L.v72; have u72 := run_underlying L.t72
 have t70 := L.t70; have a70 := L.a70; have z70 := L.z70; have v70 := L.v70; have u70 := run_underlying L.t70
 have t37 := L.t37; have a37 := L.a37; have z37 := L.z37; have v37 := L.v37; have u37 := run_underlying L.t37
 have t127 := L.t127; have a127 := L.a127; have z127 := L.z127; have v127 := L.v127; have u127 := run_underlying L.t127
 have t3 := L.t3; have a3 := L.a3; have z3 := L.z3; have v3 := L.v3; have u3 := run_underlying L.t3
 have t9 := L.t9; have a9 := L.a9; have z9 := L.z9; have v9 := L.v9; have u9 := run_underlying L.t9
 have t5 := X.t5; have a5 := X.a5; have z5 := X.z5; have v5 := X.v5; have u5 := run_underlying X.t5
 go_enter L.f169, Body.n169_ntmps ρ
 go_wp2
 go_region_o
 all_goals (go_wp2; go_ret; exact ⟨rfl, rfl, rfl, rfl, rfl⟩)
set_option maxHeartbeats 2000000 in
set_option maxRecDepth 100000 in
theorem str_run_nil (L : Lays.n169 P ρ) (X : Builder.Extra P ρ) (b : Nat) (p : Value) (fr : Nat × Nat) (w : World) (hbk : w.heap[b]? = some (.cells #[p, .slice none 0 0] (ρ.t 72) fr)) :
    Calls P (ρ.f 169) #[.pointer (some ⟨b, 0, none⟩)] w fun e w' => e = .returned (.string ⟨#[]⟩) ∧ w'.heap = w.heap ∧ Same w w' := by
 have hUS := Any.unsafeString_none L X
 have c1 : w.drew.cell? ⟨b, 1, none⟩ = some (.slice none 0 0) := by
  have : w.drew.heap[b]? = some (.cells #[p, .slice none 0 0] (ρ.t 72) fr) := hbk
  rw [Lib.cell_of_heap this]; rfl
 have hSD : (Builtin.unsafeSliceData_ #[(ρ.t 37)] (ρ.t 127) #[.slice none 0 0]).run P w.drew = .ok (.pointer none) w.drew := rfl
 have mixed := L.mixed
 have t72 := L.t72; have a72 := L.a72; have z72 := L.z72; have v72 := L.v72; have u72 := run_underlying L.t72
 have t70 := L.t70; have a70 := L.a70; have z70 := L.z70; have v70 := L.v70; have u70 := run_underlying L.t70
 have t37 := L.t37; have a37 := L.a37; have z37 := L.z37; have v37 := L.v37; have u37 := run_underlying L.t37
 have t127 := L.t127; have a127 := L.a127; have z127 := L.z127; have v127 := L.v127; have u127 := run_underlying L.t127
 have t3 := L.t3; have a3 := L.a3; have z3 := L.z3; have v3 := L.v3; have u3 := run_underlying L.t3
 have t9 := L.t9; have a9 := L.a9; have z9 := L.z9; have v9 := L.v9; have u9 := run_underlying L.t9
 have t5 := X.t5; have a5 := X.a5; have z5 := X.z5; have v5 := X.v5; have u5 := run_underlying X.t5
 go_enter L.f169, Body.n169_ntmps ρ
 go_wp2
 go_region_o
 all_goals (go_wp2; go_ret; exact ⟨rfl, rfl, rfl, rfl, rfl⟩)
theorem YY_of {X : Nat → Prop} {β : Nat → Value} {ss : List Slot} {k b : Nat} {s : Slot} (h : nth ss k = some s) (hb : blk (β k) = some b) : YY X β ss b := .inr ⟨k, s, h, hb⟩
theorem string_valid {cx : Cx} (L : Lays.n169 P ρ) (X0 : Builder.Extra P ρ) :
    (⟨ρ.f 169, [.one (.con (.ref 0 0))], [.bd (ρ.t 72) (.con (.rs 1)), .brow (ρ.t 5)], fun x => if x.2.2.1.length ≤ 140737488355328 then some (strOf x.2.2.1, ((), ([], ()))) else none⟩ : FX (.v (.one (.ty .str))) [.bd (ρ.t 72) (.con .top), .brow (ρ.t 5)]).Valid P cx := by
 rintro ⟨⟨u0, u1⟩, s0, xs, u⟩ ⟨y, y0, ys, u3⟩ hm X β w vs hpre
 have hm' : (if xs.length ≤ 140737488355328 then some (strOf xs, ((), (([] : List Int), ()))) else none) = some (y, (y0, ys, u3)) := hm
 split at hm'
 case isFalse => cases hm'
 case isTrue hc =>
  simp only [Option.some.injEq, Prod.mk.injEq] at hm'
  obtain ⟨rfl, _, rfl, _⟩ := hm'
  obtain ⟨b, v0, v1, fr, h1, h2, h3, h4, h5⟩ := hpre.slots 0 (.bd (ρ.t 72) (.rs 1)) rfl
  have hrow := hpre.slots 1 (.brow (ρ.t 5) xs) rfl
  have h5' : v1 = β 1 := h5.1
  match vs, hpre.args with
  | [a], ⟨ha, _⟩ =>
   obtain ⟨b', hb', rfl⟩ : ∃ b', boxAt (β 0) b' ∧ a = .pointer (some ⟨b', 0, none⟩) := ha
   have : b' = b := by have := hb'.symm.trans h1; simpa using this
   subst this
   have hblk0 : blk (β 0) = some b' := by rw [h1]; rfl
   have fin : ∀ w' : World, (∀ k o, w.heap[k]? = some o → blk (β 1) ≠ some k → w'.heap[k]? = some o) → w'.heap.size = w.heap.size → Same w w' →
       ∃ v β', (Ending.returned (.string ⟨(strOf xs).toArray⟩)) = .returned v ∧ Ans X β w (SSs.enc [.bd (ρ.t 72) (.con (.rs 1)), .brow (ρ.t 5)] (s0, xs, u)) (VT.enc (.v (.one (.ty .str))) (strOf xs)) (SSs.enc [.bd (ρ.t 72) (.con .top), .brow (ρ.t 5)] (y0, [], u3)) v w' β' := by
    intro w' hfr hsz hsame
    have hne : blk (β 1) ≠ some b' := by
     intro hh
     have := hpre.inj 0 1 _ _ b' rfl rfl hblk0 hh
     cases this
    refine ⟨_, upd β 1 (.slice none 0 0), rfl, rfl, ?_, ?_, ?_, ?_, by omega, hsame, ?_, ?_⟩
    ·intro k s hk
     match k, hk with
     | 0, hk =>
      have hk' : Slot.bd (ρ.t 72) .top = s := by simpa [SSs.enc, nth, SS.enc, CT.enc] using hk
      subst hk'
      refine ⟨b', v0, v1, fr, by simpa [upd] using h1, hfr _ _ h2 hne, h3, h4, ?_⟩
      show v1.oneCell' = true
      obtain ⟨_, a', l', c', e⟩ := h5
      rw [e]; rfl
     | 1, hk =>
      have hk' : Slot.brow (ρ.t 5) [] = s := by simpa [SSs.enc, nth, SS.enc] using hk
      subst hk'
      exact .inl ⟨rfl, by simp [upd]⟩
     | k + 2, hk => simp [SSs.enc, nth] at hk
    ·intro j k s s' bb hj hk hbj hbk
     have key : ∀ i s, nth (SSs.enc [.bd (ρ.t 72) (.con .top), .brow (ρ.t 5)] (y0, [], u3)) i = some s → blk (upd β 1 (.slice none 0 0) i) = some bb → i = 0 := by
      intro i s hi hb
      match i, hi with
      | 0, _ => rfl
      | 1, _ => simp [upd, blk] at hb
      | i + 2, hi => simp [SSs.enc, nth] at hi
     rw [key j s hj hbj, key k s' hk hbk]
    ·intro bb o hb hnb
     exact hfr bb o hb (fun e => hnb ⟨1, _, rfl, e⟩)
    ·rintro bb ⟨k, s, hk, hbk⟩
     match k, hk with
     | 0, hk =>
      have hbk' : blk (β 0) = some bb := by simpa [upd] using hbk
      exact ⟨.inl ⟨0, _, rfl, hbk'⟩, hpre.apart bb ⟨0, _, rfl, hbk'⟩⟩
     | 1, hk => simp [upd, blk] at hbk
     | k + 2, hk => simp [SSs.enc, nth] at hk
    ·intro k s hk hf
     match k, hk with
     | 0, _ => simp [upd]
     | 1, hk =>
      have hk' : Slot.brow (ρ.t 5) xs = s := by simpa [SSs.enc, nth, SS.enc] using hk
      subst hk'; cases hf
     | k + 2, hk => simp [SSs.enc, nth] at hk
    ·intro k s hk hf s' hk'
     match k, hk with
     | 0, _ =>
      have : Slot.bd (ρ.t 72) .top = s' := by simpa [SSs.enc, nth, SS.enc, CT.enc] using hk'
      subst this; rfl
     | 1, hk =>
      have hk' : Slot.brow (ρ.t 5) xs = s := by simpa [SSs.enc, nth, SS.enc] using hk
      subst hk'; cases hf
     | k + 2, hk => simp [SSs.enc, nth] at hk
   refine .inl ⟨enters_of L.f169 (by kernel_rfl) rfl _ _, ?_⟩
   rcases hrow with ⟨rfl, hv⟩ | ⟨g, cap, cur, fr2, hv, hg, hth, hlc, hcap, hcs⟩
   ·rw [h5', hv] at h2
    refine (str_run_nil L X0 b' v0 fr w h2).mono ?_
    rintro e w' ⟨rfl, hh, hsame⟩
    exact fin w' (fun k o hk _ => by rw [hh]; exact hk) (by rw [hh]) hsame
   ·by_cases h0 : xs = []
    ·subst h0
     rw [h5', hv] at h2
     refine (str_run_room L X0 b' g cap v0 fr w h2).mono ?_
     rintro e w' ⟨rfl, hh, hsame⟩
     exact fin w' (fun k o hk _ => by rw [hh]; exact hk) (by rw [hh]) hsame
    ·have h2' := h2
     rw [h5', hv] at h2'
     refine (str_run L X0 b' g cap xs v0 fr fr2 cur w h2' hg (by omega) hcs (by omega) h0).mono ?_
     rintro e w' ⟨rfl, W, hW, hs, rfl⟩
     refine fin _ (fun k o hk hne => ?_) (by rw [freeze_size, hW]) ?_
     ·rw [freeze_heap _ _ _ (fun e => hne (by rw [hv, e]; rfl)), hW]; exact hk
     ·have h1 := freeze_same W ⟨g, 0, none⟩ xs.length
      exact hs.trans h1
theorem copyCheck_valid {cx : Cx} (L : Lays.n240 P ρ) (X0 : Builder.X72 P ρ) :
    (⟨ρ.f 240, [.one (.con (.ref 0 0))], [.bd (ρ.t 72) (.con (.rs 1)), .brow (ρ.t 5)], fun x => some ((), x.2)⟩ : FX (.tup []) [.bd (ρ.t 72) (.con (.rs 1)), .brow (ρ.t 5)]).Valid P cx := by
 rintro ⟨⟨u0, u1⟩, s0, xs, u⟩ ⟨y, y0, ys, u3⟩ hm X β w vs hpre
 have hm' : some ((), (s0, xs, u)) = some (y, (y0, ys, u3)) := hm
 simp only [Option.some.injEq, Prod.mk.injEq] at hm'
 obtain ⟨_, _, rfl, _⟩ := hm'
 obtain ⟨b, v0, v1, fr, h1, h2, h3, h4, h5⟩ := hpre.slots 0 (.bd (ρ.t 72) (.rs 1)) rfl
 have hrow := hpre.slots 1 (.brow (ρ.t 5) xs) rfl
 match vs, hpre.args with
 | [a], ⟨ha, _⟩ =>
  obtain ⟨b', hb', rfl⟩ : ∃ b', boxAt (β 0) b' ∧ a = .pointer (some ⟨b', 0, none⟩) := ha
  have : b' = b := by have := hb'.symm.trans h1; simpa using this
  subst this
  have hblk0 : blk (β 0) = some b' := by rw [h1]; rfl
  have hne : blk (β 1) ≠ some b' := by
   intro hh
   have := hpre.inj 0 1 _ _ b' rfl rfl hblk0 hh
   cases this
  have fin : ∀ (w' : World) (v0' : Value), (v0' = .pointer none ∨ v0' = .pointer (some ⟨b', 0, none⟩)) → w'.heap[b']? = some (.cells #[v0', v1] (ρ.t 72) fr) → (∀ k o, w.heap[k]? = some o → k ≠ b' → w'.heap[k]? = some o) → w'.heap.size = w.heap.size → Same w w' →
      ∃ v β', (Ending.returned (.tuple #[])) = .returned v ∧ Ans X β w (SSs.enc [.bd (ρ.t 72) (.con (.rs 1)), .brow (ρ.t 5)] (s0, xs, u)) (VT.enc (.tup []) y) (SSs.enc [.bd (ρ.t 72) (.con (.rs 1)), .brow (ρ.t 5)] (y0, xs, u3)) v w' β' := by
   intro w' v0' hv0 hb2 hfr hsz hsame
   refine ⟨_, β, rfl, ⟨[], rfl, trivial⟩, ?_, ?_, ?_, ?_, by omega, hsame, fun k s _ _ => rfl, ?_⟩
   ·intro k s hk
    match k, hk with
    | 0, hk =>
     have hk' : Slot.bd (ρ.t 72) (.rs 1) = s := by simpa [SSs.enc, nth, SS.enc, CT.enc] using hk
     subst hk'
     exact ⟨b', v0', v1, fr, h1, hb2, h3, hv0, h5⟩
    | 1, hk =>
     have hk' : Slot.brow (ρ.t 5) xs = s := by simpa [SSs.enc, nth, SS.enc] using hk
     subst hk'
     rcases hrow with hh | ⟨g, cap, cur, fr2, hv, hg, hth, hlc, hcap, hcs⟩
     ·exact .inl hh
     ·exact .inr ⟨g, cap, cur, fr2, hv, hfr _ _ hg (fun e => hne (by rw [hv, ← e]; rfl)), hth, hlc, hcap, hcs⟩
    | k + 2, hk => simp [SSs.enc, nth] at hk
   ·intro j k s s' bb hj hk
    have e : ∀ i s, nth (SSs.enc [.bd (ρ.t 72) (.con (.rs 1)), .brow (ρ.t 5)] (y0, xs, u3)) i = some s → ∃ t, nth (SSs.enc [.bd (ρ.t 72) (.con (.rs 1)), .brow (ρ.t 5)] (s0, xs, u)) i = some t := by
     intro i s hi
     match i, hi with
     | 0, _ => exact ⟨_, rfl⟩
     | 1, _ => exact ⟨_, rfl⟩
     | i + 2, hi => simp [SSs.enc, nth] at hi
    obtain ⟨t1, g1⟩ := e j s hj
    obtain ⟨t2, g2⟩ := e k s' hk
    exact hpre.inj j k t1 t2 bb g1 g2
   ·intro bb o hb hnb
    exact hfr bb o hb (fun e => hnb ⟨0, _, rfl, by rw [e]; exact hblk0⟩)
   ·rintro bb ⟨k, s, hk, hbk⟩
    have : ∃ t, nth (SSs.enc [.bd (ρ.t 72) (.con (.rs 1)), .brow (ρ.t 5)] (s0, xs, u)) k = some t := by
     match k, hk with
     | 0, _ => exact ⟨_, rfl⟩
     | 1, _ => exact ⟨_, rfl⟩
     | k + 2, hk => simp [SSs.enc, nth] at hk
    obtain ⟨t, ht⟩ := this
    exact ⟨.inl ⟨k, t, ht, hbk⟩, hpre.apart bb ⟨k, t, ht, hbk⟩⟩
   ·intro k s hk hf s' hk'
    match k, hk with
    | 0, _ =>
     have : Slot.bd (ρ.t 72) (.rs 1) = s' := by simpa [SSs.enc, nth, SS.enc, CT.enc] using hk'
     subst this; rfl
    | 1, hk =>
     have hk' : Slot.brow (ρ.t 5) xs = s := by simpa [SSs.enc, nth, SS.enc] using hk
     subst hk'; cases hf
    | k + 2, hk => simp [SSs.enc, nth] at hk
  refine .inl ⟨enters_of L.f240 (by kernel_rfl) rfl _ _, ?_⟩
  have c0 : w.cell? ⟨b', 0, none⟩ = some v0 := by rw [Lib.cell_of_heap h2]; rfl
  rcases h4 with rfl | rfl
  ·refine (Any.Builder_copyCheck_fresh L X0 b' w c0 (by simp [World.shape?, h2]) ?_).mono ?_
   ·have := h3 0 (by simp)
    simp only [World.frozen?, h2]
    simpa using this
   ·rintro e w' ⟨rfl, rfl⟩
    refine fin _ _ (.inr rfl) ?_ (fun k o hk hne' => ?_) (by simp [World.setCell]) ⟨rfl, rfl, rfl⟩
    ·simp [World.setCell, Array.getElem?_modify, h2]
    ·simp only [World.setCell, Array.getElem?_modify]
     rw [if_neg (fun e => hne' e.symm)]; exact hk
  ·refine (Any.Builder_copyCheck_used L X0 b' w c0).mono ?_
   rintro e w' ⟨rfl, rfl⟩
   exact fin w' _ (.inr rfl) h2 (fun k o hk _ => hk) rfl (Same.refl w')
theorem copyCheck_valid166 {cx : Cx} (L : Lays.n166 P ρ) (X0 : Builder.Extra P ρ) :
    (⟨ρ.f 240, [.one (.con (.ref 0 0))], [.bd (ρ.t 72) (.con (.rs 1)), .brow (ρ.t 5)], fun x => some ((), x.2)⟩ : FX (.tup []) [.bd (ρ.t 72) (.con (.rs 1)), .brow (ρ.t 5)]).Valid P cx := copyCheck_valid { L with } X0.toX72
theorem copyCheck_valid167 {cx : Cx} (L : Lays.n167 P ρ) (X0 : Builder.Extra P ρ) :
    (⟨ρ.f 240, [.one (.con (.ref 0 0))], [.bd (ρ.t 72) (.con (.rs 1)), .brow (ρ.t 5)], fun x => some ((), x.2)⟩ : FX (.tup []) [.bd (ρ.t 72) (.con (.rs 1)), .brow (ρ.t 5)]).Valid P cx := copyCheck_valid { L with } X0.toX72
theorem copyCheck_valid105 {cx : Cx} (L : Lays.n105 P ρ) (X0 : Builder.Extra P ρ) :
    (⟨ρ.f 240, [.one (.con (.ref 0 0))], [.bd (ρ.t 72) (.con (.rs 1)), .brow (ρ.t 5)], fun x => some ((), x.2)⟩ : FX (.tup []) [.bd (ρ.t 72) (.con (.rs 1)), .brow (ρ.t 5)]).Valid P cx := copyCheck_valid { L with } X0.toX72
theorem copyCheck_valid156 {cx : Cx} (L : Lays.n156 P ρ) (X0 : Builder.Extra P ρ) :
    (⟨ρ.f 240, [.one (.con (.ref 0 0))], [.bd (ρ.t 72) (.con (.rs 1)), .brow (ρ.t 5)], fun x => some ((), x.2)⟩ : FX (.tup []) [.bd (ρ.t 72) (.con (.rs 1)), .brow (ρ.t 5)]).Valid P cx := copyCheck_valid { L with } X0.toX72
end
end Go.AM
/- strings.Index, as the library's contract tells it: it reads a variable of the library, of which only its kind is known. -/
set_option linter.unusedSimpArgs false
set_option linter.unusedVariables false
namespace Go.AM
open Go Go.RowKit Go.Proofs Go.Shelf
theorem cells_of_cell {w : World} {g : Nat} {v : Value} (h : w.cell? ⟨g, 0, none⟩ = some v) : ∃ vals el fr, w.heap[g]? = some (.cells vals el fr) ∧ vals[0]? = some v := by
 unfold World.cell? at h
 split at h
 ·rename_i vals el fr hh
  exact ⟨vals, el, fr, hh, by simpa using h⟩
 all_goals (first | (cases h; done) | (simp at h; done))
theorem glob_int {w : World} {g : Nat} {k : IntKind} {m : Int} (h : w.cell? ⟨g, 0, none⟩ = some (.int k m)) : Rep X0 w (.ptr (.int k)) m [.pointer (some ⟨g, 0, none⟩)] := by
 obtain ⟨vals, el, fr, h1, h2⟩ := cells_of_cell h
 refine ⟨g, rfl, fun hh => hh, vals, el, fr, h1, [.int k m], rfl, fun j u hj => ?_⟩
 cases j with
 | zero => simp at hj; subst hj; exact h2
 | succ j => simp at hj
def indexM (s sub : List UInt8) : Option (Int × Unit) := if s.length < 4294967281 then some (Lib.index s sub, ()) else none
theorem index_valid {P : Program} {cx : Cx} {ρ : Ren} (L : Lays.n143 P ρ) (hG : ∃ m : Int, cx.G (ρ.g 1) = some ⟨.int .i64, m⟩) :
    (⟨ρ.f 143, [.one (.ty .str), .one (.ty .str)], [], fun x => indexM x.1.1 x.1.2.1⟩ : FX (.v (.one (.ty (.int .i64)))) []).Valid P cx := by
 rintro ⟨⟨s, sub, u⟩, u2⟩ ⟨y, y2⟩ hm X β w vs hpre
 have hm' : indexM s sub = some (y, ()) := hm
 unfold indexM at hm'
 split at hm'
 case isFalse => cases hm'
 case isTrue hc =>
  simp only [Option.some.injEq, Prod.mk.injEq, and_true] at hm'
  subst hm'
  obtain ⟨m, hG⟩ := hG
  have hg := hpre.glob _ _ _ hG
  match vs, hpre.args with
  | [v1, v2], ⟨h1, h2, _⟩ =>
   have h1' : v1 = .string ⟨s.toArray⟩ := h1
   have h2' : v2 = .string ⟨sub.toArray⟩ := h2
   subst h1'; subst h2'
   have hcell : w.cell? ⟨ρ.g 1, 0, none⟩ = some (.int .i64 m) := by
    obtain ⟨b, hb, _, vals, el, fr, hh, us, hu, hcs⟩ := hg
    have hu' : us = [.int .i64 m] := hu
    subst hu'
    simp at hb
    subst hb
    unfold World.cell?
    rw [hh]
    simpa using hcs 0 _ rfl
   refine .inl ⟨enters_of L.f143 (by kernel_rfl) rfl _ _, (Any.strings_Index L ⟨s.toArray⟩ ⟨sub.toArray⟩ m w (by simpa [str_size] using hc) hcell).mono ?_⟩
   rintro e w' ⟨rfl, rfl⟩
   exact ⟨_, β, rfl, Ans.here rfl⟩
theorem globOne {w : World} {G1 : Nat} {m : Int} (h : w.cell? ⟨G1, 0, none⟩ = some (.int .i64 m)) : ∀ (g : Nat) (t : Ty) (x : t.El), (bif Nat.beq g G1 then some (⟨.int .i64, m⟩ : Sigma Ty.El) else none) = some ⟨t, x⟩ → Rep X0 w (.ptr t) x [.pointer (some ⟨g, 0, none⟩)] := by
 intro g t x hh
 cases hb : Nat.beq g G1 with
 | false => rw [hb] at hh; cases hh
 | true =>
  rw [hb] at hh
  have := (beq_iff _ _).1 hb
  subst this
  simp only [cond_true, Option.some.injEq, Sigma.mk.injEq] at hh
  obtain ⟨rfl, hh⟩ := hh
  have hh := eq_of_heq hh
  subst hh
  exact glob_int h
end Go.AM
/- The row's wrap, the world's shape kept: what the row lists ('X') and the shape are both handed on. -/
set_option linter.unusedVariables false
namespace Go.AM
open Go
variable {H : Type} {enc : TypeId × Value → H}
theorem returnsShaped {a : Assume} {C : Checked} {os : Os} {f : FuncId} {fn : Func} {s : ChangeSpec} {conds : List PathCond} {apart fresh handsOn again : Bool} {X : World → Array Value → Prop}
    (hX : ∀ (w w' : World) (args : Array Value), w.heap = w'.heap → X w args → X w' args)
    (own : ownKnob C.prog.godebug = none) (started : os.Started) (noInit : C.prog.inits.idxOf? f = none) (hfn : C.prog.funcs[f]? = some fn)
    (witness : ∃ (w : World) (tape : Tape) (i : Input), w.os = os ∧ (w.forCall tape i).Shaped C.prog ∧ i.vars = [] ∧ Input.okWide C.prog (w.forCall tape i) .any w.heap.size f i ∧
     ((s.pre enc C.prog fn conds apart (w.forCall tape i).memory i.args ∧ X (w.forCall tape i).memory i.args) ∧ sizedMet enc C.prog fn (OpenSpec.ofChange s) apart (w.forCall tape i).memory i.args) ∧ a.holds C.prog (lone (Frame.enter C.prog f i.args .normal) [] (w.forCall tape i)))
    (contract : ∀ (W : World) (base : Nat) (args : Array Value) (ds gs : List (DataW H)) (before : List MemPlace),
     (∀ (j : Nat) t v, fn.params[j]? = some t → args[j]? = some v → Value.okWide C.prog W .any base t v) →
     DataW.Whole enc C.prog fn.params.toList s.vars apart W args.toList ds gs before →
     conds.all (PathCond.test C.prog ⟨fn.params.toList, ds, s.plain.varTypes C.prog, gs⟩) = true →
     (DataW.weightsEach C.prog (fn.params.toList ++ s.plain.varTypes C.prog) (ds ++ gs)).all (· ≤ reachBytes) = true → X W args → W.ShapedOpen C.prog →
     Calls C.prog f args W fun e W' => ∃ v, e = .returned v ∧ s.post enc C.prog fn apart fresh handsOn again W args v W') :
    ReturnsInHanded a C os f .any (fun w args => (s.pre enc C.prog fn conds apart w args ∧ X w args) ∧ sizedMet enc C.prog fn (OpenSpec.ofChange s) apart w args) (s.post enc C.prog fn apart fresh handsOn again) := by
 refine returnsInHanded_of_calls own started noInit witness ?_
 intro w tape i _ hsh _ hok hpre hholds
 obtain ⟨_, _, _, fn', hfn', _, _, _, _, hval⟩ := hok
 have e : fn' = fn := Option.some.inj (hfn'.symm.trans hfn)
 subst e
 obtain ⟨⟨⟨ds, gs, before, hw, hc⟩, hx⟩, hz⟩ := hpre
 have hw' := DataW.Whole.of_heap (w' := w.forCall tape i) (by rfl) hw
 refine (contract (w.forCall tape i) w.heap.size i.args ds gs before hval hw' hc (hz.weights hw) (hX _ _ _ (by rfl) hx) hsh).mono fun e W' ⟨v, he, hp⟩ => ?_
 subst he
 exact ChangeSpec.post_blind hp
end Go.AM
/- Variables of the program: what the row lays stands in the world. -/
set_option linter.unusedVariables false
set_option linter.unusedSimpArgs false
namespace Go.AM
open Go Go.RowKit
section
variable {P : Program}
/-- What reads at type t as d stands for a. -/
def OpD (P : Program) (t : TypeId) (ty : Ty) (d : DataW Unit) (a : ty.El) : Prop :=
 ∀ (w : World) (base : Nat) (spare : Nat → Bool) (held : Bool) (fuel : Nat) (cs : List Value) (p : List MemPlace), DataW.trod (fun _ => ()) P w base spare held fuel t cs = some (d, p) → Rep X0 w ty a cs
theorem opD_int {t : TypeId} {k : IntKind} (ht : P.underlying t = some (.int k)) (n : Int) : OpD P t (.int k) (.lit (.int k n)) n := by
 intro w base spare held fuel cs p h
 obtain ⟨m, rfl, hx, _⟩ := DataW.trod_int ht h
 simp only [Prod.mk.injEq, DataW.lit.injEq, Lit.int.injEq, true_and] at hx
 rw [hx.1]; rfl
theorem chunk_flat {sz : Nat} : ∀ (n : Nat) (cs : List Value), cs.length = n * sz → ((List.range n).map (fun i => (cs.drop (i * sz)).take sz)).flatten = cs
 | 0, cs, h => by simp at h; subst h; rfl
 | n + 1, cs, h => by
  rw [List.range_succ_eq_map, List.map_cons, List.flatten_cons, List.map_map]
  have ih := chunk_flat (sz := sz) n (cs.drop sz) (by rw [List.length_drop, h, Nat.succ_mul]; omega)
  have e : (List.range n).map ((fun i => (cs.drop (i * sz)).take sz) ∘ Nat.succ) = (List.range n).map (fun i => ((cs.drop sz).drop (i * sz)).take sz) := List.map_congr_left fun i _ => by
   show (cs.drop ((i + 1) * sz)).take sz = _
   rw [List.drop_drop, Nat.succ_mul, Nat.add_comm]
  rw [e, ih, Nat.zero_mul, List.drop_zero, List.take_append_drop]
theorem opD_arr {t e : TypeId} {n : Nat} {ty : Ty} {ds : List (DataW Unit)} {vs : List ty.El} (ht : P.underlying t = some (.array n e)) (hz : P.cellsOf e = ty.size) (hc : P.cellsOf t = n * ty.size) (hl : vs.length = n)
    (h : All2 (OpD P e ty) ds vs) : OpD P t (.arr n ty) (.agg ds) vs := by
 intro w base spare held fuel cs p hx
 obtain ⟨xs, m, _, ex, hcl, hxl, hi⟩ := DataW.trod_array ht hx
 simp only [Prod.mk.injEq, DataW.agg.injEq] at ex
 obtain ⟨ex, _⟩ := ex
 rw [hc] at hcl
 rw [hz] at hi
 refine ⟨hl, (List.range n).map (fun i => (cs.drop (i * ty.size)).take ty.size), (chunk_flat n cs hcl).symm, ?_⟩
 refine All2.of_get (by rw [hl]; simp) fun i a us ha hus => ?_
 have hin : i < n := by rw [← hl]; exact (List.getElem?_eq_some_iff.1 ha).1
 rw [List.getElem?_map, List.getElem?_range hin, Option.map_some, Option.some.injEq] at hus
 subst hus
 have h1 := hi i hin
 have hx2 : xs[i]? = some (xs[i]'(by omega)) := List.getElem?_eq_getElem _
 rw [hx2] at h1
 have hd : ds[i]? = some (xs[i]'(by omega)).1 := by rw [ex, List.getElem?_map, hx2]; rfl
 obtain ⟨a', ha', hO⟩ := h.get hd
 rw [ha] at ha'
 simp only [Option.some.injEq] at ha'
 subst ha'
 exact hO w base spare held m _ _ h1
theorem opD_ints {t : TypeId} {k : IntKind} (ht : P.underlying t = some (.int k)) : ∀ l : List Int, All2 (OpD P t (.int k)) (l.map fun n => DataW.lit (.int k n)) l
 | [] => trivial
 | n :: l => ⟨opD_int ht n, opD_ints ht l⟩
theorem opD_arr1 {t e : TypeId} {n : Nat} {k : IntKind} (ht : P.underlying t = some (.array n e)) (he : P.underlying e = some (.int k)) (hz : P.cellsOf e = 1) (hc : P.cellsOf t = n * 1) (l : List Int) (hl : l.length = n) :
    OpD P t (.arr n (.int k)) (.agg (l.map fun n => .lit (.int k n))) l := opD_arr ht hz hc hl (opD_ints he l)
theorem opD_rows {t : TypeId} {n : Nat} {k : IntKind} (h : ∀ l : List Int, l.length = n → OpD P t (.arr n (.int k)) (.agg (l.map fun n => .lit (.int k n))) l) :
    ∀ ll : List (List Int), (∀ l ∈ ll, l.length = n) → All2 (OpD P t (.arr n (.int k))) (ll.map fun l => DataW.agg (l.map fun n => .lit (.int k n))) ll
 | [], _ => trivial
 | l :: ll, hl => ⟨h l (hl l (List.mem_cons_self ..)), opD_rows h ll (fun x hx => hl x (List.mem_cons_of_mem _ hx))⟩
theorem opD_arr2 {t r e : TypeId} {m n : Nat} {k : IntKind} (ht : P.underlying t = some (.array m r)) (hr : P.underlying r = some (.array n e)) (he : P.underlying e = some (.int k)) (hz : P.cellsOf e = 1) (hcr : P.cellsOf r = n * 1) (hzr : P.cellsOf r = (Ty.arr n (.int k)).size) (hc : P.cellsOf t = m * (Ty.arr n (.int k)).size)
    (ll : List (List Int)) (hl : ll.length = m) (hll : ∀ l ∈ ll, l.length = n) : OpD P t (.arr m (.arr n (.int k))) (.agg (ll.map fun l => .agg (l.map fun n => .lit (.int k n)))) ll :=
 opD_arr ht hzr hc hl (opD_rows (fun l h => opD_arr1 hr he hz hcr l h) ll hll)
theorem laid_in {W : World} {nm : String} {d : DataW Unit} : ∀ {l : List (String × DataW Unit)} {ps : List MemPlace}, DataW.LaidVars P W l ps → (nm, d) ∈ l →
    ∃ g t cs fuel p held spare base, P.globalNamed nm = some g ∧ (P.globals[g]?).map (·.type) = some t ∧ W.var? P nm = some cs ∧ DataW.trod (fun _ => ()) P W base spare held fuel t cs.toList = some (d, p)
 | [], _, _, h => by cases h
 | (n, e) :: r, ps, h, hm => by
  obtain ⟨g, t, cs, fuel, p, q, h1, h2, h3, h4, h5, _⟩ := h
  rcases List.mem_cons.1 hm with e1 | hm
  ·simp only [Prod.mk.injEq] at e1
   obtain ⟨rfl, rfl⟩ := e1
   exact ⟨g, t, cs, fuel, p, _, _, _, h1, h2, h3, h4⟩
  ·exact laid_in h5 hm
theorem globVar {W : World} {laid : List (String × DataW Unit)} {nm : String} {d : DataW Unit} {g t : Nat} {ty : Ty} {a : ty.El} (h : laidMet P laid W) (hm : (nm, d) ∈ laid) (hg : P.globalNamed nm = some g) (ht : (P.globals[g]?).map (·.type) = some t) (hD : OpD P t ty d a) :
    Rep X0 W (.ptr ty) a [.pointer (some ⟨g, 0, none⟩)] := by
 obtain ⟨ps, hv, _, _⟩ := h
 obtain ⟨g', t', cs, fuel, p, held, spare, base, h1, h2, h3, h4⟩ := laid_in hv hm
 obtain rfl := Option.some.inj (hg.symm.trans h1)
 obtain rfl := Option.some.inj (ht.symm.trans h2)
 have hr := hD W base spare held fuel cs.toList p h4
 unfold World.var? at h3
 rw [h1] at h3
 simp only [Option.bind_some] at h3
 split at h3
 ·rename_i vals el fr hh
  simp only [Option.some.injEq] at h3
  subst h3
  exact ⟨_, rfl, fun hf => hf, _, _, _, hh, _, hr, fun j u hj => by simpa using hj⟩
 ·cases h3
theorem globNil {W : World} : ∀ (g : Nat) (t : Ty) (x : t.El), (none : Option (Sigma Ty.El)) = some ⟨t, x⟩ → Rep X0 W (.ptr t) x [.pointer (some ⟨g, 0, none⟩)] := fun g t x h => by cases h
theorem globCons {W : World} {G : Nat} {t0 : Ty} {x0 : t0.El} {rest : Nat → Option (Sigma Ty.El)} (h0 : Rep X0 W (.ptr t0) x0 [.pointer (some ⟨G, 0, none⟩)]) (hr : ∀ (g : Nat) (t : Ty) (x : t.El), rest g = some ⟨t, x⟩ → Rep X0 W (.ptr t) x [.pointer (some ⟨g, 0, none⟩)]) :
    ∀ (g : Nat) (t : Ty) (x : t.El), (bif Nat.beq g G then some (⟨t0, x0⟩ : Sigma Ty.El) else rest g) = some ⟨t, x⟩ → Rep X0 W (.ptr t) x [.pointer (some ⟨g, 0, none⟩)] := by
 intro g t x hh
 cases hb : Nat.beq g G with
 | false => rw [hb] at hh; exact hr g t x hh
 | true =>
  rw [hb] at hh
  have := (beq_iff _ _).1 hb
  subst this
  simp only [cond_true, Option.some.injEq, Sigma.mk.injEq] at hh
  obtain ⟨rfl, hh⟩ := hh
  have hh := eq_of_heq hh
  subst hh
  exact h0
end
end Go.AM
