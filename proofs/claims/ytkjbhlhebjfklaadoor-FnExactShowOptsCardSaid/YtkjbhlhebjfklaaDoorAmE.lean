/- Part E of a maker of conditions for walks, and why it is sound. -/
import Derived.Test.YtkjbhlhebjfklaaDoorAmD
import Derived.ChangeArms
import Derived.DataReads
import Derived.WideShapes
import Derived.Deep.Slices
import Derived.RowKit
import Derived.Below
import Derived.Lib.Bytealg
import Derived.Shelf.Strings.OnBuilder
import Derived.Shelf.Strings.Repeat
import Derived.Shelf.Strings.Builder1
import Derived.Shelf.Strings.Search3
import Derived.SizedLaws
import Derived.Handed
import Derived.Lib.Overlaps
import Derived.Lib.AppendZerosOnto
import Derived.Shelf.Spec.SlicesInsert
set_option linter.unusedVariables false
set_option linter.unusedSimpArgs false
set_option linter.unusedVariables false
set_option linter.unusedSimpArgs false
namespace Go.AM
open Go Go.RowKit
section
variable {P : Program}
/-- Whatever reads at type t stands for a value of the shape ty, with Q. -/
def OpR (P : Program) (t : TypeId) (ty : Ty) (Q : ty.El → Prop) : Prop :=
  ∀ {H : Type} (enc : TypeId × Value → H) (w : World) (base : Nat) (spare : Nat → Bool) (held : Bool) (fuel : Nat) (cs : List Value) (x : DataW H × List MemPlace),
    DataW.trod enc P w base spare held fuel t cs = some x → ∃ a : ty.El, Rep X0 w ty a cs ∧ Q a
theorem opR_int {t : TypeId} {k : IntKind} (ht : P.underlying t = some (.int k)) : OpR P t (.int k) (fun n => (Lit.int k n).wf = true) := by
  intro H enc w base spare held fuel cs x h
  obtain ⟨n, rfl, _, hw⟩ := DataW.trod_int ht h
  exact ⟨n, rfl, hw⟩
theorem opR_bool {t : TypeId} (ht : P.underlying t = some .bool) : OpR P t .bool (fun _ => True) := by
  intro H enc w base spare held fuel cs x h
  obtain ⟨n, rfl, _⟩ := DataW.trod_bool ht h
  exact ⟨n, rfl, trivial⟩
theorem opR_str {t : TypeId} (ht : P.underlying t = some .string) : OpR P t .str (fun s => List.length (α := UInt8) s ≤ maxLen) := by
  intro H enc w base spare held fuel cs x h
  obtain ⟨s, rfl, _, hs⟩ := DataW.trod_string ht h
  refine ⟨s.data.toList, ?_, ?_⟩
  · show [Value.string s] = [.string ⟨s.data.toList.toArray⟩]
    cases s; simp
  · show s.data.toList.length ≤ maxLen
    rw [Array.length_toList]; exact hs
/-- The fields fs, from offset o on, stand for a value of the shape ty in line. -/
def OpRAt (P : Program) (fs : List Field) (o total : Nat) (ty : Ty) (Q : ty.El → Prop) : Prop :=
  ∀ {H : Type} (enc : TypeId × Value → H) (w : World) (base : Nat) (spare : Nat → Bool) (held : Bool) (n : Nat) (cs : List Value), cs.length = total →
    (∀ f ∈ fs, ∃ x, DataW.trod enc P w base spare held n f.type ((cs.drop f.offset).take (P.cellsOf f.type)) = some x) → ∃ a : ty.El, Rep X0 w ty a (cs.drop o) ∧ Q a
theorem opR_last {f : Field} {o total : Nat} {ty : Ty} {Q : ty.El → Prop} (h : OpR P f.type ty Q) (ho : f.offset = o) (ht : o + P.cellsOf f.type = total) : OpRAt P [f] o total ty Q := by
  intro H enc w base spare held n cs hl hf
  obtain ⟨x, hx⟩ := hf f (by simp)
  rw [ho, List.take_of_length_le (by rw [List.length_drop]; omega)] at hx
  exact h enc w base spare held n _ x hx
theorem opR_cons {f : Field} {fs : List Field} {o total : Nat} {ty ty' : Ty} {Q : ty.El → Prop} {Q' : ty'.El → Prop} (h : OpR P f.type ty Q) (ho : f.offset = o)
    (hr : OpRAt P fs (o + P.cellsOf f.type) total ty' Q') : OpRAt P (f :: fs) o total (.pair ty ty') (fun a => Q a.1 ∧ Q' a.2) := by
  intro H enc w base spare held n cs hl hf
  obtain ⟨x, hx⟩ := hf f (by simp)
  obtain ⟨a, ha, qa⟩ := h enc w base spare held n _ x hx
  obtain ⟨b, hb, qb⟩ := hr enc w base spare held n cs hl (fun g hg => hf g (by simp [hg]))
  refine ⟨(a, b), ⟨_, _, ?_, ha, hb⟩, qa, qb⟩
  rw [ho, ← List.drop_drop, List.take_append_drop]
theorem opR_struct {t : TypeId} {fs : Array Field} {ty : Ty} {Q : ty.El → Prop} (total : Nat) (ht : P.underlying t = some (.struct fs)) (hc : P.cellsOf t = total)
    (h : OpRAt P fs.toList 0 total ty Q) : OpR P t ty Q := by
  intro H enc w base spare held fuel cs x hx
  obtain ⟨xs, n, _, _, hl, hlen, hf⟩ := DataW.trod_struct ht hx
  obtain ⟨a, ha, qa⟩ := h enc w base spare held n cs (hl.trans hc) (fun f hfm => by
    obtain ⟨i, hi, rfl⟩ := List.getElem_of_mem hfm
    have hi' : i < fs.size := by simpa using hi
    have e : fs[i]? = some fs.toList[i] := by rw [Array.getElem?_eq_getElem hi']; simp
    have := hf i _ e
    rw [List.getElem?_eq_getElem (by omega)] at this
    exact ⟨_, this⟩)
  rw [List.drop_zero] at ha
  exact ⟨a, ha, qa⟩
theorem list_of {α : Type} (R : Nat → α → Prop) (n : Nat) (h : ∀ i, i < n → ∃ a, R i a) : ∃ l : List α, l.length = n ∧ ∀ i a, l[i]? = some a → R i a := by
  induction n with
  | zero => exact ⟨[], rfl, fun i a h => by simp at h⟩
  | succ n ih =>
    obtain ⟨l, hl, hr⟩ := ih (fun i hi => h i (by omega))
    obtain ⟨a, ha⟩ := h n (by omega)
    refine ⟨l ++ [a], by simp [hl], fun i b hb => ?_⟩
    by_cases hi : i < n
    · rw [List.getElem?_append_left (by omega)] at hb; exact hr i b hb
    · have hin : i = n := by
        have := (List.getElem?_eq_some_iff.1 hb).1
        simp at this; omega
      subst hin
      rw [List.getElem?_append_right (by omega), hl] at hb
      simp at hb
      subst hb; exact ha
theorem cell_row {w : World} {a : Addr} {u : Value} (h : w.cell? a = some u) : a.spot = none ∧ ∃ c el fr, w.heap[a.block]? = some (.cells c el fr) ∧ c[a.off]? = some u := by
  refine ⟨World.cell?_spot h, ?_⟩
  unfold World.cell? at h
  split at h
  · next c el fr hh =>
    split at h
    · cases h
    · exact ⟨c, el, fr, hh, h⟩
  · cases h
theorem add_row (a : Addr) (n : Nat) : (a.add n).block = a.block ∧ (a.add n).off = a.off + n := by
  unfold Addr.add
  split
  · next h => subst h; exact ⟨rfl, rfl⟩
  · exact ⟨rfl, rfl⟩
theorem opR_list {t e : TypeId} {ty : Ty} {Q : ty.El → Prop} (ht : P.underlying t = some (.slice e)) (hz : P.cellsOf e = ty.size) (hp : 0 < ty.size) (h : OpR P e ty Q) :
    OpR P t (.list ty) (fun l => List.length (α := ty.El) l ≤ maxLen ∧ ∀ a ∈ (l : List ty.El), Q a) := by
  intro H enc w base spare held fuel cs x hx
  rcases Go.Deep.open_slice ht hx with ⟨rfl, _⟩ | ⟨a, len, cap, m, n, D, Pl, rfl, hb, hl, hm, hmm, _, hi⟩
  · exact ⟨([] : List ty.El), ⟨none, 0, rfl, Nat.le_refl _, Or.inl rfl⟩, Nat.zero_le _, fun a ha => nomatch ha⟩
  · have hlm : len ≤ m := by rw [hmm]; split <;> omega
    obtain ⟨l, hll, hr⟩ := list_of (fun i (a' : ty.El) => Q a' ∧ ∃ c, c.length = ty.size ∧ Rep X0 w ty a' c ∧ ∀ j u, c[j]? = some u → w.cell? (a.add (i * ty.size + j)) = some u) len (fun i hil => by
      obtain ⟨cs', hc, ht'⟩ := hi i (by omega)
      obtain ⟨_, hcl, hat⟩ := World.cells?_some hc
      obtain ⟨a', hk, hq⟩ := h enc w base spare held n cs' _ ht'
      refine ⟨a', hq, cs', hcl.trans hz, hk, fun j u hu => ?_⟩
      have hj : j < cs'.length := (List.getElem?_eq_some_iff.1 hu).1
      have := hat j (by omega)
      rw [hu, hz] at this
      rw [← Go.Deep.add_add]; exact this)
    refine ⟨l, ⟨some a, cap, ?_, ?_, ?_⟩, ?_, fun b hb' => ?_⟩
    · show [Value.slice (some a) len cap] = [Value.slice (some a) (List.length l) cap]
      rw [hll]
    · show List.length l ≤ cap
      omega
    · cases l with
      | nil => exact Or.inl rfl
      | cons y l' =>
        right
        obtain ⟨_, c, hcl, _, hcc⟩ := hr 0 y rfl
        have h0 : c[0]? = some (c[0]'(by omega)) := List.getElem?_eq_getElem _
        obtain ⟨hsp, vals, el, fr, hh, _⟩ := cell_row (hcc 0 _ h0)
        have hsp' : a.spot = none := by
          rw [Nat.zero_mul] at hsp; exact hsp
        rw [(add_row a _).1] at hh
        refine ⟨a.block, a.off, ?_, ?_⟩
        · cases a; subst hsp'; rfl
        · refine ⟨fun hf => hf, vals, el, fr, hh, fun i z hz' => ?_⟩
          obtain ⟨_, c', _, hrep, hcc'⟩ := hr i z hz'
          refine ⟨c', hrep, fun j u hu => ?_⟩
          obtain ⟨hs2, vals', el', fr', hh', hv⟩ := cell_row (hcc' j u hu)
          obtain ⟨hb2, ho2⟩ := add_row a (i * ty.size + j)
          rw [hb2, hh] at hh'
          cases hh'
          rw [ho2] at hv
          rw [Nat.add_assoc]; exact hv
    · show List.length l ≤ maxLen
      omega
    · obtain ⟨i, hi', rfl⟩ := List.getElem_of_mem hb'
      exact (hr i _ (List.getElem?_eq_getElem hi')).1
end
end Go.AM
/- Functions of the library for which a contract is known. -/
set_option linter.unusedSimpArgs false
set_option linter.unusedVariables false
namespace Go.AM
open Go Go.RowKit

theorem Ans.below {X : Nat → Prop} {β : Nat → Value} {w w' : World} {r : V} {v : Value} (h : RepV β (YY X β []) w' r v) (hb : Below w.heap.size w w') : Ans X β w [] r [] v w' β := by
  refine ⟨h, fun k s hk => by simp [nth] at hk, fun j k s s' b hj => by simp [nth] at hj, fun b o hb' _ => ?_, ?_, hb.size, ⟨hb.os, hb.tape, hb.output⟩, fun k s hk => by simp [nth] at hk, fun k s hk => by simp [nth] at hk⟩
  · rw [hb.block b (by obtain ⟨h, _⟩ := Array.getElem?_eq_some_iff.1 hb'; exact h)]; exact hb'
  · rintro b ⟨k, s, hk, _⟩
    simp [nth] at hk
/-- A contract of the library, told as a model. -/
theorem FX.of_calls {P : Program} {cx : Cx} {rt : VT} (g : Nat) (vts : List VT1) (m : VT1s.El vts × SSs.El [] → Option (rt.El × SSs.El []))
    (henter : ∀ vs w, (callFunc g vs).run P w = .ok (.enter g vs) w)
    (h : ∀ (x : VT1s.El vts × SSs.El []) (y : rt.El × SSs.El []), m x = some y → ∀ (β : Nat → Value) (Y : Nat → Prop) w vs, RepVs β Y w (VT1s.enc vts x.1) vs → (∀ b, Y b → b < w.heap.size) →
      Calls P g vs.toArray w fun e w' => (∃ v, e = .returned v ∧ ∀ β Y, RepV β Y w' (rt.enc y.1) v) ∧ Below w.heap.size w w') : (⟨g, vts, [], m⟩ : FX rt []).Valid P cx := by
  rintro ⟨x, x2⟩ ⟨y, y2⟩ hr X β w vs hpre
  refine .inl ⟨henter _ _, (h _ _ hr β (YY X β []) w vs hpre.args ?_).mono ?_⟩
  · rintro b (hb | ⟨k, s, hk, _⟩)
    · exact hpre.outer b hb
    · simp [SSs.enc, nth] at hk
  · rintro e w' ⟨⟨v, rfl, hv⟩, hb⟩
    exact ⟨v, β, rfl, Ans.below (hv _ _) hb⟩
end Go.AM
/- strings.Join and strings.Repeat, as the library's contracts tell them. -/
set_option linter.unusedSimpArgs false
set_option linter.unusedVariables false
namespace Go.AM
open Go Go.RowKit Go.Proofs Go.Shelf

theorem cell_of_row {w : World} {b : Nat} {vals : Array Value} {el : TypeId} {fr : Nat × Nat} (h : w.heap[b]? = some (.cells vals el fr)) (o : Nat) : w.cell? ⟨b, o, none⟩ = vals[o]? := by
  unfold World.cell?; simp [h]
def joinM (xs : List (List UInt8)) (sep : List UInt8) : Option (List UInt8 × Unit) :=
  if xs.length ≤ 140737488355328 ∧ (Lib.join xs sep).length ≤ 140737488355328 then some (Lib.join xs sep, ()) else none
theorem join_valid {P : Program} {cx : Cx} {ρ : Ren} (L : Lays.n156 P ρ) (X : Builder.Extra P ρ) :
    (⟨ρ.f 156, [.one (.ty (.list .str)), .one (.ty .str)], [], fun x => joinM x.1.1 x.1.2.1⟩ : FX (.v (.one (.ty .str))) []).Valid P cx := by
  refine FX.of_calls _ _ _ (enters_of L.f156 (by kernel_rfl) rfl) ?_
  rintro ⟨⟨xs, sep, u⟩, u2⟩ ⟨y, y2⟩ hm β Y w vs hr hY
  have hm' : joinM xs sep = some (y, ()) := hm
  unfold joinM at hm'
  split at hm'
  case isFalse => cases hm'
  case isTrue hc =>
    simp only [Option.some.injEq, Prod.mk.injEq, and_true] at hm'
    match vs, hr with
    | [v1, v2], ⟨h1, h2, _⟩ =>
      have h2' : v2 = .string ⟨sep.toArray⟩ := h2
      subst h2'
      obtain ⟨a, cap, hv, hcap, hrow⟩ : Rep Y w (.list .str) xs [v1] := h1
      have hv' : v1 = .slice a xs.length cap := by simpa using hv
      subst hv'
      have fin : ∀ {e : Ending} {w' : World}, (e = .returned (.string ⟨(Lib.join xs sep).toArray⟩) ∧ Below w.heap.size w w') → (∃ v, e = .returned v ∧ ∀ β Y, RepV β Y w' (VT.enc (.v (.one (.ty .str))) y) v) ∧ Below w.heap.size w w' := by
        rintro e w' ⟨he, hb⟩
        refine ⟨⟨_, he, fun β Y => ?_⟩, hb⟩
        subst hm'; rfl
      have key := Any.strings_Join L X
      rcases hrow with h0 | ⟨b, off, rfl, hnb, vals, el, fr, hh, hc2⟩
      · have h0' : xs = [] := h0
        subst h0'
        refine (Any.strings_Join_none L X a cap ⟨sep.toArray⟩ w).mono fun e w' ⟨he, hw⟩ => fin ⟨?_, hw ▸ Below.refl _ _⟩
        rw [he]; rfl
      · have hmap : (xs.map fun s => (⟨s.toArray⟩ : ByteArray)).map (·.data.toList) = xs := by
          rw [List.map_map]; exact (List.map_congr_left (fun x _ => rfl)).trans (List.map_id _)
        have hlen : (xs.map fun s => (⟨s.toArray⟩ : ByteArray)).length = xs.length := List.length_map ..
        have := key b off cap (xs.map fun s => (⟨s.toArray⟩ : ByteArray)) ⟨sep.toArray⟩ w ?_ ?_ (by rw [hlen]; exact hc.1) (by rw [hlen]; exact hcap) (by rw [hmap]; exact hc.2)
        · rw [hlen, hmap] at this
          exact this.mono fun e w' h => fin h
        · intro j x hx
          rw [List.getElem?_map] at hx
          obtain ⟨s, hs, rfl⟩ := Option.map_eq_some_iff.1 hx
          obtain ⟨us, hu, hc3⟩ := hc2 j s hs
          have hu' : us = [.string ⟨s.toArray⟩] := hu
          subst hu'
          have := hc3 0 _ rfl
          rw [cell_of_row hh]
          simpa [Ty.size] using this
        · exact (Array.getElem?_eq_some_iff.1 hh).1
def repeatM (s : List UInt8) (c : Int) : Option (List UInt8 × Unit) :=
  if 0 ≤ c ∧ c ≤ 9223372036854775807 ∧ s.length * c.toNat ≤ 140737488355328 then some (Lib.repeatL s c.toNat, ()) else none
theorem repeat_valid {P : Program} {cx : Cx} {ρ : Ren} (L : Lays.n105 P ρ) (X : Builder.Extra P ρ) :
    (⟨ρ.f 105, [.one (.ty .str), .one (.ty (.int .i64))], [], fun x => repeatM x.1.1 x.1.2.1⟩ : FX (.v (.one (.ty .str))) []).Valid P cx := by
  refine FX.of_calls _ _ _ (enters_of L.f105 (by kernel_rfl) rfl) ?_
  rintro ⟨⟨s, c, u⟩, u2⟩ ⟨y, y2⟩ hm β Y w vs hr hY
  have hm' : repeatM s c = some (y, ()) := hm
  unfold repeatM at hm'
  split at hm'
  case isFalse => cases hm'
  case isTrue hc =>
    simp only [Option.some.injEq, Prod.mk.injEq, and_true] at hm'
    match vs, hr with
    | [v1, v2], ⟨h1, h2, _⟩ =>
      have h1' : v1 = .string ⟨s.toArray⟩ := h1
      have h2' : v2 = .int .i64 c := h2
      subst h1'; subst h2'
      obtain ⟨n, rfl⟩ : ∃ n : Nat, c = n := ⟨c.toNat, (Int.toNat_of_nonneg hc.1).symm⟩
      have := Any.strings_Repeat L X ⟨s.toArray⟩ n w (by omega) (by have := hc.2.2; rw [Int.toNat_natCast] at this; exact this)
      refine this.mono fun e w' ⟨he, hb⟩ => ⟨⟨_, he, fun β Y => ?_⟩, hb⟩
      subst hm'; rfl
end Go.AM
/- strings.Builder: copyCheck and String. -/
set_option linter.unusedSimpArgs false
set_option linter.unusedVariables false
namespace Go.AM
open Go Go.RowKit Go.Proofs Go.Shelf

def strOf (xs : List Int) : List UInt8 := xs.map fun n => n.toNat.toUInt8
theorem run_loadInts {P : Program} (w : World) : ∀ (l : List Int) (a : Addr) (acc : ByteArray), (∀ (j : Nat) x, l[j]? = some x → w.cell? (a.add j) = some (.int .u8 x)) →
    (loadBytes a acc l.length).run P w = .ok ⟨acc.data ++ (strOf l).toArray⟩ w
  | [], a, acc, _ => by simp [loadBytes, strOf]
  | x :: l, a, acc, h => by
    have h0 : w.cell? a = some (.int .u8 x) := by
      have := h 0 x rfl
      simpa [Addr.add] using this
    have ih := run_loadInts (P := P) w l (a.add 1) (acc.push x.toNat.toUInt8) (fun j y hy => by
      have := h (j + 1) y (by simpa using hy)
      have e : (a.add 1).add j = a.add (j + 1) := by
        unfold Addr.add
        by_cases hj : j = 0
        · subst hj; simp
        · simp [hj]; omega
      rw [e]; exact this)
    simp only [List.length_cons, loadBytes, Sem.run_bind, run_load, h0, Result.andThen]
    rw [ih]
    congr 1
    apply ByteArray.ext
    simp [ByteArray.push, strOf]
theorem run_unsafeString_ints {P : Program} (w : World) (pt it ty e : TypeId) (hp : P.underlying pt = some (.pointer e)) (hc : P.cellsOf e = 1) (g cells : Nat) (hsh : w.shape? g = some (e, cells)) (l : List Int) (h0 : l ≠ []) (hn : l.length ≤ cells) (h63 : l.length ≤ 9223372036854775807)
    (hcell : ∀ (j : Nat) x, l[j]? = some x → w.cell? ((⟨g, 0, none⟩ : Addr).add j) = some (.int .u8 x)) :
    (Builtin.unsafeString_ #[pt, it] ty #[.pointer (some ⟨g, 0, none⟩), .int .i64 l.length]).run P w = .ok (.string ⟨(strOf l).toArray⟩) (w.freeze ⟨g, 0, none⟩ l.length) := by
  have hl : l.length ≠ 0 := by simpa using h0
  have hlb := run_loadInts (P := P) w l ⟨g, 0, none⟩ .empty hcell
  have hlies := Lib.liesAt_bytes (P := P) hc (cells / P.cellsOf e) l.length (by rw [hc]; simpa using hn)
  have h63' : ¬ (9223372036854775807 : Int) < (l.length : Int) := by omega
  have hdef : Builtin.unsafeString_ #[pt, it] ty #[.pointer (some ⟨g, 0, none⟩), .int .i64 l.length] =
      (do
        let n ← asInt (.int .i64 l.length)
        if n < 0 then runtimePanic (.error "unsafe.String: len out of range")
        if n > IntKind.i64.max then unsupported (.unsafePointer "String: a length above the largest int")
        if n = 0 then pure (.string .empty)
        else if ← variablesAt ⟨g, 0, none⟩ (← elemOf pt) n.toNat then do
          let s ← loadBytes ⟨g, 0, none⟩ .empty n.toNat
          freeze ⟨g, 0, none⟩ n.toNat
          pure (.string s)
        else unsupported (.unsafePointer "String: not so many bytes at ptr")) := rfl
  rw [hdef]
  have hmax : IntKind.i64.max = 9223372036854775807 := rfl
  have hneg : ¬ (l.length : Int) < 0 := by omega
  simp [asInt, asIntOf, hmax, h63', hneg, hl, variablesAt, hsh, elemOf, run_underlying hp, hlies, hlb]
theorem freeze_heap (w : World) (a : Addr) (n : Nat) {k : Nat} (hk : k ≠ a.block) : (w.freeze a n).heap[k]? = w.heap[k]? := by
  unfold World.freeze
  split
  · rfl
  · simp only [Array.getElem?_modify]; rw [if_neg (fun e => hk e.symm)]
theorem freeze_same (w : World) (a : Addr) (n : Nat) : Same w (w.freeze a n) := by
  unfold World.freeze
  split
  · exact Same.refl w
  · exact ⟨rfl, rfl, rfl⟩
theorem freeze_size (w : World) (a : Addr) (n : Nat) : (w.freeze a n).heap.size = w.heap.size := by
  unfold World.freeze
  split
  · rfl
  · simp
section
variable {P : Program} {ρ : Ren}
set_option maxHeartbeats 2000000 in
set_option maxRecDepth 100000 in
theorem str_run (L : Lays.n169 P ρ) (X : Builder.Extra P ρ) (b g cap : Nat) (xs : List Int) (p : Value) (fr fr2 : Nat × Nat) (cur : Array Value) (w : World)
    (hbk : w.heap[b]? = some (.cells #[p, .slice (some ⟨g, 0, none⟩) xs.length (cap + 1)] (ρ.t 72) fr)) (hg : w.heap[g]? = some (.cells cur (ρ.t 5) fr2)) (hn : xs.length ≤ cur.size)
    (hc : ∀ (j : Nat) x, xs[j]? = some x → cur[j]? = some (.int .u8 x)) (h63 : xs.length ≤ 9223372036854775807) (h0 : xs ≠ []) :
    Calls P (ρ.f 169) #[.pointer (some ⟨b, 0, none⟩)] w fun e w' => e = .returned (.string ⟨(strOf xs).toArray⟩) ∧ ∃ W : World, W.heap = w.heap ∧ Same w W ∧ w' = W.freeze ⟨g, 0, none⟩ xs.length := by
  have c1 : w.drew.cell? ⟨b, 1, none⟩ = some (.slice (some ⟨g, 0, none⟩) xs.length (cap + 1)) := by
    have : w.drew.heap[b]? = some (.cells #[p, .slice (some ⟨g, 0, none⟩) xs.length (cap + 1)] (ρ.t 72) fr) := hbk
    rw [Lib.cell_of_heap this]; rfl
  have hSD : (Builtin.unsafeSliceData_ #[(ρ.t 37)] (ρ.t 127) #[.slice (some ⟨g, 0, none⟩) xs.length (cap + 1)]).run P w.drew = .ok (.pointer (some ⟨g, 0, none⟩)) w.drew :=
    Lib.run_unsafeSliceData_row _ _ _ _ _ _ (by omega)
  have hUS : (Builtin.unsafeString_ #[(ρ.t 127), (ρ.t 3)] (ρ.t 9) #[.pointer (some ⟨g, 0, none⟩), .int .i64 xs.length]).run P w.drew = .ok (.string ⟨(strOf xs).toArray⟩) (w.drew.freeze ⟨g, 0, none⟩ xs.length) := by
    have hg' : w.drew.heap[g]? = some (.cells cur (ρ.t 5) fr2) := hg
    refine run_unsafeString_ints w.drew (ρ.t 127) (ρ.t 3) (ρ.t 9) (ρ.t 5) L.t127 X.cellsByte g cur.size (by simp [World.shape?, hg']) xs h0 hn h63 ?_
    intro j x hx
    rw [Addr.add_lit, cell_at (w := w.drew) hg']
    simpa using hc j x hx
  have mixed := L.mixed
  have t72 := L.t72; have a72 := L.a72; have z72 := L.z72; have v72 := L.v72; have u72 := run_underlying L.t72
  have t70 := L.t70; have a70 := L.a70; have z70 := L.z70; have v70 := L.v70; have u70 := run_underlying L.t70
  have t37 := L.t37; have a37 := L.a37; have z37 := L.z37; have v37 := L.v37; have u37 := run_underlying L.t37
  have t127 := L.t127; have a127 := L.a127; have z127 := L.z127; have v127 := L.v127; have u127 := run_underlying L.t127
  have t3 := L.t3; have a3 := L.a3; have z3 := L.z3; have v3 := L.v3; have u3 := run_underlying L.t3
  have t9 := L.t9; have a9 := L.a9; have z9 := L.z9; have v9 := L.v9; have u9 := run_underlying L.t9
  have t5 := X.t5; have a5 := X.a5; have z5 := X.z5; have v5 := X.v5; have u5 := run_underlying X.t5
  go_enter L.f169, Body.n169_ntmps ρ
  go_wp2
  go_region_o
  all_goals (go_wp2; go_ret; exact ⟨rfl, w.drew, rfl, ⟨rfl, rfl, rfl⟩, rfl⟩)
set_option maxHeartbeats 2000000 in
set_option maxRecDepth 100000 in
theorem str_run_room (L : Lays.n169 P ρ) (X : Builder.Extra P ρ) (b g cap : Nat) (p : Value) (fr : Nat × Nat) (w : World) (hbk : w.heap[b]? = some (.cells #[p, .slice (some ⟨g, 0, none⟩) 0 (cap + 1)] (ρ.t 72) fr)) :
    Calls P (ρ.f 169) #[.pointer (some ⟨b, 0, none⟩)] w fun e w' => e = .returned (.string ⟨#[]⟩) ∧ w'.heap = w.heap ∧ Same w w' := by
  have hUS := Any.unsafeString_none L X
  have c1 : w.drew.cell? ⟨b, 1, none⟩ = some (.slice (some ⟨g, 0, none⟩) 0 (cap + 1)) := by
    have : w.drew.heap[b]? = some (.cells #[p, .slice (some ⟨g, 0, none⟩) 0 (cap + 1)] (ρ.t 72) fr) := hbk
    rw [Lib.cell_of_heap this]; rfl
  have hSD : (Builtin.unsafeSliceData_ #[(ρ.t 37)] (ρ.t 127) #[.slice (some ⟨g, 0, none⟩) 0 (cap + 1)]).run P w.drew = .ok (.pointer (some ⟨g, 0, none⟩)) w.drew :=
    Lib.run_unsafeSliceData_row _ _ _ _ _ _ (by omega)
  have mixed := L.mixed
  have t72 := L.t72; have a72 := L.a72; have z72 := L.z72; have v72 := L.v72; have u72 := run_underlying L.t72
  have t70 := L.t70; have a70 := L.a70; have z70 := L.z70; have v70 := L.v70; have u70 := run_underlying L.t70
  have t37 := L.t37; have a37 := L.a37; have z37 := L.z37; have v37 := L.v37; have u37 := run_underlying L.t37
  have t127 := L.t127; have a127 := L.a127; have z127 := L.z127; have v127 := L.v127; have u127 := run_underlying L.t127
  have t3 := L.t3; have a3 := L.a3; have z3 := L.z3; have v3 := L.v3; have u3 := run_underlying L.t3
  have t9 := L.t9; have a9 := L.a9; have z9 := L.z9; have v9 := L.v9; have u9 := run_underlying L.t9
  have t5 := X.t5; have a5 := X.a5; have z5 := X.z5; have v5 := X.v5; have u5 := run_underlying X.t5
  go_enter L.f169, Body.n169_ntmps ρ
  go_wp2
  go_region_o
  all_goals (go_wp2; go_ret; exact ⟨rfl, rfl, rfl, rfl, rfl⟩)
set_option maxHeartbeats 2000000 in
set_option maxRecDepth 100000 in
theorem str_run_nil (L : Lays.n169 P ρ) (X : Builder.Extra P ρ) (b : Nat) (p : Value) (fr : Nat × Nat) (w : World) (hbk : w.heap[b]? = some (.cells #[p, .slice none 0 0] (ρ.t 72) fr)) :
    Calls P (ρ.f 169) #[.pointer (some ⟨b, 0, none⟩)] w fun e w' => e = .returned (.string ⟨#[]⟩) ∧ w'.heap = w.heap ∧ Same w w' := by
  have hUS := Any.unsafeString_none L X
  have c1 : w.drew.cell? ⟨b, 1, none⟩ = some (.slice none 0 0) := by
    have : w.drew.heap[b]? = some (.cells #[p, .slice none 0 0] (ρ.t 72) fr) := hbk
    rw [Lib.cell_of_heap this]; rfl
  have hSD : (Builtin.unsafeSliceData_ #[(ρ.t 37)] (ρ.t 127) #[.slice none 0 0]).run P w.drew = .ok (.pointer none) w.drew := rfl
  have mixed := L.mixed
  have t72 := L.t72; have a72 := L.a72; have z72 := L.z72; have v72 := L.v72; have u72 := run_underlying L.t72
  have t70 := L.t70; have a70 := L.a70; have z70 := L.z70; have v70 := L.v70; have u70 := run_underlying L.t70
  have t37 := L.t37; have a37 := L.a37; have z37 := L.z37; have v37 := L.v37; have u37 := run_underlying L.t37
  have t127 := L.t127; have a127 := L.a127; have z127 := L.z127; have v127 := L.v127; have u127 := run_underlying L.t127
  have t3 := L.t3; have a3 := L.a3; have z3 := L.z3; have v3 := L.v3; have u3 := run_underlying L.t3
  have t9 := L.t9; have a9 := L.a9; have z9 := L.z9; have v9 := L.v9; have u9 := run_underlying L.t9
  have t5 := X.t5; have a5 := X.a5; have z5 := X.z5; have v5 := X.v5; have u5 := run_underlying X.t5
  go_enter L.f169, Body.n169_ntmps ρ
  go_wp2
  go_region_o
  all_goals (go_wp2; go_ret; exact ⟨rfl, rfl, rfl, rfl, rfl⟩)
theorem YY_of {X : Nat → Prop} {β : Nat → Value} {ss : List Slot} {k b : Nat} {s : Slot} (h : nth ss k = some s) (hb : blk (β k) = some b) : YY X β ss b := .inr ⟨k, s, h, hb⟩
theorem string_valid {cx : Cx} (L : Lays.n169 P ρ) (X0 : Builder.Extra P ρ) :
    (⟨ρ.f 169, [.one (.con (.ref 0 0))], [.bd (ρ.t 72) (.con (.rs 1)), .brow (ρ.t 5)], fun x => if x.2.2.1.length ≤ 140737488355328 then some (strOf x.2.2.1, ((), ([], ()))) else none⟩ : FX (.v (.one (.ty .str))) [.bd (ρ.t 72) (.con .top), .brow (ρ.t 5)]).Valid P cx := by
  rintro ⟨⟨u0, u1⟩, s0, xs, u⟩ ⟨y, y0, ys, u3⟩ hm X β w vs hpre
  have hm' : (if xs.length ≤ 140737488355328 then some (strOf xs, ((), (([] : List Int), ()))) else none) = some (y, (y0, ys, u3)) := hm
  split at hm'
  case isFalse => cases hm'
  case isTrue hc =>
    simp only [Option.some.injEq, Prod.mk.injEq] at hm'
    obtain ⟨rfl, _, rfl, _⟩ := hm'
    obtain ⟨b, v0, v1, fr, h1, h2, h3, h4, h5⟩ := hpre.slots 0 (.bd (ρ.t 72) (.rs 1)) rfl
    have hrow := hpre.slots 1 (.brow (ρ.t 5) xs) rfl
    have h5' : v1 = β 1 := h5.1
    match vs, hpre.args with
    | [a], ⟨ha, _⟩ =>
      obtain ⟨b', hb', rfl⟩ : ∃ b', boxAt (β 0) b' ∧ a = .pointer (some ⟨b', 0, none⟩) := ha
      have : b' = b := by have := hb'.symm.trans h1; simpa using this
      subst this
      have hblk0 : blk (β 0) = some b' := by rw [h1]; rfl
      have fin : ∀ w' : World, (∀ k o, w.heap[k]? = some o → blk (β 1) ≠ some k → w'.heap[k]? = some o) → w'.heap.size = w.heap.size → Same w w' →
          ∃ v β', (Ending.returned (.string ⟨(strOf xs).toArray⟩)) = .returned v ∧ Ans X β w (SSs.enc [.bd (ρ.t 72) (.con (.rs 1)), .brow (ρ.t 5)] (s0, xs, u)) (VT.enc (.v (.one (.ty .str))) (strOf xs)) (SSs.enc [.bd (ρ.t 72) (.con .top), .brow (ρ.t 5)] (y0, [], u3)) v w' β' := by
        intro w' hfr hsz hsame
        have hne : blk (β 1) ≠ some b' := by
          intro hh
          have := hpre.inj 0 1 _ _ b' rfl rfl hblk0 hh
          cases this
        refine ⟨_, upd β 1 (.slice none 0 0), rfl, rfl, ?_, ?_, ?_, ?_, by omega, hsame, ?_, ?_⟩
        · intro k s hk
          match k, hk with
          | 0, hk =>
            have hk' : Slot.bd (ρ.t 72) .top = s := by simpa [SSs.enc, nth, SS.enc, CT.enc] using hk
            subst hk'
            refine ⟨b', v0, v1, fr, by simpa [upd] using h1, hfr _ _ h2 hne, h3, h4, ?_⟩
            show v1.oneCell' = true
            obtain ⟨_, a', l', c', e⟩ := h5
            rw [e]; rfl
          | 1, hk =>
            have hk' : Slot.brow (ρ.t 5) [] = s := by simpa [SSs.enc, nth, SS.enc] using hk
            subst hk'
            exact .inl ⟨rfl, by simp [upd]⟩
          | k + 2, hk => simp [SSs.enc, nth] at hk
        · intro j k s s' bb hj hk hbj hbk
          have key : ∀ i s, nth (SSs.enc [.bd (ρ.t 72) (.con .top), .brow (ρ.t 5)] (y0, [], u3)) i = some s → blk (upd β 1 (.slice none 0 0) i) = some bb → i = 0 := by
            intro i s hi hb
            match i, hi with
            | 0, _ => rfl
            | 1, _ => simp [upd, blk] at hb
            | i + 2, hi => simp [SSs.enc, nth] at hi
          rw [key j s hj hbj, key k s' hk hbk]
        · intro bb o hb hnb
          exact hfr bb o hb (fun e => hnb ⟨1, _, rfl, e⟩)
        · rintro bb ⟨k, s, hk, hbk⟩
          match k, hk with
          | 0, hk =>
            have hbk' : blk (β 0) = some bb := by simpa [upd] using hbk
            exact ⟨.inl ⟨0, _, rfl, hbk'⟩, hpre.apart bb ⟨0, _, rfl, hbk'⟩⟩
          | 1, hk => simp [upd, blk] at hbk
          | k + 2, hk => simp [SSs.enc, nth] at hk
        · intro k s hk hf
          match k, hk with
          | 0, _ => simp [upd]
          | 1, hk =>
            have hk' : Slot.brow (ρ.t 5) xs = s := by simpa [SSs.enc, nth, SS.enc] using hk
            subst hk'; cases hf
          | k + 2, hk => simp [SSs.enc, nth] at hk
        · intro k s hk hf s' hk'
          match k, hk with
          | 0, _ =>
            have : Slot.bd (ρ.t 72) .top = s' := by simpa [SSs.enc, nth, SS.enc, CT.enc] using hk'
            subst this; rfl
          | 1, hk =>
            have hk' : Slot.brow (ρ.t 5) xs = s := by simpa [SSs.enc, nth, SS.enc] using hk
            subst hk'; cases hf
          | k + 2, hk => simp [SSs.enc, nth] at hk
      refine .inl ⟨enters_of L.f169 (by kernel_rfl) rfl _ _, ?_⟩
      rcases hrow with ⟨rfl, hv⟩ | ⟨g, cap, cur, fr2, hv, hg, hth, hlc, hcap, hcs⟩
      · rw [h5', hv] at h2
        refine (str_run_nil L X0 b' v0 fr w h2).mono ?_
        rintro e w' ⟨rfl, hh, hsame⟩
        exact fin w' (fun k o hk _ => by rw [hh]; exact hk) (by rw [hh]) hsame
      · by_cases h0 : xs = []
        · subst h0
          rw [h5', hv] at h2
          refine (str_run_room L X0 b' g cap v0 fr w h2).mono ?_
          rintro e w' ⟨rfl, hh, hsame⟩
          exact fin w' (fun k o hk _ => by rw [hh]; exact hk) (by rw [hh]) hsame
        · have h2' := h2
          rw [h5', hv] at h2'
          refine (str_run L X0 b' g cap xs v0 fr fr2 cur w h2' hg (by omega) hcs (by omega) h0).mono ?_
          rintro e w' ⟨rfl, W, hW, hs, rfl⟩
          refine fin _ (fun k o hk hne => ?_) (by rw [freeze_size, hW]) ?_
          · rw [freeze_heap _ _ _ (fun e => hne (by rw [hv, e]; rfl)), hW]; exact hk
          · have h1 := freeze_same W ⟨g, 0, none⟩ xs.length
            exact hs.trans h1
theorem copyCheck_valid {cx : Cx} (L : Lays.n240 P ρ) (X0 : Builder.X72 P ρ) :
    (⟨ρ.f 240, [.one (.con (.ref 0 0))], [.bd (ρ.t 72) (.con (.rs 1)), .brow (ρ.t 5)], fun x => some ((), x.2)⟩ : FX (.tup []) [.bd (ρ.t 72) (.con (.rs 1)), .brow (ρ.t 5)]).Valid P cx := by
  rintro ⟨⟨u0, u1⟩, s0, xs, u⟩ ⟨y, y0, ys, u3⟩ hm X β w vs hpre
  have hm' : some ((), (s0, xs, u)) = some (y, (y0, ys, u3)) := hm
  simp only [Option.some.injEq, Prod.mk.injEq] at hm'
  obtain ⟨_, _, rfl, _⟩ := hm'
  obtain ⟨b, v0, v1, fr, h1, h2, h3, h4, h5⟩ := hpre.slots 0 (.bd (ρ.t 72) (.rs 1)) rfl
  have hrow := hpre.slots 1 (.brow (ρ.t 5) xs) rfl
  match vs, hpre.args with
  | [a], ⟨ha, _⟩ =>
    obtain ⟨b', hb', rfl⟩ : ∃ b', boxAt (β 0) b' ∧ a = .pointer (some ⟨b', 0, none⟩) := ha
    have : b' = b := by have := hb'.symm.trans h1; simpa using this
    subst this
    have hblk0 : blk (β 0) = some b' := by rw [h1]; rfl
    have hne : blk (β 1) ≠ some b' := by
      intro hh
      have := hpre.inj 0 1 _ _ b' rfl rfl hblk0 hh
      cases this
    have fin : ∀ (w' : World) (v0' : Value), (v0' = .pointer none ∨ v0' = .pointer (some ⟨b', 0, none⟩)) → w'.heap[b']? = some (.cells #[v0', v1] (ρ.t 72) fr) → (∀ k o, w.heap[k]? = some o → k ≠ b' → w'.heap[k]? = some o) → w'.heap.size = w.heap.size → Same w w' →
        ∃ v β', (Ending.returned (.tuple #[])) = .returned v ∧ Ans X β w (SSs.enc [.bd (ρ.t 72) (.con (.rs 1)), .brow (ρ.t 5)] (s0, xs, u)) (VT.enc (.tup []) y) (SSs.enc [.bd (ρ.t 72) (.con (.rs 1)), .brow (ρ.t 5)] (y0, xs, u3)) v w' β' := by
      intro w' v0' hv0 hb2 hfr hsz hsame
      refine ⟨_, β, rfl, ⟨[], rfl, trivial⟩, ?_, ?_, ?_, ?_, by omega, hsame, fun k s _ _ => rfl, ?_⟩
      · intro k s hk
        match k, hk with
        | 0, hk =>
          have hk' : Slot.bd (ρ.t 72) (.rs 1) = s := by simpa [SSs.enc, nth, SS.enc, CT.enc] using hk
          subst hk'
          exact ⟨b', v0', v1, fr, h1, hb2, h3, hv0, h5⟩
        | 1, hk =>
          have hk' : Slot.brow (ρ.t 5) xs = s := by simpa [SSs.enc, nth, SS.enc] using hk
          subst hk'
          rcases hrow with hh | ⟨g, cap, cur, fr2, hv, hg, hth, hlc, hcap, hcs⟩
          · exact .inl hh
          · exact .inr ⟨g, cap, cur, fr2, hv, hfr _ _ hg (fun e => hne (by rw [hv, ← e]; rfl)), hth, hlc, hcap, hcs⟩
        | k + 2, hk => simp [SSs.enc, nth] at hk
      · intro j k s s' bb hj hk
        have e : ∀ i s, nth (SSs.enc [.bd (ρ.t 72) (.con (.rs 1)), .brow (ρ.t 5)] (y0, xs, u3)) i = some s → ∃ t, nth (SSs.enc [.bd (ρ.t 72) (.con (.rs 1)), .brow (ρ.t 5)] (s0, xs, u)) i = some t := by
          intro i s hi
          match i, hi with
          | 0, _ => exact ⟨_, rfl⟩
          | 1, _ => exact ⟨_, rfl⟩
          | i + 2, hi => simp [SSs.enc, nth] at hi
        obtain ⟨t1, g1⟩ := e j s hj
        obtain ⟨t2, g2⟩ := e k s' hk
        exact hpre.inj j k t1 t2 bb g1 g2
      · intro bb o hb hnb
        exact hfr bb o hb (fun e => hnb ⟨0, _, rfl, by rw [e]; exact hblk0⟩)
      · rintro bb ⟨k, s, hk, hbk⟩
        have : ∃ t, nth (SSs.enc [.bd (ρ.t 72) (.con (.rs 1)), .brow (ρ.t 5)] (s0, xs, u)) k = some t := by
          match k, hk with
          | 0, _ => exact ⟨_, rfl⟩
          | 1, _ => exact ⟨_, rfl⟩
          | k + 2, hk => simp [SSs.enc, nth] at hk
        obtain ⟨t, ht⟩ := this
        exact ⟨.inl ⟨k, t, ht, hbk⟩, hpre.apart bb ⟨k, t, ht, hbk⟩⟩
      · intro k s hk hf s' hk'
        match k, hk with
        | 0, _ =>
          have : Slot.bd (ρ.t 72) (.rs 1) = s' := by simpa [SSs.enc, nth, SS.enc, CT.enc] using hk'
          subst this; rfl
        | 1, hk =>
          have hk' : Slot.brow (ρ.t 5) xs = s := by simpa [SSs.enc, nth, SS.enc] using hk
          subst hk'; cases hf
        | k + 2, hk => simp [SSs.enc, nth] at hk
    refine .inl ⟨enters_of L.f240 (by kernel_rfl) rfl _ _, ?_⟩
    have c0 : w.cell? ⟨b', 0, none⟩ = some v0 := by rw [Lib.cell_of_heap h2]; rfl
    rcases h4 with rfl | rfl
    · refine (Any.Builder_copyCheck_fresh L X0 b' w c0 (by simp [World.shape?, h2]) ?_).mono ?_
      · have := h3 0 (by simp)
        simp only [World.frozen?, h2]
        simpa using this
      · rintro e w' ⟨rfl, rfl⟩
        refine fin _ _ (.inr rfl) ?_ (fun k o hk hne' => ?_) (by simp [World.setCell]) ⟨rfl, rfl, rfl⟩
        · simp [World.setCell, Array.getElem?_modify, h2]
        · simp only [World.setCell, Array.getElem?_modify]
          rw [if_neg (fun e => hne' e.symm)]; exact hk
    · refine (Any.Builder_copyCheck_used L X0 b' w c0).mono ?_
      rintro e w' ⟨rfl, rfl⟩
      exact fin w' _ (.inr rfl) h2 (fun k o hk _ => hk) rfl (Same.refl w')
theorem copyCheck_valid166 {cx : Cx} (L : Lays.n166 P ρ) (X0 : Builder.Extra P ρ) :
    (⟨ρ.f 240, [.one (.con (.ref 0 0))], [.bd (ρ.t 72) (.con (.rs 1)), .brow (ρ.t 5)], fun x => some ((), x.2)⟩ : FX (.tup []) [.bd (ρ.t 72) (.con (.rs 1)), .brow (ρ.t 5)]).Valid P cx := copyCheck_valid { L with } X0.toX72
theorem copyCheck_valid167 {cx : Cx} (L : Lays.n167 P ρ) (X0 : Builder.Extra P ρ) :
    (⟨ρ.f 240, [.one (.con (.ref 0 0))], [.bd (ρ.t 72) (.con (.rs 1)), .brow (ρ.t 5)], fun x => some ((), x.2)⟩ : FX (.tup []) [.bd (ρ.t 72) (.con (.rs 1)), .brow (ρ.t 5)]).Valid P cx := copyCheck_valid { L with } X0.toX72
theorem copyCheck_valid105 {cx : Cx} (L : Lays.n105 P ρ) (X0 : Builder.Extra P ρ) :
    (⟨ρ.f 240, [.one (.con (.ref 0 0))], [.bd (ρ.t 72) (.con (.rs 1)), .brow (ρ.t 5)], fun x => some ((), x.2)⟩ : FX (.tup []) [.bd (ρ.t 72) (.con (.rs 1)), .brow (ρ.t 5)]).Valid P cx := copyCheck_valid { L with } X0.toX72
theorem copyCheck_valid156 {cx : Cx} (L : Lays.n156 P ρ) (X0 : Builder.Extra P ρ) :
    (⟨ρ.f 240, [.one (.con (.ref 0 0))], [.bd (ρ.t 72) (.con (.rs 1)), .brow (ρ.t 5)], fun x => some ((), x.2)⟩ : FX (.tup []) [.bd (ρ.t 72) (.con (.rs 1)), .brow (ρ.t 5)]).Valid P cx := copyCheck_valid { L with } X0.toX72
end
end Go.AM
/- strings.Index, as the library's contract tells it: it reads a variable of the library, of which only its kind is known. -/
set_option linter.unusedSimpArgs false
set_option linter.unusedVariables false
namespace Go.AM
open Go Go.RowKit Go.Proofs Go.Shelf

theorem cells_of_cell {w : World} {g : Nat} {v : Value} (h : w.cell? ⟨g, 0, none⟩ = some v) : ∃ vals el fr, w.heap[g]? = some (.cells vals el fr) ∧ vals[0]? = some v := by
  unfold World.cell? at h
  split at h
  · rename_i vals el fr hh
    exact ⟨vals, el, fr, hh, by simpa using h⟩
  all_goals (first | (cases h; done) | (simp at h; done))
theorem glob_int {w : World} {g : Nat} {k : IntKind} {m : Int} (h : w.cell? ⟨g, 0, none⟩ = some (.int k m)) : Rep X0 w (.ptr (.int k)) m [.pointer (some ⟨g, 0, none⟩)] := by
  obtain ⟨vals, el, fr, h1, h2⟩ := cells_of_cell h
  refine ⟨g, rfl, fun hh => hh, vals, el, fr, h1, [.int k m], rfl, fun j u hj => ?_⟩
  cases j with
  | zero => simp at hj; subst hj; exact h2
  | succ j => simp at hj
def indexM (s sub : List UInt8) : Option (Int × Unit) := if s.length < 4294967281 then some (Lib.index s sub, ()) else none
theorem index_valid {P : Program} {cx : Cx} {ρ : Ren} (L : Lays.n143 P ρ) (hG : ∃ m : Int, cx.G (ρ.g 1) = some ⟨.int .i64, m⟩) :
    (⟨ρ.f 143, [.one (.ty .str), .one (.ty .str)], [], fun x => indexM x.1.1 x.1.2.1⟩ : FX (.v (.one (.ty (.int .i64)))) []).Valid P cx := by
  rintro ⟨⟨s, sub, u⟩, u2⟩ ⟨y, y2⟩ hm X β w vs hpre
  have hm' : indexM s sub = some (y, ()) := hm
  unfold indexM at hm'
  split at hm'
  case isFalse => cases hm'
  case isTrue hc =>
    simp only [Option.some.injEq, Prod.mk.injEq, and_true] at hm'
    subst hm'
    obtain ⟨m, hG⟩ := hG
    have hg := hpre.glob _ _ _ hG
    match vs, hpre.args with
    | [v1, v2], ⟨h1, h2, _⟩ =>
      have h1' : v1 = .string ⟨s.toArray⟩ := h1
      have h2' : v2 = .string ⟨sub.toArray⟩ := h2
      subst h1'; subst h2'
      have hcell : w.cell? ⟨ρ.g 1, 0, none⟩ = some (.int .i64 m) := by
        obtain ⟨b, hb, _, vals, el, fr, hh, us, hu, hcs⟩ := hg
        have hu' : us = [.int .i64 m] := hu
        subst hu'
        simp at hb
        subst hb
        unfold World.cell?
        rw [hh]
        simpa using hcs 0 _ rfl
      refine .inl ⟨enters_of L.f143 (by kernel_rfl) rfl _ _, (Any.strings_Index L ⟨s.toArray⟩ ⟨sub.toArray⟩ m w (by simpa [str_size] using hc) hcell).mono ?_⟩
      rintro e w' ⟨rfl, rfl⟩
      exact ⟨_, β, rfl, Ans.here rfl⟩
theorem globOne {w : World} {G1 : Nat} {m : Int} (h : w.cell? ⟨G1, 0, none⟩ = some (.int .i64 m)) : ∀ (g : Nat) (t : Ty) (x : t.El), (bif Nat.beq g G1 then some (⟨.int .i64, m⟩ : Sigma Ty.El) else none) = some ⟨t, x⟩ → Rep X0 w (.ptr t) x [.pointer (some ⟨g, 0, none⟩)] := by
  intro g t x hh
  cases hb : Nat.beq g G1 with
  | false => rw [hb] at hh; cases hh
  | true =>
    rw [hb] at hh
    have := (beq_iff _ _).1 hb
    subst this
    simp only [cond_true, Option.some.injEq, Sigma.mk.injEq] at hh
    obtain ⟨rfl, hh⟩ := hh
    have hh := eq_of_heq hh
    subst hh
    exact glob_int h
end Go.AM
/- The row's wrap, the world's shape kept: what the row lists ('X') and the shape are both handed on. -/
set_option linter.unusedVariables false
namespace Go.AM
open Go
variable {H : Type} {enc : TypeId × Value → H}
theorem returnsShaped {a : Assume} {C : Checked} {os : Os} {f : FuncId} {fn : Func} {s : ChangeSpec} {conds : List PathCond} {apart fresh handsOn again : Bool} {X : World → Array Value → Prop}
    (hX : ∀ (w w' : World) (args : Array Value), w.heap = w'.heap → X w args → X w' args)
    (own : ownKnob C.prog.godebug = none) (started : os.Started) (noInit : C.prog.inits.idxOf? f = none) (hfn : C.prog.funcs[f]? = some fn)
    (witness : ∃ (w : World) (tape : Tape) (i : Input), w.os = os ∧ (w.forCall tape i).Shaped C.prog ∧ i.vars = [] ∧ Input.okWide C.prog (w.forCall tape i) .any w.heap.size f i ∧
      ((s.pre enc C.prog fn conds apart (w.forCall tape i).memory i.args ∧ X (w.forCall tape i).memory i.args) ∧ sizedMet enc C.prog fn (OpenSpec.ofChange s) apart (w.forCall tape i).memory i.args) ∧ a.holds C.prog (lone (Frame.enter C.prog f i.args .normal) [] (w.forCall tape i)))
    (contract : ∀ (W : World) (base : Nat) (args : Array Value) (ds gs : List (DataW H)) (before : List MemPlace),
      (∀ (j : Nat) t v, fn.params[j]? = some t → args[j]? = some v → Value.okWide C.prog W .any base t v) →
      DataW.Whole enc C.prog fn.params.toList s.vars apart W args.toList ds gs before →
      conds.all (PathCond.test C.prog ⟨fn.params.toList, ds, s.plain.varTypes C.prog, gs⟩) = true →
      (DataW.weightsEach C.prog (fn.params.toList ++ s.plain.varTypes C.prog) (ds ++ gs)).all (· ≤ reachBytes) = true → X W args → W.ShapedOpen C.prog →
      Calls C.prog f args W fun e W' => ∃ v, e = .returned v ∧ s.post enc C.prog fn apart fresh handsOn again W args v W') :
    ReturnsInHanded a C os f .any (fun w args => (s.pre enc C.prog fn conds apart w args ∧ X w args) ∧ sizedMet enc C.prog fn (OpenSpec.ofChange s) apart w args) (s.post enc C.prog fn apart fresh handsOn again) := by
  refine returnsInHanded_of_calls own started noInit witness ?_
  intro w tape i _ hsh _ hok hpre hholds
  obtain ⟨_, _, _, fn', hfn', _, _, _, _, hval⟩ := hok
  have e : fn' = fn := Option.some.inj (hfn'.symm.trans hfn)
  subst e
  obtain ⟨⟨⟨ds, gs, before, hw, hc⟩, hx⟩, hz⟩ := hpre
  have hw' := DataW.Whole.of_heap (w' := w.forCall tape i) (by rfl) hw
  refine (contract (w.forCall tape i) w.heap.size i.args ds gs before hval hw' hc (hz.weights hw) (hX _ _ _ (by rfl) hx) hsh).mono fun e W' ⟨v, he, hp⟩ => ?_
  subst he
  exact ChangeSpec.post_blind hp
end Go.AM
/- slices.Insert of one element into a row of one's own: from what its roads do (a walk at the program) to a model. -/
set_option linter.unusedSimpArgs false
set_option linter.unusedVariables false
namespace Go.AM
open Go Go.RowKit Go.Proofs

structure InsW (P : Program) (fI fO tS tI tE K B : Nat) : Prop where
  enter : ∀ vs w, (callFunc fI vs).run P w = .ok (.enter fI vs) w
  endW : ∀ (base : Option Addr) (n c vb vc : Nat) (w w1 : World) (v1 : Value), (base = none → n = 0 ∧ c = 0) → n ≤ c →
    (∀ ty, (Builtin.append_ #[tS, tS] ty #[.slice base n c, .slice (some ⟨vb, 0, none⟩) 1 vc]).run P w = .ok v1 w1) →
    Calls P fI #[.slice base n c, .int .i64 n, .slice (some ⟨vb, 0, none⟩) 1 vc] w fun e w' => e = .returned v1 ∧ w' = w1
  growW : ∀ (b n c i vb vc N G : Nat) (w w1 : World) (news mov : List Value), i < n → n ≤ c → c < n + 1 → n ≤ 140737488355328 → n + 1 ≤ G →
    (∀ ty, (Builtin.append_ #[tS, tI] ty #[.slice (some ⟨b, 0, none⟩) i c, .int .i64 ((n : Int) + 1 - (i : Int))]).run P w = .ok (.slice (some ⟨N, 0, none⟩) (n + 1) G) w1) →
    (∀ W : World, W.heap = w1.heap → ∀ ty dc, (Builtin.copy_ #[tS, tS] ty #[.slice (some ⟨N, i * K, none⟩) (n + 1 - i) dc, .slice (some ⟨vb, 0, none⟩) 1 vc]).run P W = .ok (goInt 1) (W.setCells N (i * K) news)) →
    (∀ W : World, W.heap = (w1.setCells N (i * K) news).heap → ∀ ty dc sc, (Builtin.copy_ #[tS, tS] ty #[.slice (some ⟨N, (i + 1) * K, none⟩) (n - i) dc, .slice (some ⟨b, i * K, none⟩) (n - i) sc]).run P W = .ok (goInt (n - i : Nat)) (W.setCells N ((i + 1) * K) mov)) →
    Calls P fI #[.slice (some ⟨b, 0, none⟩) n c, .int .i64 i, .slice (some ⟨vb, 0, none⟩) 1 vc] w fun e w' => e = .returned (.slice (some ⟨N, 0, none⟩) (n + 1) G) ∧ w' = (w1.setCells N (i * K) news).drew.setCells N ((i + 1) * K) mov
  shiftW : ∀ (b n c i vb vc : Nat) (w : World) (news mov : List Value), i < n → n + 1 ≤ c → n ≤ 140737488355328 →
    (∀ lb cb, (callFunc fO #[.slice (some ⟨vb, 0, none⟩) 1 vc, .slice (some ⟨b, (i + 1) * K, none⟩) lb cb]).run P w = .ok (.value (.bool false)) w) →
    (∀ W : World, W.heap = w.heap → ∀ ty dc sc, (Builtin.copy_ #[tS, tS] ty #[.slice (some ⟨b, (i + 1) * K, none⟩) (n - i) dc, .slice (some ⟨b, i * K, none⟩) (n + 1 - i) sc]).run P W = .ok (goInt (n - i : Nat)) (W.setCells b ((i + 1) * K) mov)) →
    (∀ W : World, W.heap = (w.setCells b ((i + 1) * K) mov).heap → ∀ ty dc, (Builtin.copy_ #[tS, tS] ty #[.slice (some ⟨b, i * K, none⟩) (n + 1 - i) dc, .slice (some ⟨vb, 0, none⟩) 1 vc]).run P W = .ok (goInt 1) (W.setCells b (i * K) news)) →
    Calls P fI #[.slice (some ⟨b, 0, none⟩) n c, .int .i64 i, .slice (some ⟨vb, 0, none⟩) 1 vc] w fun e w' => e = .returned (.slice (some ⟨b, 0, none⟩) (n + 1) c) ∧ w' = (w.drew.setCells b ((i + 1) * K) mov).setCells b (i * K) news
  und : P.underlying tS = some (.slice tE)
  undI : ∃ k, P.underlying tI = some (.int k)
  ov : ∀ (vb vc b o lb cb tA kA tB kB : Nat) (w : World), vb ≠ b → w.shape? vb = some (tA, kA) → w.shape? b = some (tB, kB) → kB ≠ 0 → w.frozen? ⟨vb, 0, none⟩ = false → w.frozen? ⟨vb, kA, none⟩ = false →
    (callFunc fO #[.slice (some ⟨vb, 0, none⟩) 1 vc, .slice (some ⟨b, o, none⟩) lb cb]).run P w = .ok (.value (.bool false)) w
  info : ∃ i z, P.info? tE = some i ∧ i.zero = some z ∧ i.size = K ∧ z.cells.size = K ∧ 0 < K ∧ i.bytes = B ∧ 0 < B

def insM {α : Type} (B : Nat) (i : Int) (xs vs : List α) : Option (Unit × (List α × (List α × Unit))) :=
  if vs.length = 1 ∧ 0 ≤ i ∧ i ≤ (xs.length : Int) ∧ (xs.length + 1) * B ≤ 140737488355328 then some ((), (xs.take i.toNat ++ vs ++ xs.drop i.toNat, (vs, ()))) else none

theorem info_of {P : Program} {t K B : Nat} (h : ((P.info? t).bind fun i => i.zero.map fun z => (i.size, z.cells.size, i.bytes)) = some (K, K, B)) (hK : 0 < K) (hB : 0 < B) :
    ∃ i z, P.info? t = some i ∧ i.zero = some z ∧ i.size = K ∧ z.cells.size = K ∧ 0 < K ∧ i.bytes = B ∧ 0 < B := by
  cases hi : P.info? t with
  | none => rw [hi] at h; cases h
  | some i =>
    rw [hi] at h
    cases hz : i.zero with
    | none => rw [Option.bind_some, hz] at h; cases h
    | some z =>
      rw [Option.bind_some, hz] at h
      simp only [Option.map_some, Option.some.injEq, Prod.mk.injEq] at h
      exact ⟨i, z, rfl, hz, h.1, h.2.1, hK, h.2.2, hB⟩
theorem take_flatten {α : Type} {K : Nat} : ∀ (uss : List (List α)) (i : Nat), (∀ us ∈ uss, us.length = K) → (uss.take i).flatten = uss.flatten.take (i * K)
  | [], i, _ => by simp
  | us :: uss, 0, _ => by simp
  | us :: uss, i + 1, h => by
    have h1 := h us (List.mem_cons_self ..)
    rw [List.take_succ_cons, List.flatten_cons, List.flatten_cons, take_flatten uss i (fun v hv => h v (List.mem_cons_of_mem _ hv)), Nat.succ_mul, Nat.add_comm, ← h1, List.take_length_add_append]
theorem drop_flatten {α : Type} {K : Nat} : ∀ (uss : List (List α)) (i : Nat), (∀ us ∈ uss, us.length = K) → (uss.drop i).flatten = uss.flatten.drop (i * K)
  | [], i, _ => by simp
  | us :: uss, 0, _ => by simp
  | us :: uss, i + 1, h => by
    have h1 := h us (List.mem_cons_self ..)
    rw [List.drop_succ_cons, List.flatten_cons, drop_flatten uss i (fun v hv => h v (List.mem_cons_of_mem _ hv)), Nat.succ_mul, Nat.add_comm, ← h1, List.drop_length_add_append]
theorem fin_get {l0 O U : List Value} {p K : Nat} (hp : p ≤ O.length) (hU : U.length = K) (hl : O.length + K ≤ l0.length) (h0 : ∀ (q : Nat) u, q < p → O[q]? = some u → l0[q]? = some u) :
    (∀ (q : Nat) u, (O.take p ++ U ++ O.drop p)[q]? = some u → (putAt (putAt l0 p U) (p + K) (O.drop p))[q]? = some u) ∧
    (∀ (q : Nat) u, (O.take p ++ U ++ O.drop p)[q]? = some u → (putAt (putAt l0 (p + K) (O.drop p)) p U)[q]? = some u) := by
  have hd : (O.drop p).length = O.length - p := List.length_drop
  have ht : (O.take p).length = p := by rw [List.length_take]; omega
  have l1 : (putAt l0 p U).length = l0.length := putAt_length _ _ _ (by omega)
  have l2 : (putAt l0 (p + K) (O.drop p)).length = l0.length := putAt_length _ _ _ (by omega)
  have split3 : ∀ (q : Nat) u, (O.take p ++ U ++ O.drop p)[q]? = some u → (q < p ∧ O[q]? = some u) ∨ (p ≤ q ∧ q < p + K ∧ U[q - p]? = some u) ∨ (p + K ≤ q ∧ q < p + K + (O.drop p).length ∧ (O.drop p)[q - (p + K)]? = some u) := by
    intro q u h
    by_cases h1 : q < p
    · left
      rw [List.append_assoc, List.getElem?_append_left (by omega), List.getElem?_take, if_pos h1] at h
      exact ⟨h1, h⟩
    · by_cases h2 : q < p + K
      · right; left
        rw [List.append_assoc, List.getElem?_append_right (by omega), ht, List.getElem?_append_left (by omega)] at h
        exact ⟨by omega, h2, h⟩
      · right; right
        rw [List.getElem?_append_right (by rw [List.length_append]; omega), List.length_append, ht, hU] at h
        exact ⟨by omega, by have := (List.getElem?_eq_some_iff.1 h).1; omega, h⟩
  constructor
  · intro q u h
    rw [putAt_get _ _ _ (by omega), putAt_get _ _ _ (by omega)]
    rcases split3 q u h with ⟨h1, h2⟩ | ⟨h1, h2, h3⟩ | ⟨h1, h2, h3⟩
    · rw [if_neg (by omega), if_neg (by omega)]; exact h0 q u h1 h2
    · rw [if_neg (by omega), if_pos (by omega)]; exact h3
    · rw [if_pos (by omega)]; exact h3
  · intro q u h
    rw [putAt_get _ _ _ (by omega), putAt_get _ _ _ (by omega)]
    rcases split3 q u h with ⟨h1, h2⟩ | ⟨h1, h2, h3⟩ | ⟨h1, h2, h3⟩
    · rw [if_neg (by omega), if_neg (by omega)]; exact h0 q u h1 h2
    · rw [if_pos (by omega)]; exact h3
    · rw [if_neg (by omega), if_pos (by omega)]; exact h3
section
variable {P : Program} {cx : Cx}
theorem run_copyK {t e ty : Nat} {i : TypeInfo} (w : World) (hu : P.underlying t = some (.slice e)) (hi : P.info? e = some i) {b o dLen dCap sb so sLen sCap m : Nat} {cs l : List Value} {el : TypeId} {fr : Nat × Nat}
    (hm : Nat.min sLen dLen = m) (hl : cs.length = m * i.size) (hsrc : ∀ (j : Nat) v, cs[j]? = some v → w.cell? ⟨sb, so + j, none⟩ = some v) (hb : w.heap[b]? = some (.cells l.toArray el fr)) (hfit : o + cs.length ≤ l.length) (ht : thawed l.toArray fr)
    (h1 : ∀ v ∈ cs, v.oneCell' = true) : (Builtin.copy_ #[t, t] ty #[.slice (some ⟨b, o, none⟩) dLen dCap, .slice (some ⟨sb, so, none⟩) sLen sCap]).run P w = .ok (goInt m) (w.setCells b o cs) := by
  have hl2 := run_firstCells_some (P := P) w i.size m ⟨sb, so, none⟩ sLen sCap cs hl (fun j v hj => by rw [Addr.add_lit]; exact hsrc j v hj)
  have hst := run_stores (P := P) hb hfit ht h1
  simp [Builtin.copy_, run_underlying hu, Builtin.lenOf, sizeOf, typeInfo, hi, hm, hl2, hst]
theorem alloc_at (w : World) (a : Array Value) (l : List Value) (tE : Nat) (h : a = l.toArray) : (w.drew.alloc (.cells a tE)).heap[w.heap.size]? = some (.cells l.toArray tE (0, 0)) := by
  subst h
  show (w.heap.push _)[w.heap.size]? = _
  simp
theorem alloc_old (w : World) (o : Obj) {k : Nat} {x : Obj} (hk : w.heap[k]? = some x) : (w.drew.alloc o).heap[k]? = some x := by
  have hlt := (Array.getElem?_eq_some_iff.1 hk).1
  show (w.heap.push _)[k]? = _
  rw [Array.getElem?_push_lt hlt]; rw [← hk, Array.getElem?_eq_getElem hlt]
theorem ins_ans {X : Nat → Prop} {β : Nat → Value} {w : World} {e : Ty} {xs vs' zs : List e.El} {rv : Value} {w' : World} {args : List V} {vals : List Value} (hpre : Pre cx X β w args vals [.lst false e xs, .lst false e vs'])
    (hrow : ∀ (Y' : Nat → Prop), Fr (YY X β [.lst false e xs, .lst false e vs']) w Y' w' → RepS β Y' w' (.lst false e zs) rv)
    (hfr : ∀ (k : Nat) o, w.heap[k]? = some o → blk (β 0) ≠ some k → w'.heap[k]? = some o) (hblk : ∀ bb, blk rv = some bb → blk (β 0) = some bb ∨ w.heap.size ≤ bb) (hsz : w.heap.size ≤ w'.heap.size) (hsame : Same w w') (hsl : ∃ a l c, rv = .slice a l c) :
    Ans X β w [.lst false e xs, .lst false e vs'] (.one (.rs 0)) [.lst false e zs, .lst false e vs'] rv w' (upd β 0 rv) := by
  have hFr : Fr (YY X β [.lst false e xs, .lst false e vs']) w (YY X (upd β 0 rv) [.lst false e zs, .lst false e vs']) w' := by
    intro b o hb hn
    refine ⟨hfr b o hb (fun h => hn (.inr ⟨0, _, rfl, h⟩)), ?_⟩
    rintro (hx | ⟨k, s, hk, hbk⟩)
    · exact hn (.inl hx)
    · match k, hk with
      | 0, hk =>
        have hbk' : blk rv = some b := by simpa [upd] using hbk
        rcases hblk b hbk' with h | h
        · exact hn (.inr ⟨0, _, rfl, h⟩)
        · have := (Array.getElem?_eq_some_iff.1 hb).1; omega
      | 1, hk => exact hn (.inr ⟨1, _, rfl, by simpa [upd] using hbk⟩)
      | k + 2, hk => simp [nth] at hk
  refine ⟨⟨by simp [upd], hsl⟩, ?_, ?_, ?_, ?_, hsz, hsame, ?_, ?_⟩
  · intro k s hk
    match k, hk with
    | 0, hk =>
      have hk' : Slot.lst false e zs = s := by simpa [nth] using hk
      subst hk'
      have := hrow _ hFr
      rw [show upd β 0 rv 0 = rv by simp [upd]]
      exact this
    | 1, hk =>
      have hk' : Slot.lst false e vs' = s := by simpa [nth] using hk
      subst hk'
      rw [show upd β 0 rv 1 = β 1 by simp [upd]]
      have h1 := hpre.slots 1 (.lst false e vs') rfl
      have hne : ∀ b, blk (β 1) = some b → blk (β 0) ≠ some b := fun b g1 g0 => by
        have := hpre.inj 0 1 _ _ b rfl rfl g0 g1
        cases this
      exact RepS.mono (β := β) hFr (fun b o hb ho => hfr b o ho (hne b hb)) h1
    | k + 2, hk => simp [nth] at hk
  · intro j k s s' bb hj hk hbj hbk
    match j, hj, k, hk with
    | 0, _, 0, _ => rfl
    | 1, _, 1, _ => rfl
    | 0, _, 1, _ =>
      have g0 : blk rv = some bb := by simpa [upd] using hbj
      have g1 : blk (β 1) = some bb := by simpa [upd] using hbk
      rcases hblk bb g0 with h | h
      · have := hpre.inj 0 1 _ _ bb rfl rfl h g1
        cases this
      · obtain hs1 := hpre.slots 1 (.lst false e vs') rfl
        rcases hs1 with ⟨_, a, ha⟩ | ⟨b, cap, vals, el, fr, hv, hb, _⟩
        · rw [ha] at g1; simp [blk] at g1
        · rw [hv] at g1
          have hlt := (Array.getElem?_eq_some_iff.1 hb).1
          cases hl : vs'.length with
          | zero => rw [hl] at g1; simp [blk] at g1; omega
          | succ m => rw [hl] at g1; simp [blk] at g1; omega
    | 1, _, 0, _ =>
      have g0 : blk rv = some bb := by simpa [upd] using hbk
      have g1 : blk (β 1) = some bb := by simpa [upd] using hbj
      rcases hblk bb g0 with h | h
      · have := hpre.inj 0 1 _ _ bb rfl rfl h g1
        cases this
      · obtain hs1 := hpre.slots 1 (.lst false e vs') rfl
        rcases hs1 with ⟨_, a, ha⟩ | ⟨b, cap, vals, el, fr, hv, hb, _⟩
        · rw [ha] at g1; simp [blk] at g1
        · rw [hv] at g1
          have hlt := (Array.getElem?_eq_some_iff.1 hb).1
          cases hl : vs'.length with
          | zero => rw [hl] at g1; simp [blk] at g1; omega
          | succ m => rw [hl] at g1; simp [blk] at g1; omega
    | j + 2, hj, _, _ => simp [nth] at hj
    | _, _, k + 2, hk => simp [nth] at hk
  · intro bb o hb hnb
    exact hfr bb o hb (fun h => hnb ⟨0, _, rfl, h⟩)
  · rintro bb ⟨k, s, hk, hbk⟩
    match k, hk with
    | 0, _ =>
      have g0 : blk rv = some bb := by simpa [upd] using hbk
      rcases hblk bb g0 with h | h
      · exact ⟨.inl ⟨0, _, rfl, h⟩, hpre.apart bb ⟨0, _, rfl, h⟩⟩
      · exact ⟨.inr h, fun hx => by have := hpre.outer bb hx; omega⟩
    | 1, _ =>
      have g1 : blk (β 1) = some bb := by simpa [upd] using hbk
      exact ⟨.inl ⟨1, _, rfl, g1⟩, hpre.apart bb ⟨1, _, rfl, g1⟩⟩
    | k + 2, hk => simp [nth] at hk
  · intro k s hk hf
    match k, hk with
    | 0, hk => have hk' : Slot.lst false e xs = s := by simpa [nth] using hk
               subst hk'; cases hf
    | 1, hk => have hk' : Slot.lst false e vs' = s := by simpa [nth] using hk
               subst hk'; cases hf
    | k + 2, hk => simp [nth] at hk
  · intro k s hk hf
    match k, hk with
    | 0, hk => have hk' : Slot.lst false e xs = s := by simpa [nth] using hk
               subst hk'; cases hf
    | 1, hk => have hk' : Slot.lst false e vs' = s := by simpa [nth] using hk
               subst hk'; cases hf
    | k + 2, hk => simp [nth] at hk
theorem insert_valid {fI fO tS tI tE K B : Nat} (h : InsW P fI fO tS tI tE K B) (e : Ty) (hK : e.size = K) (hne : e ≠ .int .u8) :
    (⟨fI, [.one (.con (.rs 0)), .one (.ty (.int .i64)), .one (.con (.rs 1))], [.lst false e, .lst false e], fun x => insM B x.1.2.1 x.2.1 x.2.2.1⟩ : FX (.v (.one (.con (.rs 0)))) [.lst false e, .lst false e]).Valid P cx := by
  rintro ⟨⟨u0, i, u1, u2⟩, xs, vs', u3⟩ ⟨y, ys, ws, u4⟩ hm X β w vals hpre0
  have hpre : Pre cx X β w [.one (.rs 0), .one (.int .i64 i), .one (.rs 1)] vals [.lst false e xs, .lst false e vs'] := hpre0
  have hm' : insM B i xs vs' = some (y, (ys, (ws, u4))) := hm
  unfold insM at hm'
  split at hm'
  case isFalse => cases hm'
  case isTrue hc =>
    obtain ⟨hv1, hi0, hin, hB⟩ := hc
    simp only [Option.some.injEq, Prod.mk.injEq] at hm'
    obtain ⟨_, rfl, rfl, _⟩ := hm'
    obtain ⟨iN, rfl⟩ := Int.eq_ofNat_of_zero_le (a := i) hi0
    rw [Int.toNat_natCast]
    have hin' : iN ≤ xs.length := by omega
    obtain ⟨ii, z, hi, hz, hsz, hzs, hK0, hby, hB0⟩ := h.info
    have hn47 : xs.length + 1 ≤ 140737488355328 := by
      have : (xs.length + 1) * 1 ≤ (xs.length + 1) * B := Nat.mul_le_mul_left _ hB0
      omega
    have s0 := hpre.slots 0 (.lst false e xs) rfl
    have s1 := hpre.slots 1 (.lst false e vs') rfl
    have goal : ∀ {a0 a1 a2 : Value}, a0 = β 0 → a1 = .int .i64 iN → a2 = β 1 → Calls P fI #[a0, a1, a2] w fun en w' => ∃ v β', en = .returned v ∧ Ans X β w [.lst false e xs, .lst false e vs'] (.one (.rs 0)) [.lst false e (xs.take iN ++ vs' ++ xs.drop iN), .lst false e vs'] v w' β' := by
      rintro a0 a1 a2 rfl rfl rfl
      rcases s1 with ⟨hnil, _⟩ | ⟨vb, c1, vv, elv, frv, hb1, hv2, hthv, hlc1, hcap1, hrow1⟩
      · rw [hnil] at hv1; simp at hv1
      obtain ⟨vus, hvu, hvc⟩ := Row.uss vs' 0 (by simpa using hrow1)
      have hUl := uss_len hvu
      rw [hv1, hK, Nat.one_mul] at hUl
      have hUc : ∀ (j : Nat) u, vus.flatten[j]? = some u → w.cell? ⟨vb, 0 + j, none⟩ = some u := fun j u hj => by
        rw [cell_at hv2]; exact hvc j u hj
      have hUone := uss_one hvu
      rw [hb1, hv1]
      have hlast : ∀ (Y' : Nat → Prop) (w' : World), Fr (YY X β [.lst false e xs, .lst false e vs']) w Y' w' → ∀ {ous : List (List Value)}, All2 (Rep (YY X β [.lst false e xs, .lst false e vs']) w e) xs ous → ∀ {N cap : Nat} {vals' : Array Value} {el : TypeId} {fr : Nat × Nat},
          w'.heap[N]? = some (.cells vals' el fr) → thawedL e vals' fr → xs.length + 1 ≤ cap → cap * K ≤ vals'.size → (∀ (q : Nat) u, (ous.flatten.take (iN * K) ++ vus.flatten ++ ous.flatten.drop (iN * K))[q]? = some u → vals'[q]? = some u) →
          RepS β Y' w' (.lst false e (xs.take iN ++ vs' ++ xs.drop iN)) (.slice (some ⟨N, 0, none⟩) (xs.length + 1) cap) := by
        intro Y' w' hFr ous ho N cap vals' el fr hN hth hl hcap hq
        obtain ⟨cp, rfl⟩ : ∃ cp, cap = cp + 1 := ⟨cap - 1, by omega⟩
        have hlen : (xs.take iN ++ vs' ++ xs.drop iN).length = xs.length + 1 := by
          simp only [List.length_append, List.length_take, List.length_drop, hv1]; omega
        refine .inr ⟨N, cp, vals', el, fr, by rw [hlen], hN, hth, by rw [hlen]; exact hl, by rw [hK]; exact hcap, ?_⟩
        have ho' := ho.mono fun _ _ => Rep.mono hFr e
        have hv' := hvu.mono fun _ _ => Rep.mono hFr e
        refine uss_row (((ho'.take iN).append hv').append (ho'.drop iN)) fun q u hu => hq q u ?_
        rw [List.flatten_append, List.flatten_append, take_flatten ous iN (fun us hus => by rw [uss_lens ho us hus, hK]), drop_flatten ous iN (fun us hus => by rw [uss_lens ho us hus, hK])] at hu
        exact hu
      -- a new row behind an append that grows
      have grown : ∀ {ous : List (List Value)}, All2 (Rep (YY X β [.lst false e xs, .lst false e vs']) w e) xs ous → ∀ (w' : World) (G : Nat) (l' : List Value), w'.heap[w.heap.size]? = some (.cells l'.toArray tE (0, 0)) → xs.length + 1 ≤ G → G * K ≤ l'.length →
          (∀ (q : Nat) u, (ous.flatten.take (iN * K) ++ vus.flatten ++ ous.flatten.drop (iN * K))[q]? = some u → l'[q]? = some u) → (∀ (k : Nat) o, w.heap[k]? = some o → w'.heap[k]? = some o) → w.heap.size ≤ w'.heap.size → Same w w' →
          ∃ v β', (Ending.returned (.slice (some ⟨w.heap.size, 0, none⟩) (xs.length + 1) G)) = .returned v ∧ Ans X β w [.lst false e xs, .lst false e vs'] (.one (.rs 0)) [.lst false e (xs.take iN ++ vs' ++ xs.drop iN), .lst false e vs'] v w' β' := by
        intro ous ho w' G l' hN hG hGl hq hfr hsz' hsame
        refine ⟨_, _, rfl, ins_ans hpre (fun Y' hFr => hlast Y' w' hFr ho hN ⟨fun j _ hh => by simp at hh, .inr (Nat.le_refl _)⟩ hG (by simpa using hGl) (fun q u hu => by simpa using hq q u hu)) (fun k o hk _ => hfr k o hk) (fun bb hbb => .inr ?_) hsz' hsame ⟨_, _, _, rfl⟩⟩
        obtain ⟨g, rfl⟩ : ∃ g, G = g + 1 := ⟨G - 1, by omega⟩
        have hbb' : some w.heap.size = some bb := hbb
        have := Option.some.inj hbb'
        omega
      -- an append of the one element to a row without room
      have atEnd : ∀ {ous : List (List Value)}, All2 (Rep (YY X β [.lst false e xs, .lst false e vs']) w e) xs ous → iN = xs.length → ∀ (base : Option Addr) (c : Nat), (base = none → xs.length = 0 ∧ c = 0) → xs.length ≤ c → c < xs.length + 1 →
          (∀ w' : World, w'.heap = w.heap → (Builtin.firstCells ii.size xs.length (.slice base xs.length c)).run P w' = .ok ous.flatten.toArray w') →
          Calls P fI #[.slice base xs.length c, .int .i64 iN, .slice (some ⟨vb, 0, none⟩) 1 (c1 + 1)] w fun en w' => ∃ v β', en = .returned v ∧ Ans X β w [.lst false e xs, .lst false e vs'] (.one (.rs 0)) [.lst false e (xs.take iN ++ vs' ++ xs.drop iN), .lst false e vs'] v w' β' := by
        intro ous ho hie base c hbase hnc hg hold
        have hOl := uss_len ho
        rw [hK] at hOl
        have hrun : ∀ ty, (Builtin.append_ #[tS, tS] ty #[.slice base xs.length c, .slice (some ⟨vb, 0, none⟩) 1 (c1 + 1)]).run P w = _ := fun ty =>
          run_append_grow' (P := P) (ty := ty) h.und h.und (.inr ⟨_, rfl⟩) hi hz (base := base) (n := xs.length) (cap := c) (m := 1) (x := .slice (some ⟨vb, 0, none⟩) 1 (c1 + 1)) (olds := ous.flatten) (news := vus.flatten) hold rfl
            (fun w' hw => by
              refine run_firstCells_some (P := P) w' ii.size 1 ⟨vb, 0, none⟩ 1 (c1 + 1) vus.flatten (by rw [hUl, hsz, Nat.one_mul]) (fun j u hj => ?_)
              rw [Addr.add_lit, cell_at (w := w') (by rw [hw]; exact hv2)]
              simpa using hvc j u hj) hg (by rw [hby]; exact hB0) (by rw [hby]; exact hB)
        rw [show (Value.int .i64 (iN : Int)) = .int .i64 (xs.length : Int) by rw [hie]]
        refine (h.endW base xs.length c vb (c1 + 1) w _ _ hbase hnc hrun).mono ?_
        rintro en w' ⟨rfl, rfl⟩
        have hge := grownCap_ge w (xs.length + 1) c tE
        refine grown ho _ _ (ous.flatten ++ vus.flatten ++ (Builtin.zeroCells z.cells (grownCap w (xs.length + 1) c tE - (xs.length + 1))).toList) ?_ hge ?_ ?_ ?_ ?_ ⟨rfl, rfl, rfl⟩
        · exact alloc_at w _ _ tE (by apply Array.ext'; simp)
        · simp only [List.length_append, Array.length_toList, zeroCells_size, hzs, hOl, hUl]
          have : grownCap w (xs.length + 1) c tE * K = (xs.length + 1) * K + (grownCap w (xs.length + 1) c tE - (xs.length + 1)) * K := by
            rw [← Nat.add_mul]; congr 1; omega
          rw [this, Nat.add_mul]; omega
        · intro q u hu
          rw [hie, ← hOl, List.take_length, List.drop_length, List.append_nil] at hu
          rw [List.getElem?_append_left (List.getElem?_eq_some_iff.1 hu).1]; exact hu
        · exact fun k o hk => alloc_old w _ hk
        · show w.heap.size ≤ (w.heap.push _).size
          rw [Array.size_push]; omega
      rcases s0 with ⟨rfl, ad, hbk⟩ | ⟨b, cap, vals0, el, fr, hbk, hb2, hth, hlc, hcap, hrow⟩
      · rw [hbk]
        have hi00 : iN = 0 := by simpa using hin'
        exact atEnd (ous := []) trivial (by simpa using hi00) ad 0 (fun _ => ⟨rfl, rfl⟩) (Nat.le_refl _) (by simp) (fun w' _ => by
          cases ad with
          | none => simpa using run_firstCells_none (P := P) w' ii.size 0 0 0
          | some a => exact run_firstCells_some (P := P) w' ii.size 0 a 0 0 [] (by simp) (fun j v hj => by simp at hj))
      · rw [hbk]
        obtain ⟨ous, ho, hoc⟩ := Row.uss xs 0 (by simpa using hrow)
        have hOl := uss_len ho
        have hOone := uss_one ho
        rw [hK] at hOl hcap
        have hb3 : w.heap[b]? = some (.cells vals0.toList.toArray el fr) := by simpa using hb2
        have hOc : ∀ (j : Nat) u, ous.flatten[j]? = some u → w.cell? ⟨b, 0 + j, none⟩ = some u := fun j u hj => by
          rw [cell_at hb2]; exact hoc j u hj
        have hpl : iN * K ≤ ous.flatten.length := by rw [hOl]; exact Nat.mul_le_mul_right _ hin'
        have hne0 : blk (β 1) = some vb := by rw [hb1, hv1]; rfl
        by_cases hroom : xs.length + 1 ≤ cap + 1
        · -- there is room
          have hfit : ous.flatten.length + K ≤ vals0.toList.length := by
            have := Nat.mul_le_mul_right K hroom
            rw [Nat.add_mul, Nat.one_mul] at this
            have hvl : vals0.toList.length = vals0.size := Array.length_toList
            rw [hOl, hvl]; omega
          have hbb : b ≠ vb := by
            rintro rfl
            have g0 : blk (β 0) = some b := by rw [hbk]; rfl
            have := hpre.inj 0 1 _ _ b rfl rfl g0 hne0
            cases this
          have hmov : (ous.flatten.drop (iN * K)).length = (xs.length - iN) * ii.size := by rw [List.length_drop, hOl, hsz, Nat.sub_mul]
          have hsk : (iN + 1) * K = iN * K + K := Nat.succ_mul iN K
          have hvb0 : 0 < vv.size := by
            have : 0 < (c1 + 1) * e.size := Nat.mul_pos (by omega) (by rw [hK]; exact hK0)
            omega
          have hb0 : vals0.size ≠ 0 := by
            have : 0 < (cap + 1) * K := Nat.mul_pos (by omega) hK0
            omega
          have hfin : ∀ (w' : World) (l' : List Value), w'.heap[b]? = some (.cells l'.toArray el fr) → l'.length = vals0.toList.length → (∀ (k : Nat) o, w.heap[k]? = some o → k ≠ b → w'.heap[k]? = some o) → w.heap.size ≤ w'.heap.size → Same w w' →
              (∀ (q : Nat) u, (ous.flatten.take (iN * K) ++ vus.flatten ++ ous.flatten.drop (iN * K))[q]? = some u → l'[q]? = some u) →
              ∃ v β', (Ending.returned (.slice (some ⟨b, 0, none⟩) (xs.length + 1) (cap + 1))) = .returned v ∧ Ans X β w [.lst false e xs, .lst false e vs'] (.one (.rs 0)) [.lst false e (xs.take iN ++ vs' ++ xs.drop iN), .lst false e vs'] v w' β' := by
            intro w' l' hw' hl' hfr hsz' hsame hq
            refine ⟨_, _, rfl, ins_ans hpre (fun Y' hFr => hlast Y' w' hFr ho hw' ⟨fun j hj => hth.1 j (by simpa [hl'] using hj), hth.2⟩ hroom (by simpa [hl'] using hcap) (fun q u hu => by simpa using hq q u hu))
              (fun k o hk hn => hfr k o hk (fun e => hn (by rw [e, hbk]; rfl))) (fun bb hbb => .inl (by rw [hbk]; exact hbb)) hsz' hsame ⟨_, _, _, rfl⟩⟩
          by_cases hie : iN = xs.length
          · have h0 : xs.length * K + vus.flatten.length ≤ vals0.toList.length := by rw [hUl, ← hOl]; exact hfit
            have hst := run_stores (P := P) hb3 h0 (by simpa using hth.1) hUone
            have hrun : ∀ ty, (Builtin.append_ #[tS, tS] ty #[.slice (some ⟨b, 0, none⟩) xs.length (cap + 1), .slice (some ⟨vb, 0, none⟩) 1 (c1 + 1)]).run P w = .ok (.slice (some ⟨b, 0, none⟩) (xs.length + 1) (cap + 1)) (w.setCells b (xs.length * K) vus.flatten) := fun ty =>
              run_append_fit (P := P) (ty := ty) h.und h.und (.inr ⟨_, rfl⟩) hi (base := some ⟨b, 0, none⟩) (n := xs.length) (cap := cap + 1) (m := 1) (x := .slice (some ⟨vb, 0, none⟩) 1 (c1 + 1)) (news := vus.flatten)
                (w' := w.setCells b (xs.length * K) vus.flatten) rfl (run_firstCells_some (P := P) w ii.size 1 ⟨vb, 0, none⟩ 1 (c1 + 1) vus.flatten (by rw [hUl, hsz, Nat.one_mul]) (fun j u hj => by
                  rw [Addr.add_lit]; exact hUc j u hj)) hroom (by simp only [Addr.add_lit, Nat.zero_add, hsz]; exact hst)
            rw [show (Value.int .i64 (iN : Int)) = .int .i64 (xs.length : Int) by rw [hie]]
            refine (h.endW (some ⟨b, 0, none⟩) xs.length (cap + 1) vb (c1 + 1) w _ _ (fun hh => by cases hh) hlc hrun).mono ?_
            rintro en w' ⟨rfl, rfl⟩
            refine hfin _ _ (heap_setCells b vus.flatten (xs.length * K) w hb3 h0) (putAt_length _ _ _ h0) (fun k o hk hn => by rw [heap_setCells_ne b (fun e => hn e.symm)]; exact hk) (by rw [size_setCells]; exact Nat.le_refl _) (same_setCells _ _ _ _) ?_
            intro q u hu
            rw [hie, ← hOl, List.take_length, List.drop_length, List.append_nil] at hu
            rw [hOl.symm, putAt_get _ _ _ (by rw [hOl]; exact h0)]
            by_cases hq : q < ous.flatten.length
            · rw [List.getElem?_append_left hq] at hu
              rw [if_neg (by omega)]
              simpa using hoc q u hu
            · rw [List.getElem?_append_right (by omega)] at hu
              have hlt2 := (List.getElem?_eq_some_iff.1 hu).1
              rw [if_pos (by omega)]; exact hu
          · have hlt : iN < xs.length := by omega
            have hDlen : (iN + 1) * K + (ous.flatten.drop (iN * K)).length ≤ vals0.toList.length := by rw [List.length_drop, hsk]; omega
            have hUlen : iN * K + vus.flatten.length ≤ vals0.toList.length := by rw [hUl]; omega
            have hDone : ∀ v ∈ ous.flatten.drop (iN * K), v.oneCell' = true := fun v hv => hOone v (List.mem_of_mem_drop hv)
            have hDc : ∀ (W : World), W.heap[b]? = w.heap[b]? → ∀ (j : Nat) u, (ous.flatten.drop (iN * K))[j]? = some u → W.cell? ⟨b, iN * K + j, none⟩ = some u := fun W hW j u hj => by
              rw [cell_at (w := W) (by rw [hW]; exact hb2)]
              rw [List.getElem?_drop] at hj
              simpa using hoc _ u hj
            have hth' : thawed vals0.toList.toArray fr := by simpa using hth.1
            have hl2 := putAt_length vals0.toList ((iN + 1) * K) (ous.flatten.drop (iN * K)) hDlen
            refine (h.shiftW b xs.length (cap + 1) iN vb (c1 + 1) w vus.flatten (ous.flatten.drop (iN * K)) hlt hroom (by omega) (fun lb cb => h.ov vb (c1 + 1) b ((iN + 1) * K) lb cb elv vv.size el vals0.size w (fun e => hbb e.symm) (by simp [World.shape?, hv2]) (by simp [World.shape?, hb2]) hb0 ?_ ?_) ?_ ?_).mono ?_
            · have := hthv.1 0 hvb0
              simp only [World.frozen?, hv2]
              simpa using this
            · have := hthv.2.resolve_left hne
              simp only [World.frozen?, hv2]
              simp; omega
            · intro W hW ty dc sc
              refine run_copyK W h.und hi (m := xs.length - iN) ?_ hmov (hDc W (by rw [hW])) (by rw [hW]; exact hb3) hDlen hth' hDone
              simp only [Nat.min_def]; split <;> omega
            · intro W hW ty dc
              have hWb : W.heap[b]? = some (.cells (putAt vals0.toList ((iN + 1) * K) (ous.flatten.drop (iN * K))).toArray el fr) := by rw [hW]; exact heap_setCells b _ _ w hb3 hDlen
              refine run_copyK W h.und hi (m := 1) ?_ (by rw [hUl, hsz, Nat.one_mul]) (fun j u hj => ?_) hWb (by rw [hl2]; exact hUlen) (fun j hj => hth' j (by simpa [hl2] using hj)) hUone
              · simp only [Nat.min_def]; split <;> omega
              · have hWv : W.heap[vb]? = w.heap[vb]? := by rw [hW]; exact heap_setCells_ne b hbb _ _ w
                rw [cell_at (w := W) (by rw [hWv]; exact hv2)]; exact hvc j u hj
            · rintro en w' ⟨rfl, rfl⟩
              have hb3' : w.drew.heap[b]? = some (.cells vals0.toList.toArray el fr) := hb3
              have h1 := heap_setCells b (ous.flatten.drop (iN * K)) ((iN + 1) * K) w.drew hb3' hDlen
              have h2 := heap_setCells b vus.flatten (iN * K) _ h1 (by rw [hl2]; exact hUlen)
              refine hfin _ _ h2 (by rw [putAt_length _ _ _ (by rw [hl2]; exact hUlen), hl2]) (fun k o hk hn => by rw [heap_setCells_ne b (fun e => hn e.symm), heap_setCells_ne b (fun e => hn e.symm)]; exact hk)
                (by rw [size_setCells, size_setCells]; exact Nat.le_refl _) ((show Same w w.drew from ⟨rfl, rfl, rfl⟩).trans ((same_setCells _ _ _ _).trans (same_setCells _ _ _ _))) ?_
              rw [hsk]
              exact (fin_get hpl hUl hfit (fun q u hq hu => by simpa using hoc q u hu)).2
        · -- there is none
          have hcn : cap + 1 = xs.length := by omega
          have hold : ∀ w' : World, w'.heap = w.heap → (Builtin.firstCells ii.size xs.length (.slice (some ⟨b, 0, none⟩) xs.length (cap + 1))).run P w' = .ok ous.flatten.toArray w' := fun w' hw =>
            run_firstCells_some (P := P) w' ii.size xs.length ⟨b, 0, none⟩ xs.length (cap + 1) ous.flatten (by rw [hOl, hsz]) (fun j u hj => by
              rw [Addr.add_lit, cell_at (w := w') (by rw [hw]; exact hb2)]
              simpa using hoc j u hj)
          by_cases hie : iN = xs.length
          · exact atEnd ho hie (some ⟨b, 0, none⟩) (cap + 1) (fun hh => by cases hh) hlc (by omega) hold
          · have hlt : iN < xs.length := by omega
            have hsk : (iN + 1) * K = iN * K + K := Nat.succ_mul iN K
            have hmov : (ous.flatten.drop (iN * K)).length = (xs.length - iN) * ii.size := by rw [List.length_drop, hOl, hsz, Nat.sub_mul]
            obtain ⟨kn, hkn⟩ := h.undI
            have htl : (ous.flatten.take (iN * K)).length = iN * K := by rw [List.length_take]; omega
            have hrz : ∀ ty, (Builtin.append_ #[tS, tI] ty #[.slice (some ⟨b, 0, none⟩) iN (cap + 1), .int .i64 ((xs.length : Int) + 1 - (iN : Int))]).run P w =
                .ok (.slice (some ⟨w.heap.size, 0, none⟩) (xs.length + 1) (grownCap w (xs.length + 1) (cap + 1) tE)) (w.drew.alloc (.cells ((ous.flatten.take (iN * K)).toArray ++ Builtin.zeroCells z.cells (xs.length + 1 - iN) ++ Builtin.zeroCells z.cells (grownCap w (xs.length + 1) (cap + 1) tE - (xs.length + 1))) tE)) := fun ty => by
              have hB1 : (xs.length + 1 - iN) * B ≤ (xs.length + 1) * B := Nat.mul_le_mul_right _ (by omega)
              have e1 : iN + (xs.length + 1 - iN) = xs.length + 1 := by omega
              have := Lib.run_append_grow_zeros (P := P) w tS tI ty tE ii z .i64 kn h.und hkn hi hz (some ⟨b, 0, none⟩) iN (cap + 1) (ous.flatten.take (iN * K))
                (run_firstCells_some (P := P) w.drew ii.size iN ⟨b, 0, none⟩ iN (cap + 1) _ (by rw [htl, hsz]) (fun j u hj => by
                  rw [Addr.add_lit, cell_at (w := w.drew) hb2]
                  rw [List.getElem?_take] at hj
                  split at hj
                  · simpa using hoc j u hj
                  · cases hj)) (xs.length + 1 - iN) (by omega) (by rw [hsz]; exact hK0) (by omega) (by omega) (by rw [hby]; omega) (by rw [hby, e1]; exact growslice_fits (by omega) hB)
              rw [e1] at this
              rw [show (xs.length : Int) + 1 - (iN : Int) = ((xs.length + 1 - iN : Nat) : Int) by omega]
              exact this
            have hge := grownCap_ge w (xs.length + 1) (cap + 1) tE
            obtain ⟨G, hG⟩ : ∃ G, G = grownCap w (xs.length + 1) (cap + 1) tE := ⟨_, rfl⟩
            rw [← hG] at hrz hge
            obtain ⟨l0, hl0⟩ : ∃ l0 : List Value, l0 = ous.flatten.take (iN * K) ++ (Builtin.zeroCells z.cells (xs.length + 1 - iN)).toList ++ (Builtin.zeroCells z.cells (G - (xs.length + 1))).toList := ⟨_, rfl⟩
            have harr : (ous.flatten.take (iN * K)).toArray ++ Builtin.zeroCells z.cells (xs.length + 1 - iN) ++ Builtin.zeroCells z.cells (G - (xs.length + 1)) = l0.toArray := by
              rw [hl0]; apply Array.ext'; simp
            rw [harr] at hrz
            have hl0l : l0.length = G * K := by
              rw [hl0]
              simp only [List.length_append, Array.length_toList, zeroCells_size, hzs, htl]
              rw [← Nat.add_mul, ← Nat.add_mul]; congr 1; omega
            have hGK : (xs.length + 1) * K ≤ G * K := Nat.mul_le_mul_right _ hge
            have hfit : ous.flatten.length + K ≤ l0.length := by rw [hl0l, hOl]; rw [Nat.add_mul, Nat.one_mul] at hGK; exact hGK
            have hDlen : (iN + 1) * K + (ous.flatten.drop (iN * K)).length ≤ l0.length := by rw [List.length_drop, hsk]; omega
            have hUlen : iN * K + vus.flatten.length ≤ l0.length := by rw [hUl]; omega
            have hDone : ∀ v ∈ ous.flatten.drop (iN * K), v.oneCell' = true := fun v hv => hOone v (List.mem_of_mem_drop hv)
            have hth0 : thawed l0.toArray (0, 0) := fun j _ hh => by simp at hh
            have hl2 := putAt_length l0 (iN * K) vus.flatten hUlen
            have hw1 := alloc_at w l0.toArray l0 tE rfl
            have hvlt := (Array.getElem?_eq_some_iff.1 hv2).1
            have hblt := (Array.getElem?_eq_some_iff.1 hb2).1
            have h2 := heap_setCells w.heap.size vus.flatten (iN * K) _ hw1 hUlen
            refine (h.growW b xs.length (cap + 1) iN vb (c1 + 1) w.heap.size G w _ vus.flatten (ous.flatten.drop (iN * K)) hlt (by omega) (by omega) (by omega) hge hrz ?_ ?_).mono ?_
            · intro W hW ty dc
              refine run_copyK W h.und hi (m := 1) ?_ (by rw [hUl, hsz, Nat.one_mul]) (fun j u hj => ?_) (by rw [hW]; exact hw1) hUlen hth0 hUone
              · simp only [Nat.min_def]; split <;> omega
              · rw [cell_at (w := W) (by rw [hW]; exact alloc_old w _ hv2)]; exact hvc j u hj
            · intro W hW ty dc sc
              refine run_copyK W h.und hi (m := xs.length - iN) ?_ hmov (fun j u hj => ?_) (by rw [hW]; exact h2) (by rw [hl2]; exact hDlen) (fun j _ hh => by simp at hh) hDone
              · simp only [Nat.min_def]; split <;> omega
              · rw [cell_at (w := W) (by rw [hW, heap_setCells_ne w.heap.size (by omega)]; exact alloc_old w _ hb2)]
                rw [List.getElem?_drop] at hj
                simpa using hoc _ u hj
            · rintro en w' ⟨rfl, rfl⟩
              have h2' : ((w.drew.alloc (.cells l0.toArray tE)).setCells w.heap.size (iN * K) vus.flatten).drew.heap[w.heap.size]? = some (.cells (putAt l0 (iN * K) vus.flatten).toArray tE (0, 0)) := h2
              have h3 := heap_setCells w.heap.size (ous.flatten.drop (iN * K)) ((iN + 1) * K) _ h2' (by rw [hl2]; exact hDlen)
              refine grown ho _ G _ h3 hge (by rw [putAt_length _ _ _ (by rw [hl2]; exact hDlen), hl2, hl0l]; exact Nat.le_refl _) ?_ (fun k o hk => ?_) ?_ ?_
              · rw [hsk]
                refine (fin_get hpl hUl hfit (fun q u hq hu => ?_)).1
                rw [hl0, List.append_assoc, List.getElem?_append_left (by rw [htl]; exact hq), List.getElem?_take, if_pos hq]
                exact hu
              · have hklt := (Array.getElem?_eq_some_iff.1 hk).1
                rw [heap_setCells_ne w.heap.size (by omega)]
                show ((w.drew.alloc (.cells l0.toArray tE)).setCells w.heap.size (iN * K) vus.flatten).heap[k]? = _
                rw [heap_setCells_ne w.heap.size (by omega)]
                exact alloc_old w _ hk
              · rw [size_setCells]
                show _ ≤ ((w.drew.alloc (.cells l0.toArray tE)).setCells w.heap.size (iN * K) vus.flatten).heap.size
                rw [size_setCells]
                show w.heap.size ≤ (w.heap.push _).size
                rw [Array.size_push]; omega
              · have a1 : Same w (w.drew.alloc (.cells l0.toArray tE)) := ⟨rfl, rfl, rfl⟩
                have a2 := same_setCells w.heap.size vus.flatten (iN * K) (w.drew.alloc (.cells l0.toArray tE))
                have a3 : Same ((w.drew.alloc (.cells l0.toArray tE)).setCells w.heap.size (iN * K) vus.flatten) ((w.drew.alloc (.cells l0.toArray tE)).setCells w.heap.size (iN * K) vus.flatten).drew := ⟨rfl, rfl, rfl⟩
                exact a1.trans (a2.trans (a3.trans (same_setCells _ _ _ _)))
    match vals, hpre.args with
    | [a0, a1, a2], ⟨⟨h0, _⟩, h1, ⟨h2, _⟩, _⟩ =>
      exact .inl ⟨h.enter _ _, goal h0 h1 h2⟩
end
end Go.AM
/- slices.Clone: from what its roads do (a walk at the program) to a model. -/
set_option linter.unusedSimpArgs false
set_option linter.unusedVariables false
namespace Go.AM
open Go Go.RowKit Go.Proofs

structure CloneW (P : Program) (fC tS tE K B : Nat) : Prop where
  enter : ∀ vs w, (callFunc fC vs).run P w = .ok (.enter fC vs) w
  nilW : ∀ (n c : Nat) (w : World), Calls P fC #[.slice none n c] w fun e w' => e = .returned (.slice none 0 0) ∧ w' = w
  someW : ∀ (a : Addr) (n c : Nat) (w w1 : World) (v1 : Value),
    (∀ ty, (Builtin.append_ #[tS, tS] ty #[.slice (some ⟨w.heap.size, 0, none⟩) 0 0, .slice (some a) n c]).run P (w.alloc (.cells #[] tE)) = .ok v1 w1) →
    Calls P fC #[.slice (some a) n c] w fun e w' => e = .returned v1 ∧ w' = w1
  und : P.underlying tS = some (.slice tE)
  info : ∃ i z, P.info? tE = some i ∧ i.zero = some z ∧ i.size = K ∧ z.cells.size = K ∧ 0 < K ∧ i.bytes = B ∧ 0 < B

def cloneM {α : Type} (B : Nat) (xs : List α) : Option (Unit × (List α × Unit)) := if xs.length * B ≤ 140737488355328 then some ((), (xs, ())) else none

section
variable {P : Program} {cx : Cx}
theorem new_ans {X : Nat → Prop} {β : Nat → Value} {w : World} {e : Ty} {zs : List e.El} {rv : Value} {w' : World} {args : List V} {vals : List Value} (hpre : Pre cx X β w args vals [])
    (hrow : ∀ (Y' : Nat → Prop), Fr (YY X β []) w Y' w' → RepS β Y' w' (.lst false e zs) rv)
    (hfr : ∀ (k : Nat) o, w.heap[k]? = some o → w'.heap[k]? = some o) (hblk : ∀ bb, blk rv = some bb → w.heap.size ≤ bb) (hsz : w.heap.size ≤ w'.heap.size) (hsame : Same w w') (hsl : ∃ a l c, rv = .slice a l c) :
    Ans X β w [] (.one (.rs 0)) [.lst false e zs] rv w' (upd β 0 rv) := by
  have hFr : Fr (YY X β []) w (YY X (upd β 0 rv) [.lst false e zs]) w' := by
    intro b o hb hn
    refine ⟨hfr b o hb, ?_⟩
    rintro (hx | ⟨k, s, hk, hbk⟩)
    · exact hn (.inl hx)
    · match k, hk with
      | 0, hk =>
        have hbk' : blk rv = some b := by simpa [upd] using hbk
        have h := hblk b hbk'
        have := (Array.getElem?_eq_some_iff.1 hb).1; omega
      | k + 1, hk => simp [nth] at hk
  refine ⟨⟨by simp [upd], hsl⟩, ?_, ?_, fun b o hb _ => hfr b o hb, ?_, hsz, hsame, fun k s hk => by simp [nth] at hk, fun k s hk => by simp [nth] at hk⟩
  · intro k s hk
    match k, hk with
    | 0, hk =>
      have hk' : Slot.lst false e zs = s := by simpa [nth] using hk
      subst hk'
      have := hrow _ hFr
      rw [show upd β 0 rv 0 = rv by simp [upd]]
      exact this
    | k + 1, hk => simp [nth] at hk
  · intro j k s s' bb hj hk _ _
    match j, hj, k, hk with
    | 0, _, 0, _ => rfl
    | j + 1, hj, _, _ => simp [nth] at hj
    | _, _, k + 1, hk => simp [nth] at hk
  · rintro bb ⟨k, s, hk, hbk⟩
    match k, hk with
    | 0, _ =>
      have g0 : blk rv = some bb := by simpa [upd] using hbk
      have h := hblk bb g0
      exact ⟨.inr h, fun hx => by have := hpre.outer bb hx; omega⟩
    | k + 1, hk => simp [nth] at hk
theorem clone_valid {fC tS tE K B : Nat} (h : CloneW P fC tS tE K B) (e : Ty) (hK : e.size = K) :
    (⟨fC, [.one (.ty (.list e))], [], fun x => cloneM B x.1.1⟩ : FX (.v (.one (.con (.rs 0)))) [.lst false e]).Valid P cx := by
  rintro ⟨⟨xs, u0⟩, u1⟩ ⟨y, ys, u4⟩ hm X β w vals hpre0
  have hpre : Pre cx X β w [.one (.list e xs)] vals [] := hpre0
  have hm' : cloneM B xs = some (y, (ys, u4)) := hm
  unfold cloneM at hm'
  split at hm'
  case isFalse => cases hm'
  case isTrue hB =>
    simp only [Option.some.injEq, Prod.mk.injEq] at hm'
    obtain ⟨_, rfl, _⟩ := hm'
    obtain ⟨ii, z, hi, hz, hsz, hzs, hK0, hby, hB0⟩ := h.info
    match vals, hpre.args with
    | [v], ⟨h0, _⟩ =>
      have h0' : Rep (YY X β []) w (.list e) xs [v] := h0
      obtain ⟨a, cap, hv, hlc, hrow⟩ := h0'
      simp only [List.cons.injEq, and_true] at hv
      subst hv
      refine .inl ⟨h.enter _ _, ?_⟩
      cases a with
      | none =>
        rcases hrow with rfl | ⟨b, off, ha, _⟩
        · refine (h.nilW _ cap w).mono ?_
          rintro en w' ⟨rfl, rfl⟩
          exact ⟨_, _, rfl, new_ans hpre (fun Y' _ => .inl ⟨rfl, none, rfl⟩) (fun k o hk => hk) (fun bb hbb => by simp [blk] at hbb) (Nat.le_refl _) (Same.refl _) ⟨_, _, _, rfl⟩⟩
        · cases ha
      | some a =>
        have hal : ∀ (k : Nat) o, w.heap[k]? = some o → (w.alloc (.cells #[] tE)).heap[k]? = some o := by
          intro k o hk
          have hlt := (Array.getElem?_eq_some_iff.1 hk).1
          show (w.heap.push _)[k]? = _
          rw [Array.getElem?_push_lt hlt]; rw [← hk, Array.getElem?_eq_getElem hlt]
        have hals : (w.alloc (.cells #[] tE)).heap.size = w.heap.size + 1 := by
          show (w.heap.push _).size = _
          rw [Array.size_push]
        by_cases hn : xs = []
        · subst hn
          have hrun : ∀ ty, (Builtin.append_ #[tS, tS] ty #[.slice (some ⟨w.heap.size, 0, none⟩) 0 0, .slice (some a) 0 cap]).run P (w.alloc (.cells #[] tE)) = .ok (.slice (some ⟨w.heap.size, 0, none⟩) (0 + 0) 0) (w.alloc (.cells #[] tE)) := fun ty =>
            run_append_fit (P := P) (ty := ty) h.und h.und (.inr ⟨_, rfl⟩) hi (base := some ⟨w.heap.size, 0, none⟩) (n := 0) (cap := 0) (m := 0) (x := .slice (some a) 0 cap) (news := [])
              rfl (run_firstCells_some (P := P) _ ii.size 0 a 0 cap [] (by simp) (fun j u hj => by simp at hj)) (Nat.le_refl _) rfl
          refine (h.someW a 0 cap w _ _ hrun).mono ?_
          rintro en w' ⟨rfl, rfl⟩
          exact ⟨_, _, rfl, new_ans hpre (fun Y' _ => .inl ⟨rfl, _, rfl⟩) hal (fun bb hbb => by simp [blk] at hbb) (by omega) ⟨rfl, rfl, rfl⟩ ⟨_, _, _, rfl⟩⟩
        · rcases hrow with rfl | ⟨b, off, ha, hx, vv, el, fr, hb, hall⟩
          · exact absurd rfl hn
          · simp only [Option.some.injEq] at ha
            subst ha
            obtain ⟨uss, hu, huc⟩ := Row.uss xs off (by simpa using hall)
            have hul := uss_len hu
            rw [hK] at hul
            have hxl : 0 < xs.length := List.length_pos_iff.2 hn
            have hrun : ∀ ty, (Builtin.append_ #[tS, tS] ty #[.slice (some ⟨w.heap.size, 0, none⟩) 0 0, .slice (some ⟨b, off, none⟩) xs.length cap]).run P (w.alloc (.cells #[] tE)) = _ := fun ty =>
              run_append_grow' (P := P) (ty := ty) h.und h.und (.inr ⟨_, rfl⟩) hi hz (base := some ⟨w.heap.size, 0, none⟩) (n := 0) (cap := 0) (m := xs.length) (x := .slice (some ⟨b, off, none⟩) xs.length cap) (olds := []) (news := uss.flatten)
                (fun w' _ => run_firstCells_some (P := P) w' ii.size 0 ⟨w.heap.size, 0, none⟩ 0 0 [] (by simp) (fun j v hj => by simp at hj)) rfl
                (fun w' hw => by
                  refine run_firstCells_some (P := P) w' ii.size xs.length ⟨b, off, none⟩ xs.length cap uss.flatten (by rw [hul, hsz]) (fun j u hj => ?_)
                  rw [Addr.add_lit, cell_at (w := w') (by rw [hw]; exact hal _ _ hb)]
                  exact huc j u hj) (by omega) (by rw [hby]; exact hB0) (by rw [hby]; simpa using hB)
            refine (h.someW ⟨b, off, none⟩ xs.length cap w _ _ hrun).mono ?_
            rintro en w' ⟨rfl, rfl⟩
            have hge := grownCap_ge (w.alloc (.cells #[] tE)) (0 + xs.length) 0 tE
            obtain ⟨G, hG⟩ : ∃ G, G = grownCap (w.alloc (.cells #[] tE)) (0 + xs.length) 0 tE := ⟨_, rfl⟩
            rw [← hG] at hge ⊢
            obtain ⟨g, rfl⟩ : ∃ g, G = g + 1 := ⟨G - 1, by omega⟩
            have hnew := alloc_at (w.alloc (.cells #[] tE)) (([] : List Value).toArray ++ uss.flatten.toArray ++ Builtin.zeroCells z.cells (g + 1 - (0 + xs.length))) (uss.flatten ++ (Builtin.zeroCells z.cells (g + 1 - (0 + xs.length))).toList) tE (by apply Array.ext'; simp)
            refine ⟨_, _, rfl, new_ans hpre (fun Y' hFr => ?_) (fun k o hk => alloc_old _ _ (hal k o hk)) (fun bb hbb => ?_) ?_ ⟨rfl, rfl, rfl⟩ ⟨_, _, _, rfl⟩⟩
            · refine .inr ⟨(w.alloc (.cells #[] tE)).heap.size, g, _, tE, (0, 0), by rw [Nat.zero_add], hnew, ⟨fun j _ hh => by simp at hh, .inr (Nat.le_refl _)⟩, (show xs.length ≤ g + 1 by omega), ?_, ?_⟩
              · rw [hK]
                simp only [List.size_toArray, List.length_append, Array.length_toList, zeroCells_size, hzs, hul, Nat.zero_add]
                rw [← Nat.add_mul]
                exact Nat.mul_le_mul_right _ (by omega)
              · refine uss_row (hu.mono fun _ _ => Rep.mono hFr e) fun q u hq => ?_
                rw [List.getElem?_toArray, List.getElem?_append_left (List.getElem?_eq_some_iff.1 hq).1]; exact hq
            · have hbb' : some (w.alloc (.cells #[] tE)).heap.size = some bb := hbb
              have := Option.some.inj hbb'
              omega
            · show w.heap.size ≤ ((w.alloc (.cells #[] tE)).heap.push _).size
              rw [Array.size_push]; omega
end
end Go.AM
