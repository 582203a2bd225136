/- Part E of a maker of conditions for walks, and why it is sound. -/
import Derived.Test.YtkjbhlhebjfklaaDoorAmD
import Derived.ChangeArms
import Derived.DataReads
import Derived.WideShapes
import Derived.Deep.Slices
import Derived.RowKit
import Derived.Below
import Derived.Lib.Bytealg
import Derived.Shelf.Strings.OnBuilder
import Derived.Shelf.Strings.Repeat
import Derived.Shelf.Strings.Search3
import Derived.SizedLaws
import Derived.Handed
set_option linter.unusedVariables false
set_option linter.unusedSimpArgs false
set_option linter.unusedVariables false
set_option linter.unusedSimpArgs false
namespace Go.AM
open Go Go.RowKit
section
variable {P : Program}
/-- Whatever reads at type t stands for a value of the shape ty, with Q. -/
def OpR (P : Program) (t : TypeId) (ty : Ty) (Q : ty.El → Prop) : Prop :=
 ∀ {H : Type} (enc : TypeId × Value → H) (w : World) (base : Nat) (spare : Nat → Bool) (held : Bool) (fuel : Nat) (cs : List Value) (x : DataW H × List MemPlace),
  DataW.trod enc P w base spare held fuel t cs = some x → ∃ a : ty.El, Rep X0 w ty a cs ∧ Q a
theorem opR_int {t : TypeId} {k : IntKind} (ht : P.underlying t = some (.int k)) : OpR P t (.int k) (fun n => (Lit.int k n).wf = true) := by
 intro H enc w base spare held fuel cs x h
 obtain ⟨n, rfl, _, hw⟩ := DataW.trod_int ht h
 exact ⟨n, rfl, hw⟩
theorem opR_bool {t : TypeId} (ht : P.underlying t = some .bool) : OpR P t .bool (fun _ => True) := by
 intro H enc w base spare held fuel cs x h
 obtain ⟨n, rfl, _⟩ := DataW.trod_bool ht h
 exact ⟨n, rfl, trivial⟩
theorem opR_str {t : TypeId} (ht : P.underlying t = some .string) : OpR P t .str (fun s => List.length (α := UInt8) s ≤ maxLen) := by
 intro H enc w base spare held fuel cs x h
 obtain ⟨s, rfl, _, hs⟩ := DataW.trod_string ht h
 refine ⟨s.data.toList, ?_, ?_⟩
 ·show [Value.string s] = [.string ⟨s.data.toList.toArray⟩]
  cases s; simp
 ·show s.data.toList.length ≤ maxLen
  rw [Array.length_toList]; exact hs
/-- The fields fs, from offset o on, stand for a value of the shape ty in line. -/
def OpRAt (P : Program) (fs : List Field) (o total : Nat) (ty : Ty) (Q : ty.El → Prop) : Prop :=
 ∀ {H : Type} (enc : TypeId × Value → H) (w : World) (base : Nat) (spare : Nat → Bool) (held : Bool) (n : Nat) (cs : List Value), cs.length = total →
  (∀ f ∈ fs, ∃ x, DataW.trod enc P w base spare held n f.type ((cs.drop f.offset).take (P.cellsOf f.type)) = some x) → ∃ a : ty.El, Rep X0 w ty a (cs.drop o) ∧ Q a
theorem opR_last {f : Field} {o total : Nat} {ty : Ty} {Q : ty.El → Prop} (h : OpR P f.type ty Q) (ho : f.offset = o) (ht : o + P.cellsOf f.type = total) : OpRAt P [f] o total ty Q := by
 intro H enc w base spare held n cs hl hf
 obtain ⟨x, hx⟩ := hf f (by simp)
 rw [ho, List.take_of_length_le (by rw [List.length_drop]; omega)] at hx
 exact h enc w base spare held n _ x hx
theorem opR_cons {f : Field} {fs : List Field} {o total : Nat} {ty ty' : Ty} {Q : ty.El → Prop} {Q' : ty'.El → Prop} (h : OpR P f.type ty Q) (ho : f.offset = o)
    (hr : OpRAt P fs (o + P.cellsOf f.type) total ty' Q') : OpRAt P (f :: fs) o total (.pair ty ty') (fun a => Q a.1 ∧ Q' a.2) := by
 intro H enc w base spare held n cs hl hf
 obtain ⟨x, hx⟩ := hf f (by simp)
 obtain ⟨a, ha, qa⟩ := h enc w base spare held n _ x hx
 obtain ⟨b, hb, qb⟩ := hr enc w base spare held n cs hl (fun g hg => hf g (by simp [hg]))
 refine ⟨(a, b), ⟨_, _, ?_, ha, hb⟩, qa, qb⟩
 rw [ho, ← List.drop_drop, List.take_append_drop]
theorem opR_struct {t : TypeId} {fs : Array Field} {ty : Ty} {Q : ty.El → Prop} (total : Nat) (ht : P.underlying t = some (.struct fs)) (hc : P.cellsOf t = total)
    (h : OpRAt P fs.toList 0 total ty Q) : OpR P t ty Q := by
 intro H enc w base spare held fuel cs x hx
 obtain ⟨xs, n, _, _, hl, hlen, hf⟩ := DataW.trod_struct ht hx
 obtain ⟨a, ha, qa⟩ := h enc w base spare held n cs (hl.trans hc) (fun f hfm => by
  obtain ⟨i, hi, rfl⟩ := List.getElem_of_mem hfm
  have hi' : i < fs.size := by simpa using hi
  have e : fs[i]? = some fs.toList[i] := by rw [Array.getElem?_eq_getElem hi']; simp
  have := hf i _ e
  rw [List.getElem?_eq_getElem (by omega)] at this
  exact ⟨_, this⟩)
 rw [List.drop_zero] at ha
 exact ⟨a, ha, qa⟩
theorem list_of {α : Type} (R : Nat → α → Prop) (n : Nat) (h : ∀ i, i < n → ∃ a, R i a) : ∃ l : List α, l.length = n ∧ ∀ i a, l[i]? = some a → R i a := by
 induction n with
 | zero => exact ⟨[], rfl, fun i a h => by simp at h⟩
 | succ n ih =>
  obtain ⟨l, hl, hr⟩ := ih (fun i hi => h i (by omega))
  obtain ⟨a, ha⟩ := h n (by omega)
  refine ⟨l ++ [a], by simp [hl], fun i b hb => ?_⟩
  by_cases hi : i < n
  ·rw [List.getElem?_append_left (by omega)] at hb; exact hr i b hb
  ·have hin : i = n := by
    have := (List.getElem?_eq_some_iff.1 hb).1
    simp at this; omega
   subst hin
   rw [List.getElem?_append_right (by omega), hl] at hb
   simp at hb
   subst hb; exact ha
theorem cell_row {w : World} {a : Addr} {u : Value} (h : w.cell? a = some u) : a.spot = none ∧ ∃ c el fr, w.heap[a.block]? = some (.cells c el fr) ∧ c[a.off]? = some u := by
 refine ⟨World.cell?_spot h, ?_⟩
 unfold World.cell? at h
 split at h
 ·next c el fr hh =>
  split at h
  ·cases h
  ·exact ⟨c, el, fr, hh, h⟩
 ·cases h
theorem add_row (a : Addr) (n : Nat) : (a.add n).block = a.block ∧ (a.add n).off = a.off + n := by
 unfold Addr.add
 split
 ·next h => subst h; exact ⟨rfl, rfl⟩
 ·exact ⟨rfl, rfl⟩
theorem opR_list {t e : TypeId} {ty : Ty} {Q : ty.El → Prop} (ht : P.underlying t = some (.slice e)) (hz : P.cellsOf e = ty.size) (hp : 0 < ty.size) (h : OpR P e ty Q) :
    OpR P t (.list ty) (fun l => List.length (α := ty.El) l ≤ maxLen ∧ ∀ a ∈ (l : List ty.El), Q a) := by
 intro H enc w base spare held fuel cs x hx
 rcases Go.Deep.open_slice ht hx with ⟨rfl, _⟩ | ⟨a, len, cap, m, n, D, Pl, rfl, hb, hl, hm, hmm, _, hi⟩
 ·exact ⟨([] : List ty.El), ⟨none, 0, rfl, Nat.le_refl _, Or.inl rfl⟩, Nat.zero_le _, fun a ha => nomatch ha⟩
 ·have hlm : len ≤ m := by rw [hmm]; split <;> omega
  obtain ⟨l, hll, hr⟩ := list_of (fun i (a' : ty.El) => Q a' ∧ ∃ c, c.length = ty.size ∧ Rep X0 w ty a' c ∧ ∀ j u, c[j]? = some u → w.cell? (a.add (i * ty.size + j)) = some u) len (fun i hil => by
   obtain ⟨cs', hc, ht'⟩ := hi i (by omega)
   obtain ⟨_, hcl, hat⟩ := World.cells?_some hc
   obtain ⟨a', hk, hq⟩ := h enc w base spare held n cs' _ ht'
   refine ⟨a', hq, cs', hcl.trans hz, hk, fun j u hu => ?_⟩
   have hj : j < cs'.length := (List.getElem?_eq_some_iff.1 hu).1
   have := hat j (by omega)
   rw [hu, hz] at this
   rw [← Go.Deep.add_add]; exact this)
  refine ⟨l, ⟨some a, cap, ?_, ?_, ?_⟩, ?_, fun b hb' => ?_⟩
  ·show [Value.slice (some a) len cap] = [Value.slice (some a) (List.length l) cap]
   rw [hll]
  ·show List.length l ≤ cap
   omega
  ·cases l with
   | nil => exact Or.inl rfl
   | cons y l' =>
    right
    obtain ⟨_, c, hcl, _, hcc⟩ := hr 0 y rfl
    have h0 : c[0]? = some (c[0]'(by omega)) := List.getElem?_eq_getElem _
    obtain ⟨hsp, vals, el, fr, hh, _⟩ := cell_row (hcc 0 _ h0)
    have hsp' : a.spot = none := by
     rw [Nat.zero_mul] at hsp; exact hsp
    rw [(add_row a _).1] at hh
    refine ⟨a.block, a.off, ?_, ?_⟩
    ·cases a; subst hsp'; rfl
    ·refine ⟨fun hf => hf, vals, el, fr, hh, fun i z hz' => ?_⟩
     obtain ⟨_, c', _, hrep, hcc'⟩ := hr i z hz'
     refine ⟨c', hrep, fun j u hu => ?_⟩
     obtain ⟨hs2, vals', el', fr', hh', hv⟩ := cell_row (hcc' j u hu)
     obtain ⟨hb2, ho2⟩ := add_row a (i * ty.size + j)
     rw [hb2, hh] at hh'
     cases hh'
     rw [ho2] at hv
     rw [Nat.add_assoc]; exact hv
  ·show List.length l ≤ maxLen
   omega
  ·obtain ⟨i, hi', rfl⟩ := List.getElem_of_mem hb'
   exact (hr i _ (List.getElem?_eq_getElem hi')).1
end
end Go.AM
/- Functions of the library for which a contract is known. -/
set_option linter.unusedSimpArgs false
set_option linter.unusedVariables false
namespace Go.AM
open Go Go.RowKit
theorem Ans.below {X : Nat → Prop} {β : Nat → Value} {w w' : World} {r : V} {v : Value} (h : RepV β (YY X β []) w' r v) (hb : Below w.heap.size w w') : Ans X β w [] r [] v w' β := by
 refine ⟨h, fun k s hk => by simp [nth] at hk, fun j k s s' b hj => by simp [nth] at hj, fun b o hb' _ => ?_, ?_, hb.size, ⟨hb.os, hb.tape, hb.output⟩, fun k s hk => by simp [nth] at hk, fun k s hk => by simp [nth] at hk⟩
 ·rw [hb.block b (by obtain ⟨h, _⟩ := Array.getElem?_eq_some_iff.1 hb'; exact h)]; exact hb'
 ·rintro b ⟨k, s, hk, _⟩
  simp [nth] at hk
/-- A contract of the library, told as a model. -/
theorem FX.of_calls {P : Program} {cx : Cx} {rt : VT} (g : Nat) (vts : List VT1) (m : VT1s.El vts × SSs.El [] → Option (rt.El × SSs.El []))
    (henter : ∀ vs w, (callFunc g vs).run P w = .ok (.enter g vs) w)
    (h : ∀ (x : VT1s.El vts × SSs.El []) (y : rt.El × SSs.El []), m x = some y → ∀ (β : Nat → Value) (Y : Nat → Prop) w vs, RepVs β Y w (VT1s.enc vts x.1) vs → (∀ b, Y b → b < w.heap.size) →
     Calls P g vs.toArray w fun e w' => (∃ v, e = .returned v ∧ ∀ β Y, RepV β Y w' (rt.enc y.1) v) ∧ Below w.heap.size w w') : (⟨g, vts, [], m⟩ : FX rt []).Valid P cx := by
 rintro ⟨x, x2⟩ ⟨y, y2⟩ hr X β w vs hpre
 refine .inl ⟨henter _ _, (h _ _ hr β (YY X β []) w vs hpre.args ?_).mono ?_⟩
 ·rintro b (hb | ⟨k, s, hk, _⟩)
  ·exact hpre.outer b hb
  ·simp [SSs.enc, nth] at hk
 ·rintro e w' ⟨⟨v, rfl, hv⟩, hb⟩
  exact ⟨v, β, rfl, Ans.below (hv _ _) hb⟩
end Go.AM
/- strings.Join and strings.Repeat, as the library's contracts tell them. -/
set_option linter.unusedSimpArgs false
set_option linter.unusedVariables false
namespace Go.AM
open Go Go.RowKit Go.Proofs Go.Shelf
theorem cell_of_row {w : World} {b : Nat} {vals : Array Value} {el : TypeId} {fr : Nat × Nat} (h : w.heap[b]? = some (.cells vals el fr)) (o : Nat) : w.cell? ⟨b, o, none⟩ = vals[o]? := by
 unfold World.cell?; simp [h]
def joinM (xs : List (List UInt8)) (sep : List UInt8) : Option (List UInt8 × Unit) :=
 if xs.length ≤ 140737488355328 ∧ (Lib.join xs sep).length ≤ 140737488355328 then some (Lib.join xs sep, ()) else none
theorem join_valid {P : Program} {cx : Cx} {ρ : Ren} (L : Lays.n156 P ρ) (X : Builder.Extra P ρ) :
    (⟨ρ.f 156, [.one (.ty (.list .str)), .one (.ty .str)], [], fun x => joinM x.1.1 x.1.2.1⟩ : FX (.v (.one (.ty .str))) []).Valid P cx := by
 refine FX.of_calls _ _ _ (enters_of L.f156 (by kernel_rfl) rfl) ?_
 rintro ⟨⟨xs, sep, u⟩, u2⟩ ⟨y, y2⟩ hm β Y w vs hr hY
 have hm' : joinM xs sep = some (y, ()) := hm
 unfold joinM at hm'
 split at hm'
 case isFalse => cases hm'
 case isTrue hc =>
  simp only [Option.some.injEq, Prod.mk.injEq, and_true] at hm'
  match vs, hr with
  | [v1, v2], ⟨h1, h2, _⟩ =>
   have h2' : v2 = .string ⟨sep.toArray⟩ := h2
   subst h2'
   obtain ⟨a, cap, hv, hcap, hrow⟩ : Rep Y w (.list .str) xs [v1] := h1
   have hv' : v1 = .slice a xs.length cap := by simpa using hv
   subst hv'
   have fin : ∀ {e : Ending} {w' : World}, (e = .returned (.string ⟨(Lib.join xs sep).toArray⟩) ∧ Below w.heap.size w w') → (∃ v, e = .returned v ∧ ∀ β Y, RepV β Y w' (VT.enc (.v (.one (.ty .str))) y) v) ∧ Below w.heap.size w w' := by
    rintro e w' ⟨he, hb⟩
    refine ⟨⟨_, he, fun β Y => ?_⟩, hb⟩
    subst hm'; rfl
   have key := Any.strings_Join L X
   rcases hrow with h0 | ⟨b, off, rfl, hnb, vals, el, fr, hh, hc2⟩
   ·have h0' : xs = [] := h0
    subst h0'
    refine (Any.strings_Join_none L X a cap ⟨sep.toArray⟩ w).mono fun e w' ⟨he, hw⟩ => fin ⟨?_, hw ▸ Below.refl _ _⟩
    rw [he]; rfl
   ·have hmap : (xs.map fun s => (⟨s.toArray⟩ : ByteArray)).map (·.data.toList) = xs := by
     rw [List.map_map]; exact (List.map_congr_left (fun x _ => rfl)).trans (List.map_id _)
    have hlen : (xs.map fun s => (⟨s.toArray⟩ : ByteArray)).length = xs.length := List.length_map ..
    have := key b off cap (xs.map fun s => (⟨s.toArray⟩ : ByteArray)) ⟨sep.toArray⟩ w ?_ ?_ (by rw [hlen]; exact hc.1) (by rw [hlen]; exact hcap) (by rw [hmap]; exact hc.2)
    ·rw [hlen, hmap] at this
     exact this.mono fun e w' h => fin h
    ·intro j x hx
     rw [List.getElem?_map] at hx
     obtain ⟨s, hs, rfl⟩ := Option.map_eq_some_iff.1 hx
     obtain ⟨us, hu, hc3⟩ := hc2 j s hs
     have hu' : us = [.string ⟨s.toArray⟩] := hu
     subst hu'
     have := hc3 0 _ rfl
     rw [cell_of_row hh]
     simpa [Ty.size] using this
    ·exact (Array.getElem?_eq_some_iff.1 hh).1
def repeatM (s : List UInt8) (c : Int) : Option (List UInt8 × Unit) :=
 if 0 ≤ c ∧ c ≤ 9223372036854775807 ∧ s.length * c.toNat ≤ 140737488355328 then some (Lib.repeatL s c.toNat, ()) else none
theorem repeat_valid {P : Program} {cx : Cx} {ρ : Ren} (L : Lays.n105 P ρ) (X : Builder.Extra P ρ) :
    (⟨ρ.f 105, [.one (.ty .str), .one (.ty (.int .i64))], [], fun x => repeatM x.1.1 x.1.2.1⟩ : FX (.v (.one (.ty .str))) []).Valid P cx := by
 refine FX.of_calls _ _ _ (enters_of L.f105 (by kernel_rfl) rfl) ?_
 rintro ⟨⟨s, c, u⟩, u2⟩ ⟨y, y2⟩ hm β Y w vs hr hY
 have hm' : repeatM s c = some (y, ()) := hm
 unfold repeatM at hm'
 split at hm'
 case isFalse => cases hm'
 case isTrue hc =>
  simp only [Option.some.injEq, Prod.mk.injEq, and_true] at hm'
  match vs, hr with
  | [v1, v2], ⟨h1, h2, _⟩ =>
   have h1' : v1 = .string ⟨s.toArray⟩ := h1
   have h2' : v2 = .int .i64 c := h2
   subst h1'; subst h2'
   obtain ⟨n, rfl⟩ : ∃ n : Nat, c = n := ⟨c.toNat, (Int.toNat_of_nonneg hc.1).symm⟩
   have := Any.strings_Repeat L X ⟨s.toArray⟩ n w (by omega) (by have := hc.2.2; rw [Int.toNat_natCast] at this; exact this)
   refine this.mono fun e w' ⟨he, hb⟩ => ⟨⟨_, he, fun β Y => ?_⟩, hb⟩
   subst hm'; rfl
end Go.AM
/- strings.Index, as the library's contract tells it: it reads a variable of the library, of which only its kind is known. -/
set_option linter.unusedSimpArgs false
set_option linter.unusedVariables false
namespace Go.AM
open Go Go.RowKit Go.Proofs Go.Shelf
theorem cells_of_cell {w : World} {g : Nat} {v : Value} (h : w.cell? ⟨g, 0, none⟩ = some v) : ∃ vals el fr, w.heap[g]? = some (.cells vals el fr) ∧ vals[0]? = some v := by
 unfold World.cell? at h
 split at h
 ·rename_i vals el fr hh
  exact ⟨vals, el, fr, hh, by simpa using h⟩
 all_goals (first | (cases h; done) | (simp at h; done))
theorem glob_int {w : World} {g : Nat} {k : IntKind} {m : Int} (h : w.cell? ⟨g, 0, none⟩ = some (.int k m)) : Rep X0 w (.ptr (.int k)) m [.pointer (some ⟨g, 0, none⟩)] := by
 obtain ⟨vals, el, fr, h1, h2⟩ := cells_of_cell h
 refine ⟨g, rfl, fun hh => hh, vals, el, fr, h1, [.int k m], rfl, fun j u hj => ?_⟩
 cases j with
 | zero => simp at hj; subst hj; exact h2
 | succ j => simp at hj
def indexM (s sub : List UInt8) : Option (Int × Unit) := if s.length < 4294967281 then some (Lib.index s sub, ()) else none
theorem index_valid {P : Program} {cx : Cx} {ρ : Ren} (L : Lays.n143 P ρ) (hG : ∃ m : Int, cx.G (ρ.g 1) = some ⟨.int .i64, m⟩) :
    (⟨ρ.f 143, [.one (.ty .str), .one (.ty .str)], [], fun x => indexM x.1.1 x.1.2.1⟩ : FX (.v (.one (.ty (.int .i64)))) []).Valid P cx := by
 rintro ⟨⟨s, sub, u⟩, u2⟩ ⟨y, y2⟩ hm X β w vs hpre
 have hm' : indexM s sub = some (y, ()) := hm
 unfold indexM at hm'
 split at hm'
 case isFalse => cases hm'
 case isTrue hc =>
  simp only [Option.some.injEq, Prod.mk.injEq, and_true] at hm'
  subst hm'
  obtain ⟨m, hG⟩ := hG
  have hg := hpre.glob _ _ _ hG
  match vs, hpre.args with
  | [v1, v2], ⟨h1, h2, _⟩ =>
   have h1' : v1 = .string ⟨s.toArray⟩ := h1
   have h2' : v2 = .string ⟨sub.toArray⟩ := h2
   subst h1'; subst h2'
   have hcell : w.cell? ⟨ρ.g 1, 0, none⟩ = some (.int .i64 m) := by
    obtain ⟨b, hb, _, vals, el, fr, hh, us, hu, hcs⟩ := hg
    have hu' : us = [.int .i64 m] := hu
    subst hu'
    simp at hb
    subst hb
    unfold World.cell?
    rw [hh]
    simpa using hcs 0 _ rfl
   refine .inl ⟨enters_of L.f143 (by kernel_rfl) rfl _ _, (Any.strings_Index L ⟨s.toArray⟩ ⟨sub.toArray⟩ m w (by simpa [str_size] using hc) hcell).mono ?_⟩
   rintro e w' ⟨rfl, rfl⟩
   exact ⟨_, β, rfl, Ans.here rfl⟩
theorem globOne {w : World} {G1 : Nat} {m : Int} (h : w.cell? ⟨G1, 0, none⟩ = some (.int .i64 m)) : ∀ (g : Nat) (t : Ty) (x : t.El), (bif Nat.beq g G1 then some (⟨.int .i64, m⟩ : Sigma Ty.El) else none) = some ⟨t, x⟩ → Rep X0 w (.ptr t) x [.pointer (some ⟨g, 0, none⟩)] := by
 intro g t x hh
 cases hb : Nat.beq g G1 with
 | false => rw [hb] at hh; cases hh
 | true =>
  rw [hb] at hh
  have := (beq_iff _ _).1 hb
  subst this
  simp only [cond_true, Option.some.injEq, Sigma.mk.injEq] at hh
  obtain ⟨rfl, hh⟩ := hh
  have hh := eq_of_heq hh
  subst hh
  exact glob_int h
end Go.AM
/- The row's wrap, the world's shape kept: what the row lists ('X') and the shape are both handed on. -/
set_option linter.unusedVariables false
namespace Go.AM
open Go
variable {H : Type} {enc : TypeId × Value → H}
theorem returnsShaped {a : Assume} {C : Checked} {os : Os} {f : FuncId} {fn : Func} {s : ChangeSpec} {conds : List PathCond} {apart fresh handsOn again : Bool} {X : World → Array Value → Prop}
    (hX : ∀ (w w' : World) (args : Array Value), w.heap = w'.heap → X w args → X w' args)
    (own : ownKnob C.prog.godebug = none) (started : os.Started) (noInit : C.prog.inits.idxOf? f = none) (hfn : C.prog.funcs[f]? = some fn)
    (witness : ∃ (w : World) (tape : Tape) (i : Input), w.os = os ∧ (w.forCall tape i).Shaped C.prog ∧ i.vars = [] ∧ Input.okWide C.prog (w.forCall tape i) .any w.heap.size f i ∧
     ((s.pre enc C.prog fn conds apart (w.forCall tape i).memory i.args ∧ X (w.forCall tape i).memory i.args) ∧ sizedMet enc C.prog fn (OpenSpec.ofChange s) apart (w.forCall tape i).memory i.args) ∧ a.holds C.prog (lone (Frame.enter C.prog f i.args .normal) [] (w.forCall tape i)))
    (contract : ∀ (W : World) (base : Nat) (args : Array Value) (ds gs : List (DataW H)) (before : List MemPlace),
     (∀ (j : Nat) t v, fn.params[j]? = some t → args[j]? = some v → Value.okWide C.prog W .any base t v) →
     DataW.Whole enc C.prog fn.params.toList s.vars apart W args.toList ds gs before →
     conds.all (PathCond.test C.prog ⟨fn.params.toList, ds, s.plain.varTypes C.prog, gs⟩) = true →
     (DataW.weightsEach C.prog (fn.params.toList ++ s.plain.varTypes C.prog) (ds ++ gs)).all (· ≤ reachBytes) = true → X W args → W.ShapedOpen C.prog →
     Calls C.prog f args W fun e W' => ∃ v, e = .returned v ∧ s.post enc C.prog fn apart fresh handsOn again W args v W') :
    ReturnsInHanded a C os f .any (fun w args => (s.pre enc C.prog fn conds apart w args ∧ X w args) ∧ sizedMet enc C.prog fn (OpenSpec.ofChange s) apart w args) (s.post enc C.prog fn apart fresh handsOn again) := by
 refine returnsInHanded_of_calls own started noInit witness ?_
 intro w tape i _ hsh _ hok hpre hholds
 obtain ⟨_, _, _, fn', hfn', _, _, _, _, hval⟩ := hok
 have e : fn' = fn := Option.some.inj (hfn'.symm.trans hfn)
 subst e
 obtain ⟨⟨⟨ds, gs, before, hw, hc⟩, hx⟩, hz⟩ := hpre
 have hw' := DataW.Whole.of_heap (w' := w.forCall tape i) (by rfl) hw
 refine (contract (w.forCall tape i) w.heap.size i.args ds gs before hval hw' hc (hz.weights hw) (hX _ _ _ (by rfl) hx) hsh).mono fun e W' ⟨v, he, hp⟩ => ?_
 subst he
 exact ChangeSpec.post_blind hp
end Go.AM
