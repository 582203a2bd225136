/-
  What reads as data of a type holds a value of its kind (structs, structs in structs, slices of these): for the rows of laws whose arguments are structs or slices of structs. No program is in sight.
-/
import Derived.ChangeArms
import Derived.DataReads
import Derived.WideShapes
import Derived.Deep.Slices
import Derived.RowKit
import Derived.Test.YtpgnbcemdkgjgaaWWords
namespace Go.Proofs.YtpgnbcemdkgjgaaFr
open Go Go.RowKit Go.Proofs.YtpgnbcemdkgjgaaW.PrintWords
section
variable {P : Program}
/-- Whatever reads at type t is of the kind d, with Q. -/
def Opens (P : Program) (t : TypeId) {α : Type} (d : Kd α) (Q : α → Prop) : Prop :=
  ∀ {H : Type} (enc : TypeId × Value → H) (w : World) (base : Nat) (spare : Nat → Bool) (held : Bool) (fuel : Nat) (cs : List Value) (x : DataW H × List MemPlace),
    DataW.trod enc P w base spare held fuel t cs = some x → ∃ a : α, d.K w a cs ∧ Q a
theorem opens_int {t : TypeId} {k : IntKind} (ht : P.underlying t = some (.int k)) : Opens P t (Kd.int k) (fun n => (Lit.int k n).wf = true) := by
  intro H enc w base spare held fuel cs x h
  obtain ⟨n, rfl, _, hw⟩ := DataW.trod_int ht h
  exact ⟨n, rfl, hw⟩
theorem opens_bool {t : TypeId} (ht : P.underlying t = some .bool) : Opens P t Kd.bool (fun _ => True) := by
  intro H enc w base spare held fuel cs x h
  obtain ⟨n, rfl, _⟩ := DataW.trod_bool ht h
  exact ⟨n, rfl, trivial⟩
theorem opens_string {t : TypeId} (ht : P.underlying t = some .string) : Opens P t Kd.string (fun s => s.size ≤ maxLen) := by
  intro H enc w base spare held fuel cs x h
  obtain ⟨s, rfl, _, hs⟩ := DataW.trod_string ht h
  exact ⟨s, rfl, hs⟩
/-- The fields fs, from offset o on, are of the kind d in line. -/
def OpensAt (P : Program) (fs : List Field) (o total : Nat) {α : Type} (d : Kd α) (Q : α → Prop) : Prop :=
  ∀ {H : Type} (enc : TypeId × Value → H) (w : World) (base : Nat) (spare : Nat → Bool) (held : Bool) (n : Nat) (cs : List Value), cs.length = total →
    (∀ f ∈ fs, ∃ x, DataW.trod enc P w base spare held n f.type ((cs.drop f.offset).take (P.cellsOf f.type)) = some x) → ∃ a : α, d.K w a (cs.drop o) ∧ Q a
theorem opens_last {f : Field} {o total : Nat} {α : Type} {d : Kd α} {Q : α → Prop} (h : Opens P f.type d Q) (ho : f.offset = o) (ht : o + P.cellsOf f.type = total) : OpensAt P [f] o total d Q := by
  intro H enc w base spare held n cs hl hf
  obtain ⟨x, hx⟩ := hf f (by simp)
  rw [ho, List.take_of_length_le (by rw [List.length_drop]; omega)] at hx
  exact h enc w base spare held n _ x hx
theorem opens_cons {f : Field} {fs : List Field} {o total : Nat} {α β : Type} {d : Kd α} {d' : Kd β} {Q : α → Prop} {Q' : β → Prop} (h : Opens P f.type d Q) (ho : f.offset = o)
    (hr : OpensAt P fs (o + P.cellsOf f.type) total d' Q') : OpensAt P (f :: fs) o total (Kd.pair d d') (fun a => Q a.1 ∧ Q' a.2) := by
  intro H enc w base spare held n cs hl hf
  obtain ⟨x, hx⟩ := hf f (by simp)
  obtain ⟨a, ha, qa⟩ := h enc w base spare held n _ x hx
  obtain ⟨b, hb, qb⟩ := hr enc w base spare held n cs hl (fun g hg => hf g (by simp [hg]))
  refine ⟨(a, b), ⟨_, _, ?_, ha, hb⟩, qa, qb⟩
  rw [ho, ← List.drop_drop, List.take_append_drop]
theorem opens_struct {t : TypeId} {fs : Array Field} {α β : Type} {d : Kd α} {Q : α → Prop} (total : Nat) (ht : P.underlying t = some (.struct fs)) (hc : P.cellsOf t = total)
    (h : OpensAt P fs.toList 0 total d Q) (proj : β → α) (mk : α → β) (hm : ∀ a, proj (mk a) = a) : Opens P t (Kd.iso d proj) (fun b => Q (proj b)) := by
  intro H enc w base spare held fuel cs x hx
  obtain ⟨xs, n, _, _, hl, hlen, hf⟩ := DataW.trod_struct ht hx
  obtain ⟨a, ha, qa⟩ := h enc w base spare held n cs (hl.trans hc) (fun f hfm => by
    obtain ⟨i, hi, rfl⟩ := List.getElem_of_mem hfm
    have hi' : i < fs.size := by simpa using hi
    have e : fs[i]? = some fs.toList[i] := by rw [Array.getElem?_eq_getElem hi']; simp
    have := hf i _ e
    rw [List.getElem?_eq_getElem (by omega)] at this
    exact ⟨_, this⟩)
  rw [List.drop_zero] at ha
  refine ⟨mk a, ?_, by show Q (proj (mk a)); rw [hm]; exact qa⟩
  show d.K w (proj (mk a)) cs
  rw [hm]; exact ha
theorem opens_flat {t : TypeId} {fs : Array Field} {α : Type} {d : Kd α} {Q : α → Prop} (total : Nat) (ht : P.underlying t = some (.struct fs)) (hc : P.cellsOf t = total)
    (h : OpensAt P fs.toList 0 total d Q) : Opens P t d Q := by
  intro H enc w base spare held fuel cs x hx
  obtain ⟨a, ha, qa⟩ := opens_struct total ht hc h id id (fun _ => rfl) enc w base spare held fuel cs x hx
  exact ⟨a, ha, qa⟩
theorem list_of {α : Type} (R : Nat → α → Prop) (n : Nat) (h : ∀ i, i < n → ∃ a, R i a) : ∃ l : List α, l.length = n ∧ ∀ i a, l[i]? = some a → R i a := by
  induction n with
  | zero => exact ⟨[], rfl, fun i a h => by simp at h⟩
  | succ n ih =>
    obtain ⟨l, hl, hr⟩ := ih (fun i hi => h i (by omega))
    obtain ⟨a, ha⟩ := h n (by omega)
    refine ⟨l ++ [a], by simp [hl], fun i b hb => ?_⟩
    by_cases hi : i < n
    · rw [List.getElem?_append_left (by omega)] at hb; exact hr i b hb
    · have hin : i = n := by
        have := (List.getElem?_eq_some_iff.1 hb).1
        simp at this; omega
      subst hin
      rw [List.getElem?_append_right (by omega), hl] at hb
      simp at hb
      subst hb; exact ha
theorem opens_slice {t e : TypeId} {α : Type} {d : Kd α} {Q : α → Prop} (ht : P.underlying t = some (.slice e)) (hz : P.cellsOf e = d.sz) (h : Opens P e d Q) : Opens P t (Kd.slice e d) (fun l => l.length ≤ maxLen ∧ ∀ a ∈ l, Q a) := by
  intro H enc w base spare held fuel cs x hx
  rcases Go.Deep.open_slice ht hx with ⟨rfl, _⟩ | ⟨a, len, cap, m, n, D, Pl, rfl, hb, hl, hm, hmm, _, hi⟩
  · exact ⟨[], ⟨none, 0, rfl, Nat.le_refl _, rfl, by simp, fun h => by simp at h⟩, by simp, fun a ha => by simp at ha⟩
  · have hlm : len ≤ m := by rw [hmm]; split <;> omega
    obtain ⟨l, hll, hr⟩ := list_of (fun i a' => Q a' ∧ ∃ c, c.length = d.sz ∧ d.K w a' c ∧ ∀ j u, c[j]? = some u → w.cell? (a.add (i * d.sz + j)) = some u) len (fun i hil => by
      obtain ⟨cs', hc, ht'⟩ := hi i (by omega)
      obtain ⟨_, hcl, hat⟩ := World.cells?_some hc
      obtain ⟨a', hk, hq⟩ := h enc w base spare held n cs' _ ht'
      refine ⟨a', hq, cs', hcl.trans hz, hk, fun j u hu => ?_⟩
      have hj : j < cs'.length := (List.getElem?_eq_some_iff.1 hu).1
      have := hat j (by omega)
      rw [hu, hz] at this
      rw [← Go.Deep.add_add]; exact this)
    have hcap : len ≤ 9223372036854775807 := by unfold maxLen at hm; omega
    refine ⟨l, ⟨some a, cap, by rw [hll], by omega, ?_⟩, by omega, fun b hb' => ?_⟩
    · rw [hll]
      exact ⟨hll, hcap, fun _ => ⟨a, rfl, fun j p hp => (hr j p hp).2⟩⟩
    · obtain ⟨i, hi', rfl⟩ := List.getElem_of_mem hb'
      exact (hr i _ (List.getElem?_eq_getElem hi')).1
end
end Go.Proofs.YtpgnbcemdkgjgaaFr
