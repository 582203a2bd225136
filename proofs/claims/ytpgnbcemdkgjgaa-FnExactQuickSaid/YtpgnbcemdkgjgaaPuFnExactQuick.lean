/- The plain law: the model of the law answers true. -/
import Derived.Test.YtpgnbcemdkgjgaaMoFnExactQuick
set_option linter.unusedVariables false
set_option linter.unusedSimpArgs false
namespace Go.AM
open Go
theorem loopC_inv {S α : Type} (F : S → (S → Option α) → Option α) (I : Nat → S → Prop) (g : S → Option α)
    (h : ∀ n s k, I n s → (∀ m s', m < n → I m s' → k s' = g s') → F s k = g s) : ∀ fuel n s, I n s → n < fuel → loopC fuel F s = g s := by
  intro fuel
  induction fuel with
  | zero => intro n s _ h0; omega
  | succ f ih => intro n s hI hn; exact h n s _ hI (fun m s' hm hI' => ih m s' hI' (by omega))
theorem wr (x : Int) (h : -9223372036854775808 ≤ x ∧ x ≤ 9223372036854775807) : IntKind.wrap .i64 x = x := by
  simp [IntKind.wrap, IntKind.signed, IntKind.bits]; omega
/-- A loop ends in some result with Q. -/
theorem loopC_some' {S α : Type} (F : S → (S → Option α) → Option α) (I : Nat → S → Prop) (Q : α → Prop)
    (h : ∀ n s k, I n s → (∀ m s', m < n → I m s' → ∃ r, k s' = some r ∧ Q r) → ∃ r, F s k = some r ∧ Q r) : ∀ fuel n s, I n s → n < fuel → ∃ r, loopC fuel F s = some r ∧ Q r := by
  intro fuel
  induction fuel with
  | zero => intro n s _ h0; omega
  | succ f ih => intro n s hI hn; exact h n s _ hI (fun m s' hm hI' => ih m s' hI' (by omega))
theorem bind_some' {α β : Type} {o : Option α} {f : α → Option β} {Q : α → Prop} {R : β → Prop} (h : ∃ r, o = some r ∧ Q r) (h2 : ∀ r, Q r → ∃ t, f r = some t ∧ R t) : ∃ t, Option.bind o f = some t ∧ R t := by
  obtain ⟨r, rfl, hq⟩ := h
  exact h2 r hq
theorem bind_eq {α β : Type} {o : Option α} {f : α → Option β} {x : α} {r : Option β} (h : o = some x) (h2 : f x = r) : Option.bind o f = r := by rw [h]; exact h2
theorem bind_of {α β : Type} {o x : Option α} {f : α → Option β} {r : Option β} (h : o = x) (h2 : Option.bind x f = r) : Option.bind o f = r := by rw [h]; exact h2
theorem bind_ex {α β : Type} {o : Option α} {f : α → Option β} {Q : α → Prop} {r : Option β} (h : ∃ x, o = some x ∧ Q x) (h2 : ∀ x, Q x → f x = r) : Option.bind o f = r := by obtain ⟨x, rfl, hq⟩ := h; exact h2 x hq
theorem joinC_of {S α : Type} {o x : Option (S ⊕ α)} {k : S → Option α} {r : Option α} (h : o = x) (h2 : joinC x k = r) : joinC o k = r := by rw [h]; exact h2
theorem joinC_ex {S α : Type} {o : Option (S ⊕ α)} {k : S → Option α} {Q : S ⊕ α → Prop} {r : Option α} (h : ∃ x, o = some x ∧ Q x) (h2 : ∀ x, Q x → joinC (some x) k = r) : joinC o k = r := by obtain ⟨x, rfl, hq⟩ := h; exact h2 x hq
theorem wr1 (i : Nat) (h : i ≤ 4611686018427387904) : IntKind.wrap .i64 ((i : Int) + 1) = ((i + 1 : Nat) : Int) := by rw [wr _ (by omega)]; rfl
theorem joinC_inl' {S α : Type} {o : Option (S ⊕ α)} {k : S → Option α} {s : S} (h : o = some (.inl s)) : joinC o k = k s := by rw [h]; rfl
theorem joinC_inr' {S α : Type} {o : Option (S ⊕ α)} {k : S → Option α} {a : α} (h : o = some (.inr a)) : joinC o k = some a := by rw [h]; rfl
end Go.AM
set_option linter.unusedVariables false
set_option linter.unusedSimpArgs false
namespace Go.AM
open Go
theorem cond_some {α : Type} {c : Bool} {x y : Option α} (hx : ∃ r, x = some r) (hy : ∃ r, y = some r) : ∃ r, (cond c x y) = some r := by cases c; exact hy; exact hx
theorem szNode_some (x) (n : Int) : ∃ r, m_laws_szNode x n = some r := by
  unfold m_laws_szNode
  exact cond_some ⟨_, rfl⟩ (cond_some ⟨_, rfl⟩ (cond_some ⟨_, rfl⟩ ⟨_, rfl⟩))
theorem szOpts_some (x) (n : Int) : ∃ r, m_laws_szOpts x n = some r := by
  unfold m_laws_szOpts
  exact cond_some ⟨_, rfl⟩ (cond_some ⟨_, rfl⟩ ⟨_, rfl⟩)
theorem quick_some (a b o) : ∃ r, m_spec_Quick a b o = some r := by
  unfold m_spec_Quick
  cases a.2.1 != 1 with
  | true => exact ⟨_, rfl⟩
  | false =>
    cases b.2.1 != 1 with
    | true => exact ⟨_, rfl⟩
    | false =>
      simp only [cond_false, Option.bind_some]
      exact cond_some ⟨_, rfl⟩ (cond_some ⟨_, rfl⟩ (cond_some ⟨_, rfl⟩ ⟨_, rfl⟩))
theorem law_Quick (a b o) : m_laws_FnExactQuick a b o = some (true, ()) := by
  unfold m_laws_FnExactQuick
  obtain ⟨m1, e1⟩ := szNode_some a 1048576
  refine bind_eq e1 ?_
  cases decide (m1.fst < (0 : Int)) with
  | true => rfl
  | false =>
    rw [cond_false]
    obtain ⟨m2, e2⟩ := szNode_some b m1.1
    refine bind_eq e2 ?_
    cases decide (m2.fst < (0 : Int)) with
    | true => rfl
    | false =>
      rw [cond_false]
      obtain ⟨m3, e3⟩ := szOpts_some o m2.1
      refine bind_eq e3 ?_
      cases decide (m3.fst < (0 : Int)) with
      | true => rfl
      | false =>
        rw [cond_false]
        obtain ⟨r, hr⟩ := quick_some a b o
        have hi : m_impl_Quick a b o = some r := hr
        show Option.bind (m_spec_Quick a b o) _ = _
        rw [hr, Option.bind_some]
        show Option.bind (m_impl_Quick a b o) _ = _
        rw [hi, Option.bind_some]
        simp
end Go.AM
