/- The plain law: the model of the law answers true. -/
import Derived.Test.YtkbaoeklchdioaaDoorMoFnExactBackupPath
set_option linter.unusedVariables false
set_option linter.unusedSimpArgs false
namespace Go.AM
open Go
theorem loopC_inv {S α : Type} (F : S → (S → Option α) → Option α) (I : Nat → S → Prop) (g : S → Option α)
    (h : ∀ n s k, I n s → (∀ m s', m < n → I m s' → k s' = g s') → F s k = g s) : ∀ fuel n s, I n s → n < fuel → loopC fuel F s = g s := by
  intro fuel
  induction fuel with
  | zero => intro n s _ h0; omega
  | succ f ih => intro n s hI hn; exact h n s _ hI (fun m s' hm hI' => ih m s' hI' (by omega))
theorem wr (x : Int) (h : -9223372036854775808 ≤ x ∧ x ≤ 9223372036854775807) : IntKind.wrap .i64 x = x := by
  simp [IntKind.wrap, IntKind.signed, IntKind.bits]; omega
/-- A loop ends in some result with Q. -/
theorem loopC_some' {S α : Type} (F : S → (S → Option α) → Option α) (I : Nat → S → Prop) (Q : α → Prop)
    (h : ∀ n s k, I n s → (∀ m s', m < n → I m s' → ∃ r, k s' = some r ∧ Q r) → ∃ r, F s k = some r ∧ Q r) : ∀ fuel n s, I n s → n < fuel → ∃ r, loopC fuel F s = some r ∧ Q r := by
  intro fuel
  induction fuel with
  | zero => intro n s _ h0; omega
  | succ f ih => intro n s hI hn; exact h n s _ hI (fun m s' hm hI' => ih m s' hI' (by omega))
theorem bind_some' {α β : Type} {o : Option α} {f : α → Option β} {Q : α → Prop} {R : β → Prop} (h : ∃ r, o = some r ∧ Q r) (h2 : ∀ r, Q r → ∃ t, f r = some t ∧ R t) : ∃ t, Option.bind o f = some t ∧ R t := by
  obtain ⟨r, rfl, hq⟩ := h
  exact h2 r hq
theorem bind_eq {α β : Type} {o : Option α} {f : α → Option β} {x : α} {r : Option β} (h : o = some x) (h2 : f x = r) : Option.bind o f = r := by rw [h]; exact h2
theorem bind_of {α β : Type} {o x : Option α} {f : α → Option β} {r : Option β} (h : o = x) (h2 : Option.bind x f = r) : Option.bind o f = r := by rw [h]; exact h2
theorem bind_ex {α β : Type} {o : Option α} {f : α → Option β} {Q : α → Prop} {r : Option β} (h : ∃ x, o = some x ∧ Q x) (h2 : ∀ x, Q x → f x = r) : Option.bind o f = r := by obtain ⟨x, rfl, hq⟩ := h; exact h2 x hq
theorem joinC_of {S α : Type} {o x : Option (S ⊕ α)} {k : S → Option α} {r : Option α} (h : o = x) (h2 : joinC x k = r) : joinC o k = r := by rw [h]; exact h2
theorem joinC_ex {S α : Type} {o : Option (S ⊕ α)} {k : S → Option α} {Q : S ⊕ α → Prop} {r : Option α} (h : ∃ x, o = some x ∧ Q x) (h2 : ∀ x, Q x → joinC (some x) k = r) : joinC o k = r := by obtain ⟨x, rfl, hq⟩ := h; exact h2 x hq
theorem wr1 (i : Nat) (h : i ≤ 4611686018427387904) : IntKind.wrap .i64 ((i : Int) + 1) = ((i + 1 : Nat) : Int) := by rw [wr _ (by omega)]; rfl
theorem joinC_inl' {S α : Type} {o : Option (S ⊕ α)} {k : S → Option α} {s : S} (h : o = some (.inl s)) : joinC o k = k s := by rw [h]; rfl
theorem joinC_inr' {S α : Type} {o : Option (S ⊕ α)} {k : S → Option α} {a : α} (h : o = some (.inr a)) : joinC o k = some a := by rw [h]; rfl
end Go.AM
set_option linter.unusedVariables false
set_option linter.unusedSimpArgs false
namespace Go.AM
open Go
/-! ### names and paths -/
def okCh (c : Int) : Bool := (decide (c ≥ 97) && decide (c ≤ 122)) || ((decide (c ≥ 65) && decide (c ≤ 90)) || ((decide (c ≥ 48) && decide (c ≤ 57)) || (c == 46 || (c == 95 || c == 45))))
def okB (b : UInt8) : Bool := okCh (b.toNat : Int)
def nameOk (s : List UInt8) : Bool := (decide (1 ≤ s.length) && decide (s.length ≤ 20)) && (!(s == [46]) && (!(s == [46, 46]) && s.all okB))
theorem in_eq (x a b : Int) : m_spec_l01In x a b = some (decide (x ≥ a) && decide (x ≤ b), ()) := by
  unfold m_spec_l01In; cases decide (x ≥ a) <;> rfl
theorem within_eq (x a b : Int) : m_impl_within x a b = some (decide (x ≥ a) && decide (x ≤ b), ()) := by
  unfold m_impl_within; cases decide (x ≥ a) <;> rfl
theorem all_drop {α : Type} (p : α → Bool) (d : α) {s : List α} {i : Nat} (h : i < s.length) : (s.drop i).all p = (p (s.getD i d) && (s.drop (i + 1)).all p) := by
  rw [List.drop_eq_getElem_cons h, List.all_cons, List.getD_eq_getElem?_getD, List.getElem?_eq_getElem h]; rfl
theorem len_ge (s : List UInt8) : decide ((s.length : Int) ≥ 1) = decide (1 ≤ s.length) := decide_eq_decide.2 (by omega)
theorem len_le (s : List UInt8) : decide ((s.length : Int) ≤ 20) = decide (s.length ≤ 20) := decide_eq_decide.2 (by omega)
theorem spec_nameOk (s : List UInt8) (hs : s.length ≤ 1099511627776) : m_spec_NameOk s = some (nameOk s, ()) := by
  unfold m_spec_NameOk
  rw [in_eq, Option.bind_some, len_ge, len_le]
  unfold nameOk
  cases h1 : (decide (1 ≤ s.length) && decide (s.length ≤ 20)) with
  | false => rfl
  | true =>
    simp only [Bool.not_true, cond_false, Bool.true_and]
    cases h2 : (s == [46]) with
    | true => rfl
    | false =>
      simp only [cond_false, Bool.not_false, Bool.true_and]
      cases h3 : (s == [46, 46]) with
      | true => rfl
      | false =>
        simp only [Option.bind_some, cond_false, Bool.not_false, Bool.true_and]
        refine joinC_of (loopC_inv _ (fun n t => ∃ i : Nat, t = ((s, (i : Int), ()), ()) ∧ i ≤ s.length ∧ n = s.length - i)
          (fun t => some (if (s.drop t.1.2.1.toNat).all okB then .inl ((), ()) else .inr (false, ()))) ?_ _ s.length _ ⟨0, rfl, by omega, rfl⟩ (by omega)) ?_
        rotate_left
        · show joinC (some (if (s.drop 0).all okB = true then _ else _)) _ = _
          rw [List.drop_zero]
          cases s.all okB <;> rfl
        · rintro n t k ⟨i, rfl, hi, rfl⟩ hk
          dsimp only
          by_cases hl : i < s.length
          · have hx : 0 ≤ (i : Int) ∧ (i : Int) < (s.length : Int) := by omega
            rw [decide_eq_true (by omega), cond_true, if_pos hx]
            refine bind_eq (x := ((s, (i : Int), !okB (s.getD i 0), ()), ())) ?_ ?_
            · simp only [in_eq, Option.bind_some, if_pos hx, bne, okB, okCh, Int.toNat_natCast]
              have hb : (s.getD i 0).toNat < 256 := UInt8.toNat_lt _
              rw [wr _ (by omega)]
              generalize ((s.getD i 0).toNat : Int) = c
              cases decide (c ≥ 97) <;> cases decide (c ≤ 122) <;> cases decide (c ≥ 65) <;> cases decide (c ≤ 90) <;> cases decide (c ≥ 48) <;> cases decide (c ≤ 57) <;> cases c == 46 <;> cases c == 95 <;> cases c == 45 <;> rfl
            · dsimp only
              rw [Int.toNat_natCast, all_drop okB 0 hl]
              cases okB (s.getD i 0) with
              | false => rfl
              | true =>
                show k _ = _
                rw [wr1 i (by omega)]
                exact hk (s.length - (i + 1)) _ (by omega) ⟨i + 1, rfl, by omega, rfl⟩
          · rw [decide_eq_false (by omega), cond_false, Int.toNat_natCast, List.drop_eq_nil_of_le (by omega)]
            rfl
theorem impl_nameOk (s : List UInt8) (hs : s.length ≤ 1099511627776) : m_impl_NameOk s = some (nameOk s, ()) := by
  unfold m_impl_NameOk
  refine joinC_of (loopC_inv _ (fun n t => ∃ i : Nat, t = ((s, (s.length : Int), (i : Int), ()), ()) ∧ i ≤ s.length ∧ n = s.length - i)
          (fun t => some (if (s.drop t.1.2.2.1.toNat).all okB then .inl ((s, ()), ()) else .inr (false, ()))) ?_ _ s.length _ ⟨0, rfl, by omega, rfl⟩ (by omega)) ?_
  rotate_left
  · show joinC (some (if (s.drop 0).all okB = true then _ else _)) _ = _
    rw [List.drop_zero]
    unfold nameOk
    cases s.all okB with
    | false => simp only [Bool.and_false]; rfl
    | true =>
      show Option.bind (Option.bind (m_impl_within _ _ _) _) _ = _
      rw [within_eq, Option.bind_some, len_ge, len_le]
      dsimp only
      cases (decide (1 ≤ s.length) && decide (s.length ≤ 20)) <;> cases s == [46] <;> cases s == [46, 46] <;> rfl
  · rintro n t k ⟨i, rfl, hi, rfl⟩ hk
    dsimp only
    by_cases hl : i < s.length
    · have hx : 0 ≤ (i : Int) ∧ (i : Int) < (s.length : Int) := by omega
      rw [decide_eq_true (by omega), cond_true, if_pos hx]
      refine bind_eq (x := ((s, (s.length : Int), (i : Int), !okB (s.getD i 0), ()), ())) ?_ ?_
      · simp only [okB, okCh, Int.toNat_natCast]
        cases decide ((((s.getD i 0).toNat : Nat) : Int) ≥ 97) <;> cases decide ((((s.getD i 0).toNat : Nat) : Int) ≤ 122) <;> cases decide ((((s.getD i 0).toNat : Nat) : Int) ≥ 65) <;> cases decide ((((s.getD i 0).toNat : Nat) : Int) ≤ 90) <;> cases decide ((((s.getD i 0).toNat : Nat) : Int) ≥ 48) <;> cases decide ((((s.getD i 0).toNat : Nat) : Int) ≤ 57) <;> cases (((s.getD i 0).toNat : Nat) : Int) == 46 <;> cases (((s.getD i 0).toNat : Nat) : Int) == 95 <;> cases (((s.getD i 0).toNat : Nat) : Int) == 45 <;> rfl
      · dsimp only
        rw [Int.toNat_natCast, all_drop okB 0 hl]
        cases okB (s.getD i 0) with
        | false => rfl
        | true =>
          show k _ = _
          rw [wr1 i (by omega)]
          exact hk (s.length - (i + 1)) _ (by omega) ⟨i + 1, rfl, by omega, rfl⟩
    · rw [decide_eq_false (by omega), cond_false, Int.toNat_natCast, List.drop_eq_nil_of_le (by omega)]
      rfl
/-- What stands between the slashes. -/
def split : List UInt8 → List (List UInt8)
  | [] => [[]]
  | c :: r => if c = 47 then [] :: split r else match split r with
    | [] => [[c]]
    | h :: t => (c :: h) :: t
def prep (x : List UInt8) : List (List UInt8) → List (List UInt8)
  | [] => [x]
  | h :: t => (x ++ h) :: t
theorem split_ne (s : List UInt8) : split s ≠ [] := by
  cases s with
  | nil => simp [split]
  | cons c r => unfold split; split; simp; split <;> simp
theorem split_slash {c : UInt8} {r : List UInt8} (h : c = 47) : split (c :: r) = [] :: split r := by rw [split, if_pos h]
theorem split_other {c : UInt8} {r : List UInt8} (h : c ≠ 47) : split (c :: r) = prep [c] (split r) := by
  rw [split, if_neg h]; unfold prep; rcases split r with _ | ⟨h, t⟩ <;> rfl
theorem prep_prep (x y : List UInt8) (l : List (List UInt8)) (h : l ≠ []) : prep x (prep y l) = prep (x ++ y) l := by
  cases l with
  | nil => exact absurd rfl h
  | cons a t => simp [prep]
theorem split_len : ∀ s : List UInt8, (split s).length ≤ s.length + 1
  | [] => by simp [split]
  | c :: r => by
    have := split_len r
    by_cases h : c = 47
    · rw [split_slash h]; simp; omega
    · rw [split_other h]; unfold prep; split <;> simp_all; omega
theorem getD_cons {s : List UInt8} {i : Nat} (h : i < s.length) : s.drop i = s.getD i 0 :: s.drop (i + 1) := by
  rw [List.drop_eq_getElem_cons h, List.getD_eq_getElem?_getD, List.getElem?_eq_getElem h]; rfl
theorem take_snoc {s : List UInt8} {i f : Nat} (h : i < s.length) (hf : f ≤ i) : (s.take (i + 1)).drop f = (s.take i).drop f ++ [s.getD i 0] := by
  rw [List.take_add_one, List.drop_append_of_le_length (by simp; omega), List.getD_eq_getElem?_getD, List.getElem?_eq_getElem h]; rfl
theorem spec_names (s : List UInt8) (hs : s.length ≤ 8796093022206) : m_spec_l02Names s = some (split s, ()) := by
  unfold m_spec_l02Names
  refine bind_ex (loopC_some' _ (fun n t => ∃ (f i : Nat) (o : List (List UInt8)), t = ((s, (), (f : Int), (i : Int), ()), o, ()) ∧ f ≤ i ∧ i ≤ s.length ∧ o.length ≤ i ∧ o ++ prep ((s.take i).drop f) (split (s.drop i)) = split s ∧ n = s.length - i)
    (fun r => ∃ (f : Nat) (o : List (List UInt8)), r = ((s, (), (f : Int), ()), o, ()) ∧ f ≤ s.length ∧ o.length ≤ s.length ∧ o ++ [s.drop f] = split s) ?_ _ s.length _ ⟨0, 0, [], rfl, by omega, by omega, by simp, ?_, rfl⟩ (by omega)) ?_
  rotate_left 2
  · rintro r ⟨f, o, rfl, h1, h2, h3⟩
    dsimp only
    rw [if_pos (by omega), if_pos (by simp only [List.length_cons, List.length_nil]; omega)]
    rw [Int.toNat_natCast, Int.toNat_natCast, List.take_length, h3]
  · rintro n t k ⟨f, i, o, rfl, hf, hi, ho, he, rfl⟩ hk
    dsimp only
    by_cases hl : i < s.length
    · have hx : 0 ≤ (i : Int) ∧ (i : Int) < (s.length : Int) := by omega
      rw [decide_eq_true (by omega), cond_true, if_pos hx]
      simp only [Int.toNat_natCast]
      have hd := getD_cons hl
      rw [hd] at he
      by_cases hc : s.getD i 0 = 47
      · rw [show (((s.getD i 0).toNat : Int) == 47) = true by rw [hc]; rfl, cond_true, if_pos (by omega), if_pos (by simp only [List.length_cons, List.length_nil]; omega), Option.bind_some]
        dsimp only
        rw [wr1 i (by omega)]
        refine hk (s.length - (i + 1)) _ (by omega) ⟨i + 1, i + 1, _, rfl, by omega, by omega, by simp; omega, ?_, rfl⟩
        rw [split_slash hc] at he
        rw [← he, List.append_assoc, show (s.take (i + 1)).drop (i + 1) = [] from List.drop_eq_nil_of_le (by rw [List.length_take]; omega)]
        unfold prep
        rcases hsp : split (s.drop (i + 1)) with _ | ⟨a, b⟩
        · exact absurd hsp (split_ne _)
        · simp
      · rw [show (((s.getD i 0).toNat : Int) == 47) = false by
          rw [beq_eq_false_iff_ne]; intro h; exact hc (UInt8.toNat.inj (by show _ = 47; omega)), cond_false, Option.bind_some]
        dsimp only
        rw [wr1 i (by omega)]
        refine hk (s.length - (i + 1)) _ (by omega) ⟨f, i + 1, _, rfl, by omega, by omega, by omega, ?_, rfl⟩
        rw [split_other hc, prep_prep _ _ _ (split_ne _)] at he
        rw [take_snoc hl hf]
        exact he
    · rw [decide_eq_false (by omega), cond_false]
      refine ⟨_, rfl, f, o, rfl, by omega, by omega, ?_⟩
      rw [← he, List.drop_eq_nil_of_le (by omega : s.length ≤ i), List.take_of_length_le (by omega)]
      simp [split, prep]
  · simp only [List.drop_zero, List.nil_append, List.take_zero, List.drop_nil]
    rcases hsp : split s with _ | ⟨a, b⟩
    · exact absurd hsp (split_ne _)
    · rfl
theorem index_slash (s : List UInt8) : (Go.Lib.indexByte s 47 = -1 ∧ split s = [s]) ∨ ∃ k : Nat, k < s.length ∧ Go.Lib.indexByte s 47 = k ∧ split s = s.take k :: split (s.drop (k + 1)) ∧ s.count 47 = (s.drop (k + 1)).count 47 + 1 := by
  induction s with
  | nil => exact .inl ⟨rfl, rfl⟩
  | cons c r ih =>
    by_cases hc : c = 47
    · refine .inr ⟨0, by simp, ?_, ?_, ?_⟩
      · rw [hc]; rfl
      · rw [split_slash hc]; rfl
      · rw [hc]; simp
    · have hb : (c == 47) = false := by simp [hc]
      rcases ih with ⟨h1, h2⟩ | ⟨k, hk, h1, h2, h3⟩
      · refine .inl ⟨?_, ?_⟩
        · unfold Go.Lib.indexByte; rw [hb, h1]; rfl
        · rw [split_other hc, h2]; rfl
      · refine .inr ⟨k + 1, by simp; omega, ?_, ?_, ?_⟩
        · unfold Go.Lib.indexByte; rw [hb, h1]
          have : ((k : Int) == -1) = false := by rw [beq_eq_false_iff_ne]; omega
          simp [this]
        · rw [split_other hc, h2]; rfl
        · rw [List.count_cons, hb, h3]; simp
theorem count_slash (s : List UInt8) : (split s).length = s.count 47 + 1 := by
  induction s with
  | nil => rfl
  | cons c r ih =>
    by_cases hc : c = 47
    · rw [split_slash hc, hc]; simp [ih]
    · rw [split_other hc, List.count_cons]
      have hb : (c == 47) = false := by simp [hc]
      unfold prep
      rcases hsp : split r with _ | ⟨a, b⟩
      · exact absurd hsp (split_ne _)
      · rw [hsp] at ih; simp [hb] at ih ⊢; omega
theorem index_eq (s : List UInt8) : m_strings_Index s = some (Go.Lib.indexByte s 47, ()) := by
  unfold m_strings_Index m_stringslite_Index
  by_cases h : s = [47]
  · subst h; rfl
  · rw [show (([47] : List UInt8) == s) = false by rw [beq_eq_false_iff_ne]; exact fun h' => h h'.symm]
    rfl
theorem genSplit_eq (s : List UInt8) (hs : s.length ≤ 8796093022206) : m_strings_genSplit s = some (split s, ()) := by
  unfold m_strings_genSplit
  refine bind_eq (x := (((s.count 47 : Nat) : Int), ())) rfl ?_
  have hcl : s.count 47 ≤ s.length := List.count_le_length
  dsimp only
  rw [wr ((s.length : Int) + 1) (by omega), wr (((s.count 47 : Nat) : Int) + 1) (by omega), if_neg (show ¬((s.length : Int) + 1 < ((s.count 47 : Nat) : Int) + 1) by omega), if_pos (by omega), wr (((s.count 47 : Nat) : Int) + 1 - 1) (by omega)]
  have hn : (((s.count 47 : Nat) : Int) + 1).toNat = s.count 47 + 1 := by omega
  rw [hn]
  refine bind_ex (loopC_some' _ (fun n t => ∃ (r : List UInt8) (i : Nat) (a : List (List UInt8)), t = ((r, (), (), ((s.count 47 : Nat) : Int) + 1 - 1, (), (i : Int), ()), a, ()) ∧ i + r.count 47 = s.count 47 ∧ r.length ≤ s.length ∧ a.length = s.count 47 + 1 ∧ a.take i ++ split r = split s ∧ n = r.length)
    (fun t => ∃ (r : List UInt8) (i : Nat) (a : List (List UInt8)), t = ((r, (), (i : Int), ()), a, ()) ∧ i ≤ s.count 47 ∧ a.length = s.count 47 + 1 ∧ a.take i ++ [r] = split s) ?_ _ s.length _ ⟨s, 0, _, rfl, by omega, by omega, by simp, rfl, rfl⟩ (by omega)) ?_
  · rintro n t k ⟨r, i, a, rfl, h1, h2, h3, h4, rfl⟩ hk
    dsimp only
    by_cases hl : i < s.count 47
    · rw [decide_eq_true (by omega), cond_true, index_eq, Option.bind_some]
      dsimp only
      rcases index_slash r with ⟨g1, g2⟩ | ⟨m, hm, g1, g2, g3⟩
      · rw [g1, decide_eq_true (by omega), cond_true]
        exact ⟨_, rfl, r, i, a, rfl, by omega, h3, by rw [g2] at h4; exact h4⟩
      · rw [g1, decide_eq_false (by omega), cond_false, wr ((m : Int) + 0) (by omega)]
        simp only [List.length_cons, List.length_nil]
        rw [show ((0 + 1 : Nat) : Int) = 1 from rfl, wr1 m (by omega), if_pos (by omega), if_pos (by omega), if_pos (by omega), if_pos (by omega), wr1 i (by omega)]
        refine hk (r.drop (m + 1)).length _ (by rw [List.length_drop]; omega) ⟨r.drop (m + 1), i + 1, a.set i (r.take m), ?_, by omega, by rw [List.length_drop]; omega, ?_, ?_, rfl⟩
        · simp only [Int.toNat_natCast, List.take_length, Int.add_zero]; rfl
        · rw [List.length_set]; exact h3
        · rw [List.take_add_one, List.take_set_of_le (by omega), ← h4, g2]
          rw [List.getElem?_set_self (by omega)]
          simp
    · rw [decide_eq_false (by omega), cond_false]
      refine ⟨_, rfl, r, i, a, rfl, by omega, h3, ?_⟩
      rcases index_slash r with ⟨g1, g2⟩ | ⟨m, hm, g1, g2, g3⟩
      · rw [g2] at h4; exact h4
      · omega
  · rintro t ⟨r, i, a, rfl, h1, h2, h3⟩
    dsimp only
    rw [if_pos (by omega), if_pos (by omega), wr1 i (by omega), if_pos (by rw [List.length_set]; omega)]
    rw [Int.toNat_natCast, Int.toNat_natCast, List.take_add_one, List.take_set_of_le (by omega), List.getElem?_set_self (by omega)]
    show some (a.take i ++ [r], ()) = _
    rw [h3]
theorem split_eq (s : List UInt8) (hs : s.length ≤ 8796093022206) : m_strings_Split s = some (split s, ()) := by
  unfold m_strings_Split; rw [genSplit_eq s hs]; rfl
def names (s : List UInt8) : List (List UInt8) := if s.length ≤ 168 ∧ (split s).length ≤ 8 ∧ (split s).all nameOk = true then split s else []
def pathOk (s : List UInt8) : Bool := decide (s.length ≤ 168) && (decide ((split s).length ≤ 8) && (split s).all nameOk)
theorem names_ok (s : List UInt8) : names s = if pathOk s then split s else [] := by
  unfold names pathOk
  by_cases h1 : s.length ≤ 168 <;> by_cases h2 : (split s).length ≤ 8 <;> by_cases h3 : (split s).all nameOk = true <;> simp [h1, h2, h3]
theorem split_mem_len (s : List UInt8) : ∀ x ∈ split s, x.length ≤ s.length := by
  induction s with
  | nil => intro x hx; simp [split] at hx; subst hx; simp
  | cons c r ih =>
    intro x hx
    by_cases hc : c = 47
    · rw [split_slash hc] at hx
      rcases List.mem_cons.1 hx with rfl | hx
      · simp
      · have := ih x hx; simp; omega
    · rw [split_other hc] at hx
      unfold prep at hx
      rcases hsp : split r with _ | ⟨a, b⟩
      · exact absurd hsp (split_ne _)
      · rw [hsp] at hx ih
        rcases List.mem_cons.1 hx with rfl | hx
        · have := ih a (by simp); simp; omega
        · have := ih x (by simp [hx]); simp; omega
/-- Names of at most twenty bytes, at most eight: the text is of at most 167. -/
theorem split_sum (s : List UInt8) : s.length + 1 = ((split s).map (fun x => x.length + 1)).sum := by
  induction s with
  | nil => rfl
  | cons c r ih =>
    by_cases hc : c = 47
    · rw [split_slash hc]; simp at ih ⊢; omega
    · rw [split_other hc]; unfold prep
      rcases hsp : split r with _ | ⟨a, b⟩
      · exact absurd hsp (split_ne _)
      · rw [hsp] at ih; simp at ih ⊢; omega
theorem sum_le {l : List (List UInt8)} (h : l.all nameOk = true) : (l.map (fun x => x.length + 1)).sum ≤ 21 * l.length := by
  induction l with
  | nil => simp
  | cons a t ih =>
    rw [List.all_cons, Bool.and_eq_true] at h
    have := ih h.2
    have h1 := h.1
    unfold nameOk at h1
    simp only [Bool.and_eq_true, decide_eq_true_eq] at h1
    simp; omega
theorem path_len {s : List UInt8} (h1 : (split s).length ≤ 8) (h2 : (split s).all nameOk = true) : s.length ≤ 167 := by
  have := split_sum s; have := sum_le h2; omega
theorem spec_pathOk (s : List UInt8) : m_spec_PathOk s = some (pathOk s, ()) := by
  unfold m_spec_PathOk
  by_cases hs : s.length ≤ 200
  · rw [decide_eq_false (by omega), cond_false, spec_names s (by omega), Option.bind_some]
    have hl := split_len s
    refine joinC_of (loopC_inv _ (fun n t => ∃ i : Nat, t = ((split s, (i : Int), ()), ()) ∧ i ≤ (split s).length ∧ n = (split s).length - i)
          (fun t => some (if ((split s).drop t.1.2.1.toNat).all nameOk then .inl ((split s, ()), ()) else .inr (false, ()))) ?_ _ (split s).length _ ⟨0, rfl, by omega, rfl⟩ (by show _ < (split s).length + _ + _; omega)) ?_
    · rintro n t k ⟨i, rfl, hi, rfl⟩ hk
      dsimp only
      by_cases hl2 : i < (split s).length
      · rw [decide_eq_true (by omega), cond_true, if_pos (by omega), Int.toNat_natCast, all_drop nameOk (nilOf UInt8) hl2]
        have hm : ((split s).getD i (nilOf UInt8)).length ≤ s.length := by
          rw [List.getD_eq_getElem?_getD, List.getElem?_eq_getElem hl2]; exact split_mem_len s _ (List.getElem_mem hl2)
        rw [spec_nameOk _ (by omega), Option.bind_some]
        dsimp only
        cases nameOk ((split s).getD i (nilOf UInt8)) with
        | false => rfl
        | true =>
          show k _ = _
          rw [wr1 i (by omega)]
          exact hk ((split s).length - (i + 1)) _ (by omega) ⟨i + 1, rfl, by omega, rfl⟩
      · rw [decide_eq_false (by omega), cond_false, Int.toNat_natCast, List.drop_eq_nil_of_le (by omega)]
        rfl
    · show joinC (some (if ((split s).drop 0).all nameOk = true then _ else _)) _ = _
      rw [List.drop_zero]
      unfold pathOk
      cases h2 : (split s).all nameOk with
      | false => simp; rfl
      | true =>
        show some (decide (((split s).length : Int) ≤ 8), ()) = _
        by_cases h1 : (split s).length ≤ 8
        · have := path_len h1 h2
          rw [decide_eq_true (by omega), decide_eq_true (by omega), decide_eq_true h1]; rfl
        · rw [decide_eq_false (by omega), decide_eq_false h1]; simp
  · rw [decide_eq_true (by omega), cond_true]
    unfold pathOk
    rw [decide_eq_false (by omega), Bool.false_and]
theorem impl_names (s : List UInt8) : m_impl_Names s = some (names s, ()) := by
  unfold m_impl_Names
  by_cases hs : s.length ≤ 168
  · rw [decide_eq_false (by omega), cond_false, split_eq s (by omega), Option.bind_some]
    have hl := split_len s
    dsimp only
    by_cases h1 : (split s).length ≤ 8
    · rw [decide_eq_false (by omega), cond_false]
      refine joinC_of (loopC_inv _ (fun n t => ∃ i : Nat, t = ((split s, split s, ((split s).length : Int), (i : Int), ()), ()) ∧ i ≤ (split s).length ∧ n = (split s).length - i)
          (fun t => some (if ((split s).drop t.1.2.2.2.1.toNat).all nameOk then .inl ((split s, ()), ()) else .inr ([], ()))) ?_ _ (split s).length _ ⟨0, rfl, by omega, rfl⟩ (by omega)) ?_
      · rintro n t k ⟨i, rfl, hi, rfl⟩ hk
        dsimp only
        by_cases hl2 : i < (split s).length
        · rw [decide_eq_true (by omega), cond_true, if_pos (by omega), Int.toNat_natCast, all_drop nameOk (nilOf UInt8) hl2]
          have hm : ((split s).getD i (nilOf UInt8)).length ≤ s.length := by
            rw [List.getD_eq_getElem?_getD, List.getElem?_eq_getElem hl2]; exact split_mem_len s _ (List.getElem_mem hl2)
          rw [impl_nameOk _ (by omega), Option.bind_some]
          dsimp only
          cases nameOk ((split s).getD i (nilOf UInt8)) with
          | false => rfl
          | true =>
            show k _ = _
            rw [wr1 i (by omega)]
            exact hk ((split s).length - (i + 1)) _ (by omega) ⟨i + 1, rfl, by omega, rfl⟩
        · rw [decide_eq_false (by omega), cond_false, Int.toNat_natCast, List.drop_eq_nil_of_le (by omega)]
          rfl
      · show joinC (some (if ((split s).drop 0).all nameOk = true then _ else _)) _ = _
        rw [List.drop_zero]
        unfold names
        cases h2 : (split s).all nameOk with
        | false => simp; rfl
        | true => rw [if_pos (show s.length ≤ 168 ∧ (split s).length ≤ 8 ∧ true = true from And.intro hs (And.intro h1 rfl))]; rfl
    · rw [decide_eq_true (by omega), cond_true]
      unfold names
      rw [if_neg (fun h => h1 h.2.1)]
  · rw [decide_eq_true (by omega), cond_true]
    unfold names
    rw [if_neg (fun h => hs h.1)]
theorem impl_pathOk (s : List UInt8) : m_impl_PathOk s = some (pathOk s, ()) := by
  unfold m_impl_PathOk
  rw [impl_names, Option.bind_some, names_ok]
  cases pathOk s with
  | false => rfl
  | true =>
    show some (decide (((split s).length : Int) > 0), ()) = _
    rw [decide_eq_true (by have := List.length_pos_iff.2 (split_ne s); omega)]
end Go.AM
set_option linter.unusedVariables false
set_option linter.unusedSimpArgs false
namespace Go.AM
open Go
/-! ### options -/
abbrev OptsT := Bool × (Bool × (Bool × (Bool × (Bool × (Bool × (Bool × (Bool × (Bool × (Bool × (Bool × (Bool × (Bool × (Int × (Bool × (List UInt8 × List UInt8)))))))))))))))
def sufOk (s : List UInt8) : Bool := s == [] || (decide (s.length ≤ 8) && nameOk ([120] ++ s))
theorem spec_suffix (s : List UInt8) (hs : s.length ≤ 1048576) : m_spec_l11Suffix s = some (sufOk s, ()) := by
  unfold m_spec_l11Suffix sufOk
  simp only [nilOf]
  cases s == [] with
  | true => rfl
  | false =>
    simp only [cond_false, Bool.false_or]
    by_cases h : s.length ≤ 8
    · rw [decide_eq_true (by omega), decide_eq_true h, cond_true, if_pos (by show 1 + s.length < 9223372036854775808; omega), spec_nameOk _ (by simp; omega)]
      simp
    · rw [decide_eq_false (by omega), decide_eq_false h]; rfl
theorem impl_suffix (s : List UInt8) (hs : s.length ≤ 1048576) (hn : (s == []) = false) : m_impl_isSuffix s = some (sufOk s, ()) := by
  unfold m_impl_isSuffix sufOk
  rw [within_eq, Option.bind_some, hn, Bool.false_or]
  have h0 : 1 ≤ s.length := by
    rcases s with _ | ⟨a, b⟩
    · simp at hn
    · simp
  dsimp only
  rw [decide_eq_true (by omega), Bool.true_and]
  by_cases h : s.length ≤ 8
  · rw [decide_eq_true (by omega), decide_eq_true h, cond_true, if_pos (by show 1 + s.length < 9223372036854775808; omega), impl_nameOk _ (by simp; omega)]
    simp
  · rw [decide_eq_false (by omega), decide_eq_false h]; rfl
def optsOk : OptsT → Bool
  | (r, _, _, _, _, ck, so, _, _, _, _, _, _, del, bk, suf, dir) =>
    (decide (del ≥ 0) && decide (del ≤ 3)) && (!(!(del == 0) && !r) && (!(ck && so) && (cond bk (sufOk suf && ((dir == [] || pathOk dir) && !(suf == [] && dir == []))) (suf == [] && dir == []))))
theorem app_nil (a b : List UInt8) : (a ++ b == []) = (a == [] && b == []) := by cases a <;> cases b <;> rfl
theorem spec_optsOk (o : OptsT) (h1 : o.2.2.2.2.2.2.2.2.2.2.2.2.2.2.2.1.length ≤ 1048576) (h2 : o.2.2.2.2.2.2.2.2.2.2.2.2.2.2.2.2.length ≤ 1048576) : m_spec_OptsOk o = some (optsOk o, ()) := by
  obtain ⟨r, l, p, t, hd, ck, so, dry, wh, up, ex, ig, fz, del, bk, suf, dir⟩ := o
  dsimp only at h1 h2
  unfold m_spec_OptsOk optsOk
  simp only [in_eq, Option.bind_some, bne, nilOf]
  refine bind_eq (x := (((), !((decide (del ≥ 0) && decide (del ≤ 3)) && (!(!(del == 0) && !r) && !(ck && so))), ()), (r, l, p, t, hd, ck, so, dry, wh, up, ex, ig, fz, del, bk, suf, dir, ()), ())) ?_ ?_
  · cases (decide (del ≥ 0) && decide (del ≤ 3)) <;> cases del == 0 <;> cases r <;> cases ck <;> cases so <;> rfl
  · dsimp only
    have e : ((decide (del ≥ 0) && decide (del ≤ 3)) && (!(!(del == 0) && !r) && (!(ck && so) && (cond bk (sufOk suf && ((dir == [] || pathOk dir) && !(suf == [] && dir == []))) (suf == [] && dir == []))))) = (((decide (del ≥ 0) && decide (del ≤ 3)) && (!(!(del == 0) && !r) && !(ck && so))) && (cond bk (sufOk suf && ((dir == [] || pathOk dir) && !(suf == [] && dir == []))) (suf == [] && dir == []))) := by
      simp only [Bool.and_assoc]
    rw [e]
    cases ((decide (del ≥ 0) && decide (del ≤ 3)) && (!(!(del == 0) && !r) && !(ck && so))) with
    | false => rfl
    | true =>
      simp only [Bool.not_true, cond_false, Bool.true_and]
      cases bk with
      | false =>
        simp only [Bool.not_false, cond_true, cond_false]
        cases suf == [] <;> rfl
      | true =>
        simp only [Bool.not_true, cond_true, cond_false]
        rw [spec_suffix _ h1, Option.bind_some]
        dsimp only
        cases sufOk suf with
        | false => rfl
        | true =>
          have hl : suf.length + dir.length < 2 ^ 63 := by show _ < 9223372036854775808; omega
          simp only [cond_true, Bool.true_and, if_pos hl, app_nil, spec_pathOk, Option.bind_some]
          cases dir == [] <;> cases pathOk dir <;> rfl
theorem impl_optsOk (o : OptsT) (h1 : o.2.2.2.2.2.2.2.2.2.2.2.2.2.2.2.1.length ≤ 1048576) (h2 : o.2.2.2.2.2.2.2.2.2.2.2.2.2.2.2.2.length ≤ 1048576) : m_impl_OptsOk o = some (optsOk o, ()) := by
  obtain ⟨r, l, p, t, hd, ck, so, dry, wh, up, ex, ig, fz, del, bk, suf, dir⟩ := o
  dsimp only at h1 h2
  unfold m_impl_OptsOk optsOk
  simp only [within_eq, Option.bind_some, bne, nilOf]
  refine bind_eq (x := (((), !((decide (del ≥ 0) && decide (del ≤ 3)) && (!(!(del == 0) && !r) && !(ck && so))), ()), (r, l, p, t, hd, ck, so, dry, wh, up, ex, ig, fz, del, bk, suf, dir, ()), ())) ?_ ?_
  · cases (decide (del ≥ 0) && decide (del ≤ 3)) <;> cases del == 0 <;> cases r <;> cases ck <;> cases so <;> rfl
  · dsimp only
    have e : ((decide (del ≥ 0) && decide (del ≤ 3)) && (!(!(del == 0) && !r) && (!(ck && so) && (cond bk (sufOk suf && ((dir == [] || pathOk dir) && !(suf == [] && dir == []))) (suf == [] && dir == []))))) = (((decide (del ≥ 0) && decide (del ≤ 3)) && (!(!(del == 0) && !r) && !(ck && so))) && (cond bk (sufOk suf && ((dir == [] || pathOk dir) && !(suf == [] && dir == []))) (suf == [] && dir == []))) := by
      simp only [Bool.and_assoc]
    rw [e]
    cases ((decide (del ≥ 0) && decide (del ≤ 3)) && (!(!(del == 0) && !r) && !(ck && so))) with
    | false => rfl
    | true =>
      simp only [Bool.not_true, cond_false, Bool.true_and]
      cases bk with
      | false =>
        simp only [Bool.not_false, cond_true, cond_false]
        cases suf == [] <;> rfl
      | true =>
        simp only [Bool.not_true, cond_true, cond_false, impl_pathOk, Option.bind_some]
        cases hsn : suf == [] with
        | true =>
          have : sufOk suf = true := by unfold sufOk; rw [hsn]; rfl
          rw [this]
          cases dir == [] <;> cases pathOk dir <;> rfl
        | false =>
          rw [impl_suffix _ h1 hsn]
          simp only [Option.bind_some, cond_false]
          cases sufOk suf <;> cases dir == [] <;> cases pathOk dir <;> rfl
theorem szOpts_eq (o : OptsT) (n : Int) (hn : 0 ≤ n ∧ n ≤ 1048576) (h1 : o.2.2.2.2.2.2.2.2.2.2.2.2.2.2.2.1.length ≤ 9223372036854775807) (h2 : o.2.2.2.2.2.2.2.2.2.2.2.2.2.2.2.2.length ≤ 9223372036854775807) :
    ∃ m, m_laws_szOpts o n = some (m, ()) ∧ (0 ≤ m → m = n - o.2.2.2.2.2.2.2.2.2.2.2.2.2.2.2.1.length - o.2.2.2.2.2.2.2.2.2.2.2.2.2.2.2.2.length) := by
  unfold m_laws_szOpts
  rw [wr (n - _) (by omega)]
  by_cases q1 : n - (o.2.2.2.2.2.2.2.2.2.2.2.2.2.2.2.1.length : Int) < 0
  · rw [decide_eq_true q1]; exact ⟨_, rfl, fun h => by omega⟩
  · rw [decide_eq_false q1, cond_false, wr _ (by omega)]
    by_cases q2 : n - (o.2.2.2.2.2.2.2.2.2.2.2.2.2.2.2.1.length : Int) - (o.2.2.2.2.2.2.2.2.2.2.2.2.2.2.2.2.length : Int) < 0
    · rw [decide_eq_true q2]; exact ⟨_, rfl, fun h => by omega⟩
    · rw [decide_eq_false q2]; exact ⟨_, rfl, fun _ => rfl⟩
theorem toOpts_eq (o : OptsT) : m_laws_toOpts o = some (o, ()) := rfl
end Go.AM
set_option linter.unusedVariables false
set_option linter.unusedSimpArgs false
namespace Go.AM
open Go
def backed (o : OptsT) (p : List UInt8) : List UInt8 := cond (!(o.2.2.2.2.2.2.2.2.2.2.2.2.2.2.2.2 == [])) (o.2.2.2.2.2.2.2.2.2.2.2.2.2.2.2.2 ++ [47] ++ (p ++ o.2.2.2.2.2.2.2.2.2.2.2.2.2.2.2.1)) (p ++ o.2.2.2.2.2.2.2.2.2.2.2.2.2.2.2.1)
def backup (o : OptsT) (p : List UInt8) : List UInt8 := cond (!(optsOk o && (o.2.2.2.2.2.2.2.2.2.2.2.2.2.2.1 && pathOk p))) [] (cond (!pathOk (backed o p)) [] (backed o p))
theorem spec_backup (o : OptsT) (p : List UInt8) (h0 : p.length ≤ 1048576) (h1 : o.2.2.2.2.2.2.2.2.2.2.2.2.2.2.2.1.length ≤ 1048576) (h2 : o.2.2.2.2.2.2.2.2.2.2.2.2.2.2.2.2.length ≤ 1048576) : m_spec_BackupPath o p = some (backup o p, ()) := by
  unfold m_spec_BackupPath
  refine bind_eq (x := ((p, (), !(optsOk o && (o.2.2.2.2.2.2.2.2.2.2.2.2.2.2.1 && pathOk p)), ()), (o.1, o.2.1, o.2.2.1, o.2.2.2.1, o.2.2.2.2.1, o.2.2.2.2.2.1, o.2.2.2.2.2.2.1, o.2.2.2.2.2.2.2.1, o.2.2.2.2.2.2.2.2.1, o.2.2.2.2.2.2.2.2.2.1, o.2.2.2.2.2.2.2.2.2.2.1, o.2.2.2.2.2.2.2.2.2.2.2.1, o.2.2.2.2.2.2.2.2.2.2.2.2.1, o.2.2.2.2.2.2.2.2.2.2.2.2.2.1, o.2.2.2.2.2.2.2.2.2.2.2.2.2.2.1, o.2.2.2.2.2.2.2.2.2.2.2.2.2.2.2.1, o.2.2.2.2.2.2.2.2.2.2.2.2.2.2.2.2, ()), ())) ?_ ?_
  · refine bind_eq (spec_optsOk o h1 h2) ?_
    dsimp only
    rw [spec_pathOk]
    cases optsOk o <;> cases o.2.2.2.2.2.2.2.2.2.2.2.2.2.2.1 <;> rfl
  · dsimp only
    unfold backup
    cases !(optsOk o && (o.2.2.2.2.2.2.2.2.2.2.2.2.2.2.1 && pathOk p)) with
    | true => rfl
    | false =>
      simp only [cond_false]
      rw [if_pos (by show _ < 9223372036854775808; omega)]
      refine bind_eq (x := ((backed o p, ()), ())) ?_ ?_
      · unfold backed
        simp only [nilOf]
        cases !(o.2.2.2.2.2.2.2.2.2.2.2.2.2.2.2.2 == []) with
        | false => rfl
        | true =>
          simp only [cond_true]
          rw [if_pos (by show _ + 1 < 9223372036854775808; omega), if_pos (by simp only [List.length_append, List.length_cons, List.length_nil]; show _ < 9223372036854775808; omega)]
      · dsimp only
        rw [spec_pathOk, Option.bind_some]
        cases pathOk (backed o p) <;> rfl
theorem impl_backup (o : OptsT) (p : List UInt8) (h0 : p.length ≤ 1048576) (h1 : o.2.2.2.2.2.2.2.2.2.2.2.2.2.2.2.1.length ≤ 1048576) (h2 : o.2.2.2.2.2.2.2.2.2.2.2.2.2.2.2.2.length ≤ 1048576) : m_impl_BackupPath o p = some (backup o p, ()) := by
  unfold m_impl_BackupPath
  refine bind_eq (x := ((p, (), !(optsOk o && (o.2.2.2.2.2.2.2.2.2.2.2.2.2.2.1 && pathOk p)), ()), (o.1, o.2.1, o.2.2.1, o.2.2.2.1, o.2.2.2.2.1, o.2.2.2.2.2.1, o.2.2.2.2.2.2.1, o.2.2.2.2.2.2.2.1, o.2.2.2.2.2.2.2.2.1, o.2.2.2.2.2.2.2.2.2.1, o.2.2.2.2.2.2.2.2.2.2.1, o.2.2.2.2.2.2.2.2.2.2.2.1, o.2.2.2.2.2.2.2.2.2.2.2.2.1, o.2.2.2.2.2.2.2.2.2.2.2.2.2.1, o.2.2.2.2.2.2.2.2.2.2.2.2.2.2.1, o.2.2.2.2.2.2.2.2.2.2.2.2.2.2.2.1, o.2.2.2.2.2.2.2.2.2.2.2.2.2.2.2.2, ()), ())) ?_ ?_
  · have e : ∀ f, Option.bind (m_impl_OptsOk o) f = (f (optsOk o, ()) : Option ((List UInt8 × Unit × Bool × Unit) × (Bool × Bool × Bool × Bool × Bool × Bool × Bool × Bool × Bool × Bool × Bool × Bool × Bool × Int × Bool × List UInt8 × List UInt8 × Unit) × Unit)) := fun f => by rw [impl_optsOk o h1 h2]; rfl
    obtain ⟨r, l, pp, t, hd, ck, so, dry, wh, up, ex, ig, fz, del, bk, suf, dir⟩ := o
    cases bk with
    | false => simp only [Bool.not_false, cond_true, Bool.false_and, Bool.and_false]
    | true =>
      simp only [Bool.not_true, cond_false, Bool.true_and]
      refine (e _).trans ?_
      dsimp only
      rw [impl_pathOk]
      generalize optsOk (r, l, pp, t, hd, ck, so, dry, wh, up, ex, ig, fz, del, true, suf, dir) = z
      cases z <;> rfl
  · dsimp only
    unfold backup
    cases !(optsOk o && (o.2.2.2.2.2.2.2.2.2.2.2.2.2.2.1 && pathOk p)) with
    | true => rfl
    | false =>
      simp only [cond_false]
      rw [if_pos (by show _ < 9223372036854775808; omega)]
      refine bind_eq (x := ((backed o p, ()), ())) ?_ ?_
      · unfold backed
        simp only [nilOf]
        cases !(o.2.2.2.2.2.2.2.2.2.2.2.2.2.2.2.2 == []) with
        | false => rfl
        | true =>
          simp only [cond_true]
          rw [if_pos (by show _ + 1 < 9223372036854775808; omega), if_pos (by simp only [List.length_append, List.length_cons, List.length_nil]; show _ < 9223372036854775808; omega)]
      · dsimp only
        rw [impl_pathOk, Option.bind_some]
        cases pathOk (backed o p) <;> rfl
theorem law_BackupPath (o : OptsT) (h1 : o.2.2.2.2.2.2.2.2.2.2.2.2.2.2.2.1.length ≤ 9223372036854775807) (h2 : o.2.2.2.2.2.2.2.2.2.2.2.2.2.2.2.2.length ≤ 9223372036854775807) (p : List UInt8) : m_laws_FnExactBackupPath o p = some (true, ()) := by
  unfold m_laws_FnExactBackupPath
  by_cases hp : p.length ≤ 1048576
  · rw [decide_eq_false (by omega), cond_false]
    obtain ⟨m, e, hm⟩ := szOpts_eq o 1048576 (by omega) h1 h2
    refine bind_eq e ?_
    dsimp only
    by_cases q : m < 0
    · rw [decide_eq_true q]; rfl
    · rw [decide_eq_false q, cond_false]
      have hm := hm (by omega)
      refine bind_eq (toOpts_eq o) ?_
      refine bind_eq (spec_backup o p (by omega) (by omega) (by omega)) ?_
      refine bind_eq (toOpts_eq o) ?_
      refine bind_eq (impl_backup o p (by omega) (by omega) (by omega)) ?_
      simp
  · rw [decide_eq_true (by omega)]; rfl
end Go.AM
