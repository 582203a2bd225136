/- The plain law: the model of the law answers true. -/
import Derived.Test.YtkjbhlhebjfklaaDoorMoFnExactShowOpts

set_option linter.unusedVariables false
set_option linter.unusedSimpArgs false
namespace Go.AM
open Go
theorem loopC_inv {S α : Type} (F : S → (S → Option α) → Option α) (I : Nat → S → Prop) (g : S → Option α)
    (h : ∀ n s k, I n s → (∀ m s', m < n → I m s' → k s' = g s') → F s k = g s) : ∀ fuel n s, I n s → n < fuel → loopC fuel F s = g s := by
  intro fuel
  induction fuel with
  | zero => intro n s _ h0; omega
  | succ f ih => intro n s hI hn; exact h n s _ hI (fun m s' hm hI' => ih m s' hI' (by omega))
theorem wr (x : Int) (h : -9223372036854775808 ≤ x ∧ x ≤ 9223372036854775807) : IntKind.wrap .i64 x = x := by
  simp [IntKind.wrap, IntKind.signed, IntKind.bits]; omega
/-- A loop ends in some result with Q. -/
theorem loopC_some' {S α : Type} (F : S → (S → Option α) → Option α) (I : Nat → S → Prop) (Q : α → Prop)
    (h : ∀ n s k, I n s → (∀ m s', m < n → I m s' → ∃ r, k s' = some r ∧ Q r) → ∃ r, F s k = some r ∧ Q r) : ∀ fuel n s, I n s → n < fuel → ∃ r, loopC fuel F s = some r ∧ Q r := by
  intro fuel
  induction fuel with
  | zero => intro n s _ h0; omega
  | succ f ih => intro n s hI hn; exact h n s _ hI (fun m s' hm hI' => ih m s' hI' (by omega))
theorem bind_eq {α β : Type} {o : Option α} {f : α → Option β} {x : α} {r : Option β} (h : o = some x) (h2 : f x = r) : Option.bind o f = r := by rw [h]; exact h2
theorem bind_ex {α β : Type} {o : Option α} {f : α → Option β} {Q : α → Prop} {r : Option β} (h : ∃ x, o = some x ∧ Q x) (h2 : ∀ x, Q x → f x = r) : Option.bind o f = r := by obtain ⟨x, rfl, hq⟩ := h; exact h2 x hq
theorem joinC_of {S α : Type} {o x : Option (S ⊕ α)} {k : S → Option α} {r : Option α} (h : o = x) (h2 : joinC x k = r) : joinC o k = r := by rw [h]; exact h2
theorem wr1 (i : Nat) (h : i ≤ 4611686018427387904) : IntKind.wrap .i64 ((i : Int) + 1) = ((i + 1 : Nat) : Int) := by rw [wr _ (by omega)]; rfl
def okCh (c : Int) : Bool := (decide (c ≥ 97) && decide (c ≤ 122)) || ((decide (c ≥ 65) && decide (c ≤ 90)) || ((decide (c ≥ 48) && decide (c ≤ 57)) || (c == 46 || (c == 95 || c == 45))))
def okB (b : UInt8) : Bool := okCh (b.toNat : Int)
def nameOk (s : List UInt8) : Bool := (decide (1 ≤ s.length) && decide (s.length ≤ 20)) && (!(s == [46]) && (!(s == [46, 46]) && s.all okB))
theorem in_eq (x a b : Int) : m_spec_l01In x a b = some (decide (x ≥ a) && decide (x ≤ b), ()) := by
  unfold m_spec_l01In; cases decide (x ≥ a) <;> rfl
theorem within_eq (x a b : Int) : m_impl_within x a b = some (decide (x ≥ a) && decide (x ≤ b), ()) := by
  unfold m_impl_within; cases decide (x ≥ a) <;> rfl
theorem all_drop {α : Type} (p : α → Bool) (d : α) {s : List α} {i : Nat} (h : i < s.length) : (s.drop i).all p = (p (s.getD i d) && (s.drop (i + 1)).all p) := by
  rw [List.drop_eq_getElem_cons h, List.all_cons, List.getD_eq_getElem?_getD, List.getElem?_eq_getElem h]; rfl
theorem len_ge (s : List UInt8) : decide ((s.length : Int) ≥ 1) = decide (1 ≤ s.length) := decide_eq_decide.2 (by omega)
theorem len_le (s : List UInt8) : decide ((s.length : Int) ≤ 20) = decide (s.length ≤ 20) := decide_eq_decide.2 (by omega)
theorem spec_nameOk (s : List UInt8) (hs : s.length ≤ 1099511627776) : m_spec_NameOk s = some (nameOk s, ()) := by
  unfold m_spec_NameOk
  rw [in_eq, Option.bind_some, len_ge, len_le]
  unfold nameOk
  cases h1 : (decide (1 ≤ s.length) && decide (s.length ≤ 20)) with
  | false => rfl
  | true =>
    simp only [Bool.not_true, cond_false, Bool.true_and]
    cases h2 : (s == [46]) with
    | true => rfl
    | false =>
      simp only [cond_false, Bool.not_false, Bool.true_and]
      cases h3 : (s == [46, 46]) with
      | true => rfl
      | false =>
        simp only [Option.bind_some, cond_false, Bool.not_false, Bool.true_and]
        refine joinC_of (loopC_inv _ (fun n t => ∃ i : Nat, t = ((s, (i : Int), ()), ()) ∧ i ≤ s.length ∧ n = s.length - i)
          (fun t => some (if (s.drop t.1.2.1.toNat).all okB then .inl ((), ()) else .inr (false, ()))) ?_ _ s.length _ ⟨0, rfl, by omega, rfl⟩ (by omega)) ?_
        rotate_left
        · show joinC (some (if (s.drop 0).all okB = true then _ else _)) _ = _
          rw [List.drop_zero]
          cases s.all okB <;> rfl
        · rintro n t k ⟨i, rfl, hi, rfl⟩ hk
          dsimp only
          by_cases hl : i < s.length
          · have hx : 0 ≤ (i : Int) ∧ (i : Int) < (s.length : Int) := by omega
            rw [decide_eq_true (by omega), cond_true, if_pos hx]
            refine bind_eq (x := ((s, (i : Int), !okB (s.getD i 0), ()), ())) ?_ ?_
            · simp only [in_eq, Option.bind_some, if_pos hx, bne, okB, okCh, Int.toNat_natCast]
              have hb : (s.getD i 0).toNat < 256 := UInt8.toNat_lt _
              rw [wr _ (by omega)]
              generalize ((s.getD i 0).toNat : Int) = c
              cases decide (c ≥ 97) <;> cases decide (c ≤ 122) <;> cases decide (c ≥ 65) <;> cases decide (c ≤ 90) <;> cases decide (c ≥ 48) <;> cases decide (c ≤ 57) <;> cases c == 46 <;> cases c == 95 <;> cases c == 45 <;> rfl
            · dsimp only
              rw [Int.toNat_natCast, all_drop okB 0 hl]
              cases okB (s.getD i 0) with
              | false => rfl
              | true =>
                show k _ = _
                rw [wr1 i (by omega)]
                exact hk (s.length - (i + 1)) _ (by omega) ⟨i + 1, rfl, by omega, rfl⟩
          · rw [decide_eq_false (by omega), cond_false, Int.toNat_natCast, List.drop_eq_nil_of_le (by omega)]
            rfl
theorem impl_nameOk (s : List UInt8) (hs : s.length ≤ 1099511627776) : m_impl_NameOk s = some (nameOk s, ()) := by
  unfold m_impl_NameOk
  refine joinC_of (loopC_inv _ (fun n t => ∃ i : Nat, t = ((s, (s.length : Int), (i : Int), ()), ()) ∧ i ≤ s.length ∧ n = s.length - i)
          (fun t => some (if (s.drop t.1.2.2.1.toNat).all okB then .inl ((s, ()), ()) else .inr (false, ()))) ?_ _ s.length _ ⟨0, rfl, by omega, rfl⟩ (by omega)) ?_
  rotate_left
  · show joinC (some (if (s.drop 0).all okB = true then _ else _)) _ = _
    rw [List.drop_zero]
    unfold nameOk
    cases s.all okB with
    | false => simp only [Bool.and_false]; rfl
    | true =>
      show Option.bind (Option.bind (m_impl_within _ _ _) _) _ = _
      rw [within_eq, Option.bind_some, len_ge, len_le]
      dsimp only
      cases (decide (1 ≤ s.length) && decide (s.length ≤ 20)) <;> cases s == [46] <;> cases s == [46, 46] <;> rfl
  · rintro n t k ⟨i, rfl, hi, rfl⟩ hk
    dsimp only
    by_cases hl : i < s.length
    · have hx : 0 ≤ (i : Int) ∧ (i : Int) < (s.length : Int) := by omega
      rw [decide_eq_true (by omega), cond_true, if_pos hx]
      refine bind_eq (x := ((s, (s.length : Int), (i : Int), !okB (s.getD i 0), ()), ())) ?_ ?_
      · simp only [okB, okCh, Int.toNat_natCast]
        cases decide ((((s.getD i 0).toNat : Nat) : Int) ≥ 97) <;> cases decide ((((s.getD i 0).toNat : Nat) : Int) ≤ 122) <;> cases decide ((((s.getD i 0).toNat : Nat) : Int) ≥ 65) <;> cases decide ((((s.getD i 0).toNat : Nat) : Int) ≤ 90) <;> cases decide ((((s.getD i 0).toNat : Nat) : Int) ≥ 48) <;> cases decide ((((s.getD i 0).toNat : Nat) : Int) ≤ 57) <;> cases (((s.getD i 0).toNat : Nat) : Int) == 46 <;> cases (((s.getD i 0).toNat : Nat) : Int) == 95 <;> cases (((s.getD i 0).toNat : Nat) : Int) == 45 <;> rfl
      · dsimp only
        rw [Int.toNat_natCast, all_drop okB 0 hl]
        cases okB (s.getD i 0) with
        | false => rfl
        | true =>
          show k _ = _
          rw [wr1 i (by omega)]
          exact hk (s.length - (i + 1)) _ (by omega) ⟨i + 1, rfl, by omega, rfl⟩
    · rw [decide_eq_false (by omega), cond_false, Int.toNat_natCast, List.drop_eq_nil_of_le (by omega)]
      rfl
/-- What stands between the slashes. -/
def split : List UInt8 → List (List UInt8)
  | [] => [[]]
  | c :: r => if c = 47 then [] :: split r else match split r with
    | [] => [[c]]
    | h :: t => (c :: h) :: t
def prep (x : List UInt8) : List (List UInt8) → List (List UInt8)
  | [] => [x]
  | h :: t => (x ++ h) :: t
theorem split_ne (s : List UInt8) : split s ≠ [] := by
  cases s with
  | nil => simp [split]
  | cons c r => unfold split; split; simp; split <;> simp
theorem split_slash {c : UInt8} {r : List UInt8} (h : c = 47) : split (c :: r) = [] :: split r := by rw [split, if_pos h]
theorem split_other {c : UInt8} {r : List UInt8} (h : c ≠ 47) : split (c :: r) = prep [c] (split r) := by
  rw [split, if_neg h]; unfold prep; rcases split r with _ | ⟨h, t⟩ <;> rfl
theorem prep_prep (x y : List UInt8) (l : List (List UInt8)) (h : l ≠ []) : prep x (prep y l) = prep (x ++ y) l := by
  cases l with
  | nil => exact absurd rfl h
  | cons a t => simp [prep]
theorem split_len : ∀ s : List UInt8, (split s).length ≤ s.length + 1
  | [] => by simp [split]
  | c :: r => by
    have := split_len r
    by_cases h : c = 47
    · rw [split_slash h]; simp; omega
    · rw [split_other h]; unfold prep; split <;> simp_all; omega
theorem getD_cons {s : List UInt8} {i : Nat} (h : i < s.length) : s.drop i = s.getD i 0 :: s.drop (i + 1) := by
  rw [List.drop_eq_getElem_cons h, List.getD_eq_getElem?_getD, List.getElem?_eq_getElem h]; rfl
theorem take_snoc {s : List UInt8} {i f : Nat} (h : i < s.length) (hf : f ≤ i) : (s.take (i + 1)).drop f = (s.take i).drop f ++ [s.getD i 0] := by
  rw [List.take_add_one, List.drop_append_of_le_length (by simp; omega), List.getD_eq_getElem?_getD, List.getElem?_eq_getElem h]; rfl
theorem spec_names (s : List UInt8) (hs : s.length ≤ 8796093022206) : m_spec_l02Names s = some (split s, ()) := by
  unfold m_spec_l02Names
  refine bind_ex (loopC_some' _ (fun n t => ∃ (f i : Nat) (o : List (List UInt8)), t = ((s, (), (f : Int), (i : Int), ()), o, ()) ∧ f ≤ i ∧ i ≤ s.length ∧ o.length ≤ i ∧ o ++ prep ((s.take i).drop f) (split (s.drop i)) = split s ∧ n = s.length - i)
    (fun r => ∃ (f : Nat) (o : List (List UInt8)), r = ((s, (), (f : Int), ()), o, ()) ∧ f ≤ s.length ∧ o.length ≤ s.length ∧ o ++ [s.drop f] = split s) ?_ _ s.length _ ⟨0, 0, [], rfl, by omega, by omega, by simp, ?_, rfl⟩ (by omega)) ?_
  rotate_left 2
  · rintro r ⟨f, o, rfl, h1, h2, h3⟩
    dsimp only
    rw [if_pos (by omega), if_pos (by simp only [List.length_cons, List.length_nil]; omega)]
    rw [Int.toNat_natCast, Int.toNat_natCast, List.take_length, h3]
  · rintro n t k ⟨f, i, o, rfl, hf, hi, ho, he, rfl⟩ hk
    dsimp only
    by_cases hl : i < s.length
    · have hx : 0 ≤ (i : Int) ∧ (i : Int) < (s.length : Int) := by omega
      rw [decide_eq_true (by omega), cond_true, if_pos hx]
      simp only [Int.toNat_natCast]
      have hd := getD_cons hl
      rw [hd] at he
      by_cases hc : s.getD i 0 = 47
      · rw [show (((s.getD i 0).toNat : Int) == 47) = true by rw [hc]; rfl, cond_true, if_pos (by omega), if_pos (by simp only [List.length_cons, List.length_nil]; omega), Option.bind_some]
        dsimp only
        rw [wr1 i (by omega)]
        refine hk (s.length - (i + 1)) _ (by omega) ⟨i + 1, i + 1, _, rfl, by omega, by omega, by simp; omega, ?_, rfl⟩
        rw [split_slash hc] at he
        rw [← he, List.append_assoc, show (s.take (i + 1)).drop (i + 1) = [] from List.drop_eq_nil_of_le (by rw [List.length_take]; omega)]
        unfold prep
        rcases hsp : split (s.drop (i + 1)) with _ | ⟨a, b⟩
        · exact absurd hsp (split_ne _)
        · simp
      · rw [show (((s.getD i 0).toNat : Int) == 47) = false by
          rw [beq_eq_false_iff_ne]; intro h; exact hc (UInt8.toNat.inj (by show _ = 47; omega)), cond_false, Option.bind_some]
        dsimp only
        rw [wr1 i (by omega)]
        refine hk (s.length - (i + 1)) _ (by omega) ⟨f, i + 1, _, rfl, by omega, by omega, by omega, ?_, rfl⟩
        rw [split_other hc, prep_prep _ _ _ (split_ne _)] at he
        rw [take_snoc hl hf]
        exact he
    · rw [decide_eq_false (by omega), cond_false]
      refine ⟨_, rfl, f, o, rfl, by omega, by omega, ?_⟩
      rw [← he, List.drop_eq_nil_of_le (by omega : s.length ≤ i), List.take_of_length_le (by omega)]
      simp [split, prep]
  · simp only [List.drop_zero, List.nil_append, List.take_zero, List.drop_nil]
    rcases hsp : split s with _ | ⟨a, b⟩
    · exact absurd hsp (split_ne _)
    · rfl
theorem index_slash (s : List UInt8) : (Go.Lib.indexByte s 47 = -1 ∧ split s = [s]) ∨ ∃ k : Nat, k < s.length ∧ Go.Lib.indexByte s 47 = k ∧ split s = s.take k :: split (s.drop (k + 1)) ∧ s.count 47 = (s.drop (k + 1)).count 47 + 1 := by
  induction s with
  | nil => exact .inl ⟨rfl, rfl⟩
  | cons c r ih =>
    by_cases hc : c = 47
    · refine .inr ⟨0, by simp, ?_, ?_, ?_⟩
      · rw [hc]; rfl
      · rw [split_slash hc]; rfl
      · rw [hc]; simp
    · have hb : (c == 47) = false := by simp [hc]
      rcases ih with ⟨h1, h2⟩ | ⟨k, hk, h1, h2, h3⟩
      · refine .inl ⟨?_, ?_⟩
        · unfold Go.Lib.indexByte; rw [hb, h1]; rfl
        · rw [split_other hc, h2]; rfl
      · refine .inr ⟨k + 1, by simp; omega, ?_, ?_, ?_⟩
        · unfold Go.Lib.indexByte; rw [hb, h1]
          have : ((k : Int) == -1) = false := by rw [beq_eq_false_iff_ne]; omega
          simp [this]
        · rw [split_other hc, h2]; rfl
        · rw [List.count_cons, hb, h3]; simp
theorem index_eq (s : List UInt8) : m_strings_Index s = some (Go.Lib.indexByte s 47, ()) := by
  unfold m_strings_Index m_stringslite_Index
  by_cases h : s = [47]
  · subst h; rfl
  · rw [show (([47] : List UInt8) == s) = false by rw [beq_eq_false_iff_ne]; exact fun h' => h h'.symm]
    rfl
theorem genSplit_eq (s : List UInt8) (hs : s.length ≤ 8796093022206) : m_strings_genSplit s = some (split s, ()) := by
  unfold m_strings_genSplit
  refine bind_eq (x := (((s.count 47 : Nat) : Int), ())) rfl ?_
  have hcl : s.count 47 ≤ s.length := List.count_le_length
  dsimp only
  rw [wr ((s.length : Int) + 1) (by omega), wr (((s.count 47 : Nat) : Int) + 1) (by omega), if_neg (show ¬((s.length : Int) + 1 < ((s.count 47 : Nat) : Int) + 1) by omega), if_pos (by omega), wr (((s.count 47 : Nat) : Int) + 1 - 1) (by omega)]
  have hn : (((s.count 47 : Nat) : Int) + 1).toNat = s.count 47 + 1 := by omega
  rw [hn]
  refine bind_ex (loopC_some' _ (fun n t => ∃ (r : List UInt8) (i : Nat) (a : List (List UInt8)), t = ((r, (), (), ((s.count 47 : Nat) : Int) + 1 - 1, (), (i : Int), ()), a, ()) ∧ i + r.count 47 = s.count 47 ∧ r.length ≤ s.length ∧ a.length = s.count 47 + 1 ∧ a.take i ++ split r = split s ∧ n = r.length)
    (fun t => ∃ (r : List UInt8) (i : Nat) (a : List (List UInt8)), t = ((r, (), (i : Int), ()), a, ()) ∧ i ≤ s.count 47 ∧ a.length = s.count 47 + 1 ∧ a.take i ++ [r] = split s) ?_ _ s.length _ ⟨s, 0, _, rfl, by omega, by omega, by simp, rfl, rfl⟩ (by omega)) ?_
  · rintro n t k ⟨r, i, a, rfl, h1, h2, h3, h4, rfl⟩ hk
    dsimp only
    by_cases hl : i < s.count 47
    · rw [decide_eq_true (by omega), cond_true, index_eq, Option.bind_some]
      dsimp only
      rcases index_slash r with ⟨g1, g2⟩ | ⟨m, hm, g1, g2, g3⟩
      · rw [g1, decide_eq_true (by omega), cond_true]
        exact ⟨_, rfl, r, i, a, rfl, by omega, h3, by rw [g2] at h4; exact h4⟩
      · rw [g1, decide_eq_false (by omega), cond_false, wr ((m : Int) + 0) (by omega)]
        simp only [List.length_cons, List.length_nil]
        rw [show ((0 + 1 : Nat) : Int) = 1 from rfl, wr1 m (by omega), if_pos (by omega), if_pos (by omega), if_pos (by omega), if_pos (by omega), wr1 i (by omega)]
        refine hk (r.drop (m + 1)).length _ (by rw [List.length_drop]; omega) ⟨r.drop (m + 1), i + 1, a.set i (r.take m), ?_, by omega, by rw [List.length_drop]; omega, ?_, ?_, rfl⟩
        · simp only [Int.toNat_natCast, List.take_length, Int.add_zero]; rfl
        · rw [List.length_set]; exact h3
        · rw [List.take_add_one, List.take_set_of_le (by omega), ← h4, g2]
          rw [List.getElem?_set_self (by omega)]
          simp
    · rw [decide_eq_false (by omega), cond_false]
      refine ⟨_, rfl, r, i, a, rfl, by omega, h3, ?_⟩
      rcases index_slash r with ⟨g1, g2⟩ | ⟨m, hm, g1, g2, g3⟩
      · rw [g2] at h4; exact h4
      · omega
  · rintro t ⟨r, i, a, rfl, h1, h2, h3⟩
    dsimp only
    rw [if_pos (by omega), if_pos (by omega), wr1 i (by omega), if_pos (by rw [List.length_set]; omega)]
    rw [Int.toNat_natCast, Int.toNat_natCast, List.take_add_one, List.take_set_of_le (by omega), List.getElem?_set_self (by omega)]
    show some (a.take i ++ [r], ()) = _
    rw [h3]
theorem split_eq (s : List UInt8) (hs : s.length ≤ 8796093022206) : m_strings_Split s = some (split s, ()) := by
  unfold m_strings_Split; rw [genSplit_eq s hs]; rfl
def names (s : List UInt8) : List (List UInt8) := if s.length ≤ 168 ∧ (split s).length ≤ 8 ∧ (split s).all nameOk = true then split s else []
def pathOk (s : List UInt8) : Bool := decide (s.length ≤ 168) && (decide ((split s).length ≤ 8) && (split s).all nameOk)
theorem names_ok (s : List UInt8) : names s = if pathOk s then split s else [] := by
  unfold names pathOk
  by_cases h1 : s.length ≤ 168 <;> by_cases h2 : (split s).length ≤ 8 <;> by_cases h3 : (split s).all nameOk = true <;> simp [h1, h2, h3]
theorem split_mem_len (s : List UInt8) : ∀ x ∈ split s, x.length ≤ s.length := by
  induction s with
  | nil => intro x hx; simp [split] at hx; subst hx; simp
  | cons c r ih =>
    intro x hx
    by_cases hc : c = 47
    · rw [split_slash hc] at hx
      rcases List.mem_cons.1 hx with rfl | hx
      · simp
      · have := ih x hx; simp; omega
    · rw [split_other hc] at hx
      unfold prep at hx
      rcases hsp : split r with _ | ⟨a, b⟩
      · exact absurd hsp (split_ne _)
      · rw [hsp] at hx ih
        rcases List.mem_cons.1 hx with rfl | hx
        · have := ih a (by simp); simp; omega
        · have := ih x (by simp [hx]); simp; omega
/-- Names of at most twenty bytes, at most eight: the text is of at most 167. -/
theorem split_sum (s : List UInt8) : s.length + 1 = ((split s).map (fun x => x.length + 1)).sum := by
  induction s with
  | nil => rfl
  | cons c r ih =>
    by_cases hc : c = 47
    · rw [split_slash hc]; simp at ih ⊢; omega
    · rw [split_other hc]; unfold prep
      rcases hsp : split r with _ | ⟨a, b⟩
      · exact absurd hsp (split_ne _)
      · rw [hsp] at ih; simp at ih ⊢; omega
theorem sum_le {l : List (List UInt8)} (h : l.all nameOk = true) : (l.map (fun x => x.length + 1)).sum ≤ 21 * l.length := by
  induction l with
  | nil => simp
  | cons a t ih =>
    rw [List.all_cons, Bool.and_eq_true] at h
    have := ih h.2
    have h1 := h.1
    unfold nameOk at h1
    simp only [Bool.and_eq_true, decide_eq_true_eq] at h1
    simp; omega
theorem path_len {s : List UInt8} (h1 : (split s).length ≤ 8) (h2 : (split s).all nameOk = true) : s.length ≤ 167 := by
  have := split_sum s; have := sum_le h2; omega
theorem spec_pathOk (s : List UInt8) : m_spec_PathOk s = some (pathOk s, ()) := by
  unfold m_spec_PathOk
  by_cases hs : s.length ≤ 200
  · rw [decide_eq_false (by omega), cond_false, spec_names s (by omega), Option.bind_some]
    have hl := split_len s
    refine joinC_of (loopC_inv _ (fun n t => ∃ i : Nat, t = ((split s, (i : Int), ()), ()) ∧ i ≤ (split s).length ∧ n = (split s).length - i)
          (fun t => some (if ((split s).drop t.1.2.1.toNat).all nameOk then .inl ((split s, ()), ()) else .inr (false, ()))) ?_ _ (split s).length _ ⟨0, rfl, by omega, rfl⟩ (by show _ < (split s).length + _ + _; omega)) ?_
    · rintro n t k ⟨i, rfl, hi, rfl⟩ hk
      dsimp only
      by_cases hl2 : i < (split s).length
      · rw [decide_eq_true (by omega), cond_true, if_pos (by omega), Int.toNat_natCast, all_drop nameOk (nilOf UInt8) hl2]
        have hm : ((split s).getD i (nilOf UInt8)).length ≤ s.length := by
          rw [List.getD_eq_getElem?_getD, List.getElem?_eq_getElem hl2]; exact split_mem_len s _ (List.getElem_mem hl2)
        rw [spec_nameOk _ (by omega), Option.bind_some]
        dsimp only
        cases nameOk ((split s).getD i (nilOf UInt8)) with
        | false => rfl
        | true =>
          show k _ = _
          rw [wr1 i (by omega)]
          exact hk ((split s).length - (i + 1)) _ (by omega) ⟨i + 1, rfl, by omega, rfl⟩
      · rw [decide_eq_false (by omega), cond_false, Int.toNat_natCast, List.drop_eq_nil_of_le (by omega)]
        rfl
    · show joinC (some (if ((split s).drop 0).all nameOk = true then _ else _)) _ = _
      rw [List.drop_zero]
      unfold pathOk
      cases h2 : (split s).all nameOk with
      | false => simp; rfl
      | true =>
        show some (decide (((split s).length : Int) ≤ 8), ()) = _
        by_cases h1 : (split s).length ≤ 8
        · have := path_len h1 h2
          rw [decide_eq_true (by omega), decide_eq_true (by omega), decide_eq_true h1]; rfl
        · rw [decide_eq_false (by omega), decide_eq_false h1]; simp
  · rw [decide_eq_true (by omega), cond_true]
    unfold pathOk
    rw [decide_eq_false (by omega), Bool.false_and]
theorem impl_names (s : List UInt8) : m_impl_Names s = some (names s, ()) := by
  unfold m_impl_Names
  by_cases hs : s.length ≤ 168
  · rw [decide_eq_false (by omega), cond_false, split_eq s (by omega), Option.bind_some]
    have hl := split_len s
    dsimp only
    by_cases h1 : (split s).length ≤ 8
    · rw [decide_eq_false (by omega), cond_false]
      refine joinC_of (loopC_inv _ (fun n t => ∃ i : Nat, t = ((split s, split s, ((split s).length : Int), (i : Int), ()), ()) ∧ i ≤ (split s).length ∧ n = (split s).length - i)
          (fun t => some (if ((split s).drop t.1.2.2.2.1.toNat).all nameOk then .inl ((split s, ()), ()) else .inr ([], ()))) ?_ _ (split s).length _ ⟨0, rfl, by omega, rfl⟩ (by omega)) ?_
      · rintro n t k ⟨i, rfl, hi, rfl⟩ hk
        dsimp only
        by_cases hl2 : i < (split s).length
        · rw [decide_eq_true (by omega), cond_true, if_pos (by omega), Int.toNat_natCast, all_drop nameOk (nilOf UInt8) hl2]
          have hm : ((split s).getD i (nilOf UInt8)).length ≤ s.length := by
            rw [List.getD_eq_getElem?_getD, List.getElem?_eq_getElem hl2]; exact split_mem_len s _ (List.getElem_mem hl2)
          rw [impl_nameOk _ (by omega), Option.bind_some]
          dsimp only
          cases nameOk ((split s).getD i (nilOf UInt8)) with
          | false => rfl
          | true =>
            show k _ = _
            rw [wr1 i (by omega)]
            exact hk ((split s).length - (i + 1)) _ (by omega) ⟨i + 1, rfl, by omega, rfl⟩
        · rw [decide_eq_false (by omega), cond_false, Int.toNat_natCast, List.drop_eq_nil_of_le (by omega)]
          rfl
      · show joinC (some (if ((split s).drop 0).all nameOk = true then _ else _)) _ = _
        rw [List.drop_zero]
        unfold names
        cases h2 : (split s).all nameOk with
        | false => simp; rfl
        | true => rw [if_pos (show s.length ≤ 168 ∧ (split s).length ≤ 8 ∧ true = true from And.intro hs (And.intro h1 rfl))]; rfl
    · rw [decide_eq_true (by omega), cond_true]
      unfold names
      rw [if_neg (fun h => h1 h.2.1)]
  · rw [decide_eq_true (by omega), cond_true]
    unfold names
    rw [if_neg (fun h => hs h.1)]
theorem impl_pathOk (s : List UInt8) : m_impl_PathOk s = some (pathOk s, ()) := by
  unfold m_impl_PathOk
  rw [impl_names, Option.bind_some, names_ok]
  cases pathOk s with
  | false => rfl
  | true =>
    show some (decide (((split s).length : Int) > 0), ()) = _
    rw [decide_eq_true (by have := List.length_pos_iff.2 (split_ne s); omega)]
section
variable {α : Type}
theorem getD_mem {l : List α} {i : Nat} (d : α) (h : i < l.length) : l.getD i d ∈ l := by
  rw [List.getD_eq_getElem?_getD, List.getElem?_eq_getElem h]; exact List.getElem_mem h
theorem drop_getD {l : List α} {i : Nat} (d : α) (h : i < l.length) : l.drop i = l.getD i d :: l.drop (i + 1) := by
  rw [List.drop_eq_getElem_cons h, List.getD_eq_getElem?_getD, List.getElem?_eq_getElem h]; rfl
end
abbrev OptsT := Bool × (Bool × (Bool × (Bool × (Bool × (Bool × (Bool × (Bool × (Bool × (Bool × (Bool × (Bool × (Bool × (Int × (Bool × (List UInt8 × List UInt8)))))))))))))))
def sufOk (s : List UInt8) : Bool := s == [] || (decide (s.length ≤ 8) && nameOk ([120] ++ s))
theorem spec_suffix (s : List UInt8) (hs : s.length ≤ 1048576) : m_spec_l11Suffix s = some (sufOk s, ()) := by
  unfold m_spec_l11Suffix sufOk
  simp only [nilOf]
  cases s == [] with
  | true => rfl
  | false =>
    simp only [cond_false, Bool.false_or]
    by_cases h : s.length ≤ 8
    · rw [decide_eq_true (by omega), decide_eq_true h, cond_true, if_pos (by show 1 + s.length < 9223372036854775808; omega), spec_nameOk _ (by simp; omega)]
      simp
    · rw [decide_eq_false (by omega), decide_eq_false h]; rfl
theorem impl_suffix (s : List UInt8) (hs : s.length ≤ 1048576) (hn : (s == []) = false) : m_impl_isSuffix s = some (sufOk s, ()) := by
  unfold m_impl_isSuffix sufOk
  rw [within_eq, Option.bind_some, hn, Bool.false_or]
  have h0 : 1 ≤ s.length := by
    rcases s with _ | ⟨a, b⟩
    · simp at hn
    · simp
  dsimp only
  rw [decide_eq_true (by omega), Bool.true_and]
  by_cases h : s.length ≤ 8
  · rw [decide_eq_true (by omega), decide_eq_true h, cond_true, if_pos (by show 1 + s.length < 9223372036854775808; omega), impl_nameOk _ (by simp; omega)]
    simp
  · rw [decide_eq_false (by omega), decide_eq_false h]; rfl
def optsOk : OptsT → Bool
  | (r, _, _, _, _, ck, so, _, _, _, _, _, _, del, bk, suf, dir) =>
    (decide (del ≥ 0) && decide (del ≤ 3)) && (!(!(del == 0) && !r) && (!(ck && so) && (cond bk (sufOk suf && ((dir == [] || pathOk dir) && !(suf == [] && dir == []))) (suf == [] && dir == []))))
theorem app_nil (a b : List UInt8) : (a ++ b == []) = (a == [] && b == []) := by cases a <;> cases b <;> rfl
theorem spec_optsOk (o : OptsT) (h1 : o.2.2.2.2.2.2.2.2.2.2.2.2.2.2.2.1.length ≤ 1048576) (h2 : o.2.2.2.2.2.2.2.2.2.2.2.2.2.2.2.2.length ≤ 1048576) : m_spec_OptsOk o = some (optsOk o, ()) := by
  obtain ⟨r, l, p, t, hd, ck, so, dry, wh, up, ex, ig, fz, del, bk, suf, dir⟩ := o
  dsimp only at h1 h2
  unfold m_spec_OptsOk optsOk
  simp only [in_eq, Option.bind_some, bne, nilOf]
  refine bind_eq (x := (((), !((decide (del ≥ 0) && decide (del ≤ 3)) && (!(!(del == 0) && !r) && !(ck && so))), ()), (r, l, p, t, hd, ck, so, dry, wh, up, ex, ig, fz, del, bk, suf, dir, ()), ())) ?_ ?_
  · cases (decide (del ≥ 0) && decide (del ≤ 3)) <;> cases del == 0 <;> cases r <;> cases ck <;> cases so <;> rfl
  · dsimp only
    have e : ((decide (del ≥ 0) && decide (del ≤ 3)) && (!(!(del == 0) && !r) && (!(ck && so) && (cond bk (sufOk suf && ((dir == [] || pathOk dir) && !(suf == [] && dir == []))) (suf == [] && dir == []))))) = (((decide (del ≥ 0) && decide (del ≤ 3)) && (!(!(del == 0) && !r) && !(ck && so))) && (cond bk (sufOk suf && ((dir == [] || pathOk dir) && !(suf == [] && dir == []))) (suf == [] && dir == []))) := by
      simp only [Bool.and_assoc]
    rw [e]
    cases ((decide (del ≥ 0) && decide (del ≤ 3)) && (!(!(del == 0) && !r) && !(ck && so))) with
    | false => rfl
    | true =>
      simp only [Bool.not_true, cond_false, Bool.true_and]
      cases bk with
      | false =>
        simp only [Bool.not_false, cond_true, cond_false]
        cases suf == [] <;> rfl
      | true =>
        simp only [Bool.not_true, cond_true, cond_false]
        rw [spec_suffix _ h1, Option.bind_some]
        dsimp only
        cases sufOk suf with
        | false => rfl
        | true =>
          have hl : suf.length + dir.length < 2 ^ 63 := by show _ < 9223372036854775808; omega
          simp only [cond_true, Bool.true_and, if_pos hl, app_nil, spec_pathOk, Option.bind_some]
          cases dir == [] <;> cases pathOk dir <;> rfl
theorem impl_optsOk (o : OptsT) (h1 : o.2.2.2.2.2.2.2.2.2.2.2.2.2.2.2.1.length ≤ 1048576) (h2 : o.2.2.2.2.2.2.2.2.2.2.2.2.2.2.2.2.length ≤ 1048576) : m_impl_OptsOk o = some (optsOk o, ()) := by
  obtain ⟨r, l, p, t, hd, ck, so, dry, wh, up, ex, ig, fz, del, bk, suf, dir⟩ := o
  dsimp only at h1 h2
  unfold m_impl_OptsOk optsOk
  simp only [within_eq, Option.bind_some, bne, nilOf]
  refine bind_eq (x := (((), !((decide (del ≥ 0) && decide (del ≤ 3)) && (!(!(del == 0) && !r) && !(ck && so))), ()), (r, l, p, t, hd, ck, so, dry, wh, up, ex, ig, fz, del, bk, suf, dir, ()), ())) ?_ ?_
  · cases (decide (del ≥ 0) && decide (del ≤ 3)) <;> cases del == 0 <;> cases r <;> cases ck <;> cases so <;> rfl
  · dsimp only
    have e : ((decide (del ≥ 0) && decide (del ≤ 3)) && (!(!(del == 0) && !r) && (!(ck && so) && (cond bk (sufOk suf && ((dir == [] || pathOk dir) && !(suf == [] && dir == []))) (suf == [] && dir == []))))) = (((decide (del ≥ 0) && decide (del ≤ 3)) && (!(!(del == 0) && !r) && !(ck && so))) && (cond bk (sufOk suf && ((dir == [] || pathOk dir) && !(suf == [] && dir == []))) (suf == [] && dir == []))) := by
      simp only [Bool.and_assoc]
    rw [e]
    cases ((decide (del ≥ 0) && decide (del ≤ 3)) && (!(!(del == 0) && !r) && !(ck && so))) with
    | false => rfl
    | true =>
      simp only [Bool.not_true, cond_false, Bool.true_and]
      cases bk with
      | false =>
        simp only [Bool.not_false, cond_true, cond_false]
        cases suf == [] <;> rfl
      | true =>
        simp only [Bool.not_true, cond_true, cond_false, impl_pathOk, Option.bind_some]
        cases hsn : suf == [] with
        | true =>
          have : sufOk suf = true := by unfold sufOk; rw [hsn]; rfl
          rw [this]
          cases dir == [] <;> cases pathOk dir <;> rfl
        | false =>
          rw [impl_suffix _ h1 hsn]
          simp only [Option.bind_some, cond_false]
          cases sufOk suf <;> cases dir == [] <;> cases pathOk dir <;> rfl
theorem szOpts_eq (o : OptsT) (n : Int) (hn : 0 ≤ n ∧ n ≤ 1048576) (h1 : o.2.2.2.2.2.2.2.2.2.2.2.2.2.2.2.1.length ≤ 9223372036854775807) (h2 : o.2.2.2.2.2.2.2.2.2.2.2.2.2.2.2.2.length ≤ 9223372036854775807) :
    ∃ m, m_laws_szOpts o n = some (m, ()) ∧ (0 ≤ m → m = n - o.2.2.2.2.2.2.2.2.2.2.2.2.2.2.2.1.length - o.2.2.2.2.2.2.2.2.2.2.2.2.2.2.2.2.length) := by
  unfold m_laws_szOpts
  rw [wr (n - _) (by omega)]
  by_cases q1 : n - (o.2.2.2.2.2.2.2.2.2.2.2.2.2.2.2.1.length : Int) < 0
  · rw [decide_eq_true q1]; exact ⟨_, rfl, fun h => by omega⟩
  · rw [decide_eq_false q1, cond_false, wr _ (by omega)]
    by_cases q2 : n - (o.2.2.2.2.2.2.2.2.2.2.2.2.2.2.2.1.length : Int) - (o.2.2.2.2.2.2.2.2.2.2.2.2.2.2.2.2.length : Int) < 0
    · rw [decide_eq_true q2]; exact ⟨_, rfl, fun h => by omega⟩
    · rw [decide_eq_false q2]; exact ⟨_, rfl, fun _ => rfl⟩
theorem toOpts_eq (o : OptsT) : m_laws_toOpts o = some (o, ()) := rfl
set_option maxRecDepth 20000
def picks (l : List (UInt8 × Bool)) : List UInt8 := (l.filter (·.2)).map (·.1)
def flagsOf : OptsT → List (UInt8 × Bool)
  | (a0, a1, a2, a3, a4, a5, a6, a7, a8, a9, a10, a11, a12, d, a14, s, p) =>
    [(114, a0), (108, a1), (112, a2), (116, a3), (72, a4), (99, a5), (110, a7), (87, a8), (117, a9), (121, a12), (98, a14)]
def lettersOf (o : OptsT) : List UInt8 := bif o.1 && (o.2.1 && (o.2.2.1 && o.2.2.2.1)) then 97 :: picks ((flagsOf o).drop 4) else picks (flagsOf o)
def delW (d : Int) : List UInt8 := if d = 1 then [45, 45, 100, 101, 108, 101, 116, 101, 45, 98, 101, 102, 111, 114, 101] else if d = 2 then [45, 45, 100, 101, 108, 101, 116, 101] else [45, 45, 100, 101, 108, 101, 116, 101, 45, 97, 102, 116, 101, 114]
def addW (b : Bool) (w : List UInt8) (l : List (List UInt8)) : List (List UInt8) := bif b then l ++ [w] else l
def wordsOf : OptsT → List (List UInt8)
  | (a0, a1, a2, a3, a4, a5, a6, a7, a8, a9, a10, a11, a12, d, a14, s, p) =>
    addW (!p == []) ([45, 45, 98, 97, 99, 107, 117, 112, 45, 100, 105, 114, 61] ++ p)
    (addW (!s == [] && !(s == [46, 98, 97, 107] && p == [])) ([45, 45, 115, 117, 102, 102, 105, 120, 61] ++ s)
    (addW (d != 0) (delW d)
    (addW a11 [45, 45, 105, 103, 110, 111, 114, 101, 45, 101, 120, 105, 115, 116, 105, 110, 103]
    (addW a10 [45, 45, 101, 120, 105, 115, 116, 105, 110, 103]
    (addW a6 [45, 45, 115, 105, 122, 101, 45, 111, 110, 108, 121]
    (addW (!lettersOf (a0, a1, a2, a3, a4, a5, a6, a7, a8, a9, a10, a11, a12, d, a14, s, p) == []) (45 :: lettersOf (a0, a1, a2, a3, a4, a5, a6, a7, a8, a9, a10, a11, a12, d, a14, s, p)) []))))))
def showP (o : OptsT) : List UInt8 := if optsOk o then Go.Lib.join (wordsOf o) [32] else []
/-- One step of adding a word. -/
theorem add_eq (b : Bool) (w : List UInt8) (l : List (List UInt8)) (h : l.length ≤ 1000) : m_impl_ShowOpts_1 b w ((), ()) l = some ((), ((), ()), addW b w l, ()) := by
  unfold m_impl_ShowOpts_1
  cases b
  · rfl
  · simp only [cond_true, List.length_cons, List.length_nil]
    rw [if_pos (by omega)]; rfl
set_option maxRecDepth 20000
theorem optsOk_del {a0 a1 a2 a3 a4 a5 a6 a7 a8 a9 a10 a11 a12 : Bool} {d : Int} {a14 : Bool} {s p : List UInt8} (h : optsOk (a0, a1, a2, a3, a4, a5, a6, a7, a8, a9, a10, a11, a12, d, a14, s, p) = true) :
    (0 ≤ d ∧ d ≤ 3) ∧ s.length ≤ 8 ∧ p.length ≤ 168 := by
  unfold optsOk at h
  simp only [Bool.and_eq_true, decide_eq_true_eq] at h
  obtain ⟨⟨h1, h2⟩, _, _, h5⟩ := h
  refine ⟨⟨h1, h2⟩, ?_⟩
  cases a14
  · simp only [cond_false, Bool.and_eq_true, beq_iff_eq] at h5
    rw [h5.1, h5.2]; simp
  · simp only [cond_true, Bool.and_eq_true, Bool.or_eq_true, beq_iff_eq] at h5
    obtain ⟨q1, q2, _⟩ := h5
    unfold sufOk at q1
    simp only [Bool.or_eq_true, beq_iff_eq, Bool.and_eq_true, decide_eq_true_eq] at q1
    refine ⟨?_, ?_⟩
    · rcases q1 with rfl | q1
      · simp
      · exact q1.1
    · rcases q2 with rfl | q2
      · simp
      · unfold pathOk at q2
        simp only [Bool.and_eq_true, decide_eq_true_eq] at q2
        exact q2.1
theorem add_len (b : Bool) (w : List UInt8) (l : List (List UInt8)) (n : Nat) (h : l.length ≤ n) : (addW b w l).length ≤ n + 1 := by
  unfold addW; cases b
  · simp only [cond_false]; omega
  · simp only [cond_true, List.length_append, List.length_cons, List.length_nil]; omega
theorem add_all (b : Bool) (w : List UInt8) (l : List (List UInt8)) (hw : w.length ≤ 300) (h : ∀ x ∈ l, x.length ≤ 300) : ∀ x ∈ addW b w l, x.length ≤ 300 := by
  unfold addW; cases b
  · exact h
  · intro x hx
    simp only [cond_true, List.mem_append, List.mem_singleton] at hx
    rcases hx with hx | rfl
    · exact h x hx
    · exact hw
def joinB : List (List UInt8) → List UInt8
  | [] => []
  | [a] => a
  | a :: b :: r => a ++ 32 :: joinB (b :: r)
theorem joinB_eq : ∀ l : List (List UInt8), Go.Lib.join l [32] = joinB l
  | [] => rfl
  | [a] => by simp [Go.Lib.join, List.intercalate, joinB]
  | a :: b :: r => by
    have := joinB_eq (b :: r)
    simp only [Go.Lib.join, List.intercalate] at this ⊢
    rw [show List.intersperse [32] (a :: b :: r) = a :: [32] :: List.intersperse [32] (b :: r) from rfl]
    simp only [List.flatten_cons, this, joinB]
    rfl
theorem joinB_len : ∀ l : List (List UInt8), (∀ x ∈ l, x.length ≤ 300) → (joinB l).length ≤ 301 * l.length
  | [], _ => by simp [joinB]
  | [a], h => by have := h a (by simp); simp [joinB]; omega
  | a :: b :: r, h => by
    have h1 := h a (by simp)
    have h2 := joinB_len (b :: r) (fun x hx => h x (by simp at hx ⊢; exact .inr hx))
    simp only [joinB, List.length_append, List.length_cons] at h2 ⊢
    omega
theorem picks_len (l : List (UInt8 × Bool)) : (picks l).length ≤ l.length := by
  unfold picks; rw [List.length_map]; exact List.length_filter_le ..
theorem letters_len (o : OptsT) : (lettersOf o).length ≤ 12 := by
  have h1 := picks_len (flagsOf o)
  have h2 := picks_len ((flagsOf o).drop 4)
  have h3 : (flagsOf o).length = 11 := rfl
  unfold lettersOf
  cases o.1 && (o.2.1 && (o.2.2.1 && o.2.2.2.1))
  · simp only [cond_false]; omega
  · simp only [cond_true, List.length_cons]; rw [List.length_drop] at h2; omega
theorem delW_len (d : Int) : (delW d).length ≤ 300 := by unfold delW; (split <;> try split) <;> simp
theorem wordsOf_len (o : OptsT) (hs : o.2.2.2.2.2.2.2.2.2.2.2.2.2.2.2.1.length ≤ 8) (hp : o.2.2.2.2.2.2.2.2.2.2.2.2.2.2.2.2.length ≤ 168) : (wordsOf o).length ≤ 7 ∧ ∀ x ∈ wordsOf o, x.length ≤ 300 := by
  obtain ⟨a0, a1, a2, a3, a4, a5, a6, a7, a8, a9, a10, a11, a12, d, a14, s, p⟩ := o
  have hl := letters_len (a0, a1, a2, a3, a4, a5, a6, a7, a8, a9, a10, a11, a12, d, a14, s, p)
  refine ⟨add_len _ _ _ _ (add_len _ _ _ _ (add_len _ _ _ _ (add_len _ _ _ _ (add_len _ _ _ _ (add_len _ _ _ _ (add_len _ _ _ 0 (by simp))))))), ?_⟩
  dsimp only at hs hp
  refine add_all _ _ _ (by simp; omega) (add_all _ _ _ (by simp; omega) (add_all _ _ _ (delW_len d) (add_all _ _ _ (by simp) (add_all _ _ _ (by simp) (add_all _ _ _ (by simp) (add_all _ _ _ (by simp; omega) (by simp)))))))
theorem words_ne {L : List UInt8} : ((45 : UInt8) :: L == [45]) = (L == []) := by cases L <;> simp
theorem getWords (d : Int) (h0 : 0 ≤ d) (h3 : d ≤ 3) (l : List (List UInt8)) :
    addW (d != 0) (List.getD [nilOf UInt8, [45, 45, 100, 101, 108, 101, 116, 101, 45, 98, 101, 102, 111, 114, 101], [45, 45, 100, 101, 108, 101, 116, 101], [45, 45, 100, 101, 108, 101, 116, 101, 45, 97, 102, 116, 101, 114]] d.toNat (nilOf UInt8)) l = addW (d != 0) (delW d) l := by
  rcases (by omega : d = 0 ∨ d = 1 ∨ d = 2 ∨ d = 3) with rfl | rfl | rfl | rfl <;> rfl
theorem impl_showOpts (o : OptsT) (h1 : o.2.2.2.2.2.2.2.2.2.2.2.2.2.2.2.1.length ≤ 1048576) (h2 : o.2.2.2.2.2.2.2.2.2.2.2.2.2.2.2.2.length ≤ 1048576) : m_impl_ShowOpts o = some (showP o, ()) := by
  obtain ⟨a0, a1, a2, a3, a4, a5, a6, a7, a8, a9, a10, a11, a12, d, a14, s, p⟩ := o
  unfold m_impl_ShowOpts showP
  refine bind_eq (impl_optsOk _ h1 h2) ?_
  dsimp only
  cases hok : optsOk (a0, a1, a2, a3, a4, a5, a6, a7, a8, a9, a10, a11, a12, d, a14, s, p)
  · rfl
  obtain ⟨⟨hd0, hd3⟩, hs8, hp⟩ := optsOk_del hok
  simp only [Bool.not_true, cond_false, if_true]
  refine bind_eq (x := (((), ((a0, a1, a2, a3, a4, a5, a6, a7, a8, a9, a10, a11, a12, d, a14, s, p, ()), (114, (), 108, (), 112, (), 116, (), 72, (), 99, (), 110, (), 87, (), 117, (), 121, (), 98, (), ()), ())))) rfl ?_
  dsimp only
  refine bind_eq (x := (((), (), [45], a0 && (a1 && (a2 && a3)), ()), (a0, a1, a2, a3, a4, a5, a6, a7, a8, a9, a10, a11, a12, d, a14, s, p, ()), (114, (), 108, (), 112, (), 116, (), 72, (), 99, (), 110, (), 87, (), 117, (), 121, (), 98, (), ()), ())) (by cases a0 <;> cases a1 <;> cases a2 <;> rfl) ?_
  dsimp only
  have hlet : lettersOf (a0, a1, a2, a3, a4, a5, a6, a7, a8, a9, a10, a11, a12, d, a14, s, p) = bif a0 && (a1 && (a2 && a3)) then 97 :: picks ((flagsOf (a0, a1, a2, a3, a4, a5, a6, a7, a8, a9, a10, a11, a12, d, a14, s, p)).drop 4) else picks (flagsOf (a0, a1, a2, a3, a4, a5, a6, a7, a8, a9, a10, a11, a12, d, a14, s, p)) := rfl
  have hll := letters_len (a0, a1, a2, a3, a4, a5, a6, a7, a8, a9, a10, a11, a12, d, a14, s, p)
  have hwl := wordsOf_len (a0, a1, a2, a3, a4, a5, a6, a7, a8, a9, a10, a11, a12, d, a14, s, p) hs8 hp
  generalize hall : (a0 && (a1 && (a2 && a3))) = all at hlet ⊢
  refine bind_eq (x := (((), (bif all then (8, 7) else (0, 11)), (bif all then [45, 97] else [45]), ()), (a0, a1, a2, a3, a4, a5, a6, a7, a8, a9, a10, a11, a12, d, a14, s, p, ()), (114, (), 108, (), 112, (), 116, (), 72, (), 99, (), 110, (), 87, (), 117, (), 121, (), 98, (), ()), ())) (by cases all <;> rfl) ?_
  dsimp only
  refine bind_eq (x := (((), 45 :: lettersOf (a0, a1, a2, a3, a4, a5, a6, a7, a8, a9, a10, a11, a12, d, a14, s, p), ()), (a0, a1, a2, a3, a4, a5, a6, a7, a8, a9, a10, a11, a12, d, a14, s, p, ()), ())) ?_ ?_
  · rw [hlet]
    cases all
    · simp only [cond_false]
      refine (loopC_inv _ (fun n t => ∃ (i : Nat) (acc : List UInt8), i ≤ 11 ∧ n = 11 - i ∧ acc.length ≤ i + 2 ∧ t = (((), acc, (0, 11), 11, (i : Int), ()), (a0, a1, a2, a3, a4, a5, a6, a7, a8, a9, a10, a11, a12, d, a14, s, p, ()), (114, (), 108, (), 112, (), 116, (), 72, (), 99, (), 110, (), 87, (), 117, (), 121, (), 98, (), ()), ()))
        (fun t => some (((), t.1.2.1 ++ picks ((flagsOf (a0, a1, a2, a3, a4, a5, a6, a7, a8, a9, a10, a11, a12, d, a14, s, p)).drop t.1.2.2.2.2.1.toNat), ()), (a0, a1, a2, a3, a4, a5, a6, a7, a8, a9, a10, a11, a12, d, a14, s, p, ()), ())) ?_ _ 11 _ ⟨0, [45], by omega, by omega, by simp, rfl⟩ (by omega)).trans ?_
      · rintro n t k ⟨i, acc, hi, rfl, hl, rfl⟩ hk
        have step : ∀ (j : Nat) (acc' : List UInt8), i < j → j ≤ 11 → acc'.length ≤ j + 2 → k (((), acc', (0, 11), 11, (j : Int), ()), (a0, a1, a2, a3, a4, a5, a6, a7, a8, a9, a10, a11, a12, d, a14, s, p, ()), (114, (), 108, (), 112, (), 116, (), 72, (), 99, (), 110, (), 87, (), 117, (), 121, (), 98, (), ()), ()) = _ :=
          fun j acc' h1 h2 h3 => hk (11 - j) _ (by omega) ⟨j, acc', h2, rfl, h3, rfl⟩
        have hlt : acc.length + 1 < 2 ^ 63 := by omega
        have hcase : i = 0 ∨ i = 1 ∨ i = 2 ∨ i = 3 ∨ i = 4 ∨ i = 5 ∨ i = 6 ∨ i = 7 ∨ i = 8 ∨ i = 9 ∨ i = 10 ∨ i = 11 := by omega
        rcases hcase with rfl | rfl | rfl | rfl | rfl | rfl | rfl | rfl | rfl | rfl | rfl | rfl
        · cases a0
          · exact (step 1 acc (by omega) (by omega) (by omega)).trans (by simp [flagsOf, picks])
          · refine Eq.trans ?_ ((step 1 (acc ++ [114]) (by omega) (by omega) (by simp; omega)).trans ?_)
            · simp [hlt, wr]
            · simp [flagsOf, picks]
        · cases a1
          · exact (step 2 acc (by omega) (by omega) (by omega)).trans (by simp [flagsOf, picks])
          · refine Eq.trans ?_ ((step 2 (acc ++ [108]) (by omega) (by omega) (by simp; omega)).trans ?_)
            · simp [hlt, wr]
            · simp [flagsOf, picks]
        · cases a2
          · exact (step 3 acc (by omega) (by omega) (by omega)).trans (by simp [flagsOf, picks])
          · refine Eq.trans ?_ ((step 3 (acc ++ [112]) (by omega) (by omega) (by simp; omega)).trans ?_)
            · simp [hlt, wr]
            · simp [flagsOf, picks]
        · cases a3
          · exact (step 4 acc (by omega) (by omega) (by omega)).trans (by simp [flagsOf, picks])
          · refine Eq.trans ?_ ((step 4 (acc ++ [116]) (by omega) (by omega) (by simp; omega)).trans ?_)
            · simp [hlt, wr]
            · simp [flagsOf, picks]
        · cases a4
          · exact (step 5 acc (by omega) (by omega) (by omega)).trans (by simp [flagsOf, picks])
          · refine Eq.trans ?_ ((step 5 (acc ++ [72]) (by omega) (by omega) (by simp; omega)).trans ?_)
            · simp [hlt, wr]
            · simp [flagsOf, picks]
        · cases a5
          · exact (step 6 acc (by omega) (by omega) (by omega)).trans (by simp [flagsOf, picks])
          · refine Eq.trans ?_ ((step 6 (acc ++ [99]) (by omega) (by omega) (by simp; omega)).trans ?_)
            · simp [hlt, wr]
            · simp [flagsOf, picks]
        · cases a7
          · exact (step 7 acc (by omega) (by omega) (by omega)).trans (by simp [flagsOf, picks])
          · refine Eq.trans ?_ ((step 7 (acc ++ [110]) (by omega) (by omega) (by simp; omega)).trans ?_)
            · simp [hlt, wr]
            · simp [flagsOf, picks]
        · cases a8
          · exact (step 8 acc (by omega) (by omega) (by omega)).trans (by simp [flagsOf, picks])
          · refine Eq.trans ?_ ((step 8 (acc ++ [87]) (by omega) (by omega) (by simp; omega)).trans ?_)
            · simp [hlt, wr]
            · simp [flagsOf, picks]
        · cases a9
          · exact (step 9 acc (by omega) (by omega) (by omega)).trans (by simp [flagsOf, picks])
          · refine Eq.trans ?_ ((step 9 (acc ++ [117]) (by omega) (by omega) (by simp; omega)).trans ?_)
            · simp [hlt, wr]
            · simp [flagsOf, picks]
        · cases a12
          · exact (step 10 acc (by omega) (by omega) (by omega)).trans (by simp [flagsOf, picks])
          · refine Eq.trans ?_ ((step 10 (acc ++ [121]) (by omega) (by omega) (by simp; omega)).trans ?_)
            · simp [hlt, wr]
            · simp [flagsOf, picks]
        · cases a14
          · exact (step 11 acc (by omega) (by omega) (by omega)).trans (by simp [flagsOf, picks])
          · refine Eq.trans ?_ ((step 11 (acc ++ [98]) (by omega) (by omega) (by simp; omega)).trans ?_)
            · simp [hlt, wr]
            · simp [flagsOf, picks]
        · simp [flagsOf, picks]
      · simp [picks]
    · simp only [cond_true]
      generalize hfl : (flagsOf (a0, a1, a2, a3, a4, a5, a6, a7, a8, a9, a10, a11, a12, d, a14, s, p)).drop 4 = fl4
      have hfl' := hfl
      unfold flagsOf at hfl'
      simp only [List.drop_succ_cons, List.drop_zero] at hfl'
      rw [← hfl]
      refine (loopC_inv _ (fun n t => ∃ (i : Nat) (acc : List UInt8), i ≤ 7 ∧ n = 7 - i ∧ acc.length ≤ i + 2 ∧ t = (((), acc, (8, 7), 7, (i : Int), ()), (a0, a1, a2, a3, a4, a5, a6, a7, a8, a9, a10, a11, a12, d, a14, s, p, ()), (114, (), 108, (), 112, (), 116, (), 72, (), 99, (), 110, (), 87, (), 117, (), 121, (), 98, (), ()), ()))
        (fun t => some (((), t.1.2.1 ++ picks (((flagsOf (a0, a1, a2, a3, a4, a5, a6, a7, a8, a9, a10, a11, a12, d, a14, s, p)).drop 4).drop t.1.2.2.2.2.1.toNat), ()), (a0, a1, a2, a3, a4, a5, a6, a7, a8, a9, a10, a11, a12, d, a14, s, p, ()), ())) ?_ _ 7 _ ⟨0, [45, 97], by omega, by omega, by simp, rfl⟩ (by omega)).trans ?_
      · rintro n t k ⟨i, acc, hi, rfl, hl, rfl⟩ hk
        have step : ∀ (j : Nat) (acc' : List UInt8), i < j → j ≤ 7 → acc'.length ≤ j + 2 → k (((), acc', (8, 7), 7, (j : Int), ()), (a0, a1, a2, a3, a4, a5, a6, a7, a8, a9, a10, a11, a12, d, a14, s, p, ()), (114, (), 108, (), 112, (), 116, (), 72, (), 99, (), 110, (), 87, (), 117, (), 121, (), 98, (), ()), ()) = _ :=
          fun j acc' h1 h2 h3 => hk (7 - j) _ (by omega) ⟨j, acc', h2, rfl, h3, rfl⟩
        have hlt : acc.length + 1 < 2 ^ 63 := by omega
        have hcase : i = 0 ∨ i = 1 ∨ i = 2 ∨ i = 3 ∨ i = 4 ∨ i = 5 ∨ i = 6 ∨ i = 7 := by omega
        rcases hcase with rfl | rfl | rfl | rfl | rfl | rfl | rfl | rfl
        · cases a4
          · exact (step 1 acc (by omega) (by omega) (by omega)).trans (by simp [flagsOf, picks])
          · refine Eq.trans ?_ ((step 1 (acc ++ [72]) (by omega) (by omega) (by simp; omega)).trans ?_)
            · simp [hlt, wr, show Nat.beq 8 0 = false from rfl, show Nat.beq 7 11 = false from rfl, show Nat.beq 8 8 = true from rfl, show Nat.beq 7 7 = true from rfl]
            · simp [flagsOf, picks]
        · cases a5
          · exact (step 2 acc (by omega) (by omega) (by omega)).trans (by simp [flagsOf, picks])
          · refine Eq.trans ?_ ((step 2 (acc ++ [99]) (by omega) (by omega) (by simp; omega)).trans ?_)
            · simp [hlt, wr, show Nat.beq 8 0 = false from rfl, show Nat.beq 7 11 = false from rfl, show Nat.beq 8 8 = true from rfl, show Nat.beq 7 7 = true from rfl]
            · simp [flagsOf, picks]
        · cases a7
          · exact (step 3 acc (by omega) (by omega) (by omega)).trans (by simp [flagsOf, picks])
          · refine Eq.trans ?_ ((step 3 (acc ++ [110]) (by omega) (by omega) (by simp; omega)).trans ?_)
            · simp [hlt, wr, show Nat.beq 8 0 = false from rfl, show Nat.beq 7 11 = false from rfl, show Nat.beq 8 8 = true from rfl, show Nat.beq 7 7 = true from rfl]
            · simp [flagsOf, picks]
        · cases a8
          · exact (step 4 acc (by omega) (by omega) (by omega)).trans (by simp [flagsOf, picks])
          · refine Eq.trans ?_ ((step 4 (acc ++ [87]) (by omega) (by omega) (by simp; omega)).trans ?_)
            · simp [hlt, wr, show Nat.beq 8 0 = false from rfl, show Nat.beq 7 11 = false from rfl, show Nat.beq 8 8 = true from rfl, show Nat.beq 7 7 = true from rfl]
            · simp [flagsOf, picks]
        · cases a9
          · exact (step 5 acc (by omega) (by omega) (by omega)).trans (by simp [flagsOf, picks])
          · refine Eq.trans ?_ ((step 5 (acc ++ [117]) (by omega) (by omega) (by simp; omega)).trans ?_)
            · simp [hlt, wr, show Nat.beq 8 0 = false from rfl, show Nat.beq 7 11 = false from rfl, show Nat.beq 8 8 = true from rfl, show Nat.beq 7 7 = true from rfl]
            · simp [flagsOf, picks]
        · cases a12
          · exact (step 6 acc (by omega) (by omega) (by omega)).trans (by simp [flagsOf, picks])
          · refine Eq.trans ?_ ((step 6 (acc ++ [121]) (by omega) (by omega) (by simp; omega)).trans ?_)
            · simp [hlt, wr, show Nat.beq 8 0 = false from rfl, show Nat.beq 7 11 = false from rfl, show Nat.beq 8 8 = true from rfl, show Nat.beq 7 7 = true from rfl]
            · simp [flagsOf, picks]
        · cases a14
          · exact (step 7 acc (by omega) (by omega) (by omega)).trans (by simp [flagsOf, picks])
          · refine Eq.trans ?_ ((step 7 (acc ++ [98]) (by omega) (by omega) (by simp; omega)).trans ?_)
            · simp [hlt, wr, show Nat.beq 8 0 = false from rfl, show Nat.beq 7 11 = false from rfl, show Nat.beq 8 8 = true from rfl, show Nat.beq 7 7 = true from rfl]
            · simp [flagsOf, picks]
        · simp [flagsOf, picks]
      · simp [picks]
  · dsimp only
    unfold wordsOf at hwl ⊢
    dsimp only at hwl ⊢
    rw [words_ne]
    generalize lettersOf (a0, a1, a2, a3, a4, a5, a6, a7, a8, a9, a10, a11, a12, d, a14, s, p) = L at hll hwl ⊢
    refine bind_eq (add_eq _ _ _ (by simp)) ?_
    refine bind_eq (add_eq _ _ _ (Nat.le_trans (add_len _ _ _ 0 (by simp)) (by omega))) ?_
    refine bind_eq (add_eq _ _ _ (Nat.le_trans (add_len _ _ _ _ (add_len _ _ _ 0 (by simp))) (by omega))) ?_
    refine bind_eq (add_eq _ _ _ (Nat.le_trans (add_len _ _ _ _ (add_len _ _ _ _ (add_len _ _ _ 0 (by simp)))) (by omega))) ?_
    refine bind_eq (x := ([nilOf UInt8, [45, 45, 100, 101, 108, 101, 116, 101, 45, 98, 101, 102, 111, 114, 101], [45, 45, 100, 101, 108, 101, 116, 101], [45, 45, 100, 101, 108, 101, 116, 101, 45, 97, 102, 116, 101, 114]], ())) rfl ?_
    dsimp only
    rw [if_pos (by simp; omega)]
    have hn : (nilOf (List UInt8)) = [] := rfl
    rw [hn]
    refine bind_eq (add_eq _ _ _ (Nat.le_trans (add_len _ _ _ _ (add_len _ _ _ _ (add_len _ _ _ _ (add_len _ _ _ 0 (by simp))))) (by omega))) ?_
    rw [getWords d hd0 hd3]
    generalize hw5 : addW (d != 0) (delW d) _ = l5
    have hl5 : l5.length ≤ 5 := by rw [← hw5]; exact add_len _ _ _ _ (add_len _ _ _ _ (add_len _ _ _ _ (add_len _ _ _ _ (add_len _ _ _ 0 (by simp)))))
    dsimp only
    refine bind_eq (x := (((), (), (), ()), (a0, a1, a2, a3, a4, a5, a6, a7, a8, a9, a10, a11, a12, d, a14, s, p, ()), ((), ()), addW (!s == [] && !(s == [46, 98, 97, 107] && p == [])) ([45, 45, 115, 117, 102, 102, 105, 120, 61] ++ s) l5, ())) ?_ ?_
    · have hlt : ([45, 45, 115, 117, 102, 102, 105, 120, 61] : List UInt8).length + s.length < 2 ^ 63 := by simp; omega
      have hn8 : nilOf UInt8 = [] := rfl
      rw [hn8]
      cases q1 : s == []
      · simp only [Bool.not_false, cond_true, Bool.true_and]
        cases q2 : s == [46, 98, 97, 107]
        · simp only [cond_false]
          rw [if_pos hlt]
          refine bind_eq (add_eq _ _ _ (by omega)) ?_
          rfl
        · simp only [cond_true]
          rw [if_pos hlt]
          refine bind_eq (add_eq _ _ _ (by omega)) ?_
          simp
      · simp only [Bool.not_true, cond_false, Bool.false_and]
        rw [if_pos hlt]
        refine bind_eq (add_eq _ _ _ (by omega)) ?_
        rfl
    dsimp only
    rw [if_pos (by simp; omega)]
    refine bind_eq (add_eq _ _ _ (Nat.le_trans (add_len _ _ _ 5 hl5) (by omega))) ?_
    have hn8 : nilOf UInt8 = [] := rfl
    rw [hn8]
    refine bind_eq (x := (_, ())) ?_ rfl
    unfold m_strings_Join joinM
    have hj := joinB_len _ hwl.2
    dsimp only

    rw [hw5] at hwl hj
    rw [if_pos ⟨by omega, by rw [joinB_eq]; omega⟩]
set_option maxRecDepth 20000
def joinT (l : List (List UInt8)) : List UInt8 := l.flatMap fun w => 32 :: w
theorem joinB_cons (a : List UInt8) : ∀ r : List (List UInt8), joinB (a :: r) = a ++ joinT r
  | [] => by simp [joinB, joinT]
  | b :: r => by
    have := joinB_cons b r
    simp only [joinB, this, joinT, List.flatMap_cons, List.cons_append]
def jt (i : Nat) (l : List (List UInt8)) : List UInt8 := if i = 0 then joinB l else joinT l
theorem wordsLoop (W : List (List UInt8)) (hW : W.length ≤ 7) (hw : ∀ x ∈ W, x.length ≤ 300) (fuel : Nat) (hf : W.length < fuel) :
    loopC fuel (fun (s : (Unit × List UInt8 × Int × Unit) × List (List UInt8) × Unit) (k : ((Unit × List UInt8 × Int × Unit) × List (List UInt8) × Unit) → Option ((List UInt8 × Unit) × Unit)) =>
      bif decide (s.1.2.2.1 < (s.2.1.length : Int)) then Option.bind (bif decide (s.1.2.2.1 > 0) then if s.1.2.1.length + ([32] : List UInt8).length < (2 : Nat) ^ (63 : Nat) then some (((), s.1.2.1 ++ [32], s.1.2.2), s.2) else none else some (((), s.1.2), s.2)) fun s =>
        if 0 ≤ s.1.2.2.1 ∧ s.1.2.2.1 < (s.2.1.length : Int) then if s.1.2.2.1.toNat < s.2.1.length then if s.1.2.1.length + (s.2.1.getD s.1.2.2.1.toNat (nilOf UInt8)).length < (2 : Nat) ^ (63 : Nat) then k (((), s.1.2.1 ++ s.2.1.getD s.1.2.2.1.toNat (nilOf UInt8), IntKind.wrap .i64 (s.1.2.2.1 + 1), ()), s.2) else none else none else none else some ((s.1.2.1, ()), ())) (((), nilOf UInt8, 0, ()), W, ()) = some ((joinB W, ()), ()) := by
  refine (loopC_inv _ (fun n t => ∃ (i : Nat) (acc : List UInt8), i ≤ W.length ∧ n = W.length - i ∧ acc.length ≤ 301 * i ∧ (i = 0 → acc = []) ∧ t = (((), acc, (i : Int), ()), W, ()))
    (fun t => some ((t.1.2.1 ++ jt t.1.2.2.1.toNat (W.drop t.1.2.2.1.toNat), ()), ())) ?_ _ W.length _ ⟨0, [], by omega, by omega, by simp, fun _ => rfl, rfl⟩ hf).trans ?_
  · rintro n t k ⟨i, acc, hi, rfl, hl, h0, rfl⟩ hk
    dsimp only
    by_cases hlt : i < W.length
    · have hd : decide ((i : Int) < (W.length : Int)) = true := by simpa using hlt
      rw [hd, cond_true]
      have hm := hw _ (getD_mem (nilOf UInt8) hlt)
      refine bind_eq (x := (((), acc ++ (if i = 0 then [] else [32]), (i : Int), ()), W, ())) ?_ ?_
      · by_cases hz : i = 0
        · subst hz; simp
        · have : decide ((i : Int) > 0) = true := by simp; omega
          rw [this, cond_true, if_pos (by simp; omega), if_neg hz]
      · dsimp only
        have hal : (acc ++ (if i = 0 then [] else [32])).length ≤ 301 * i + 1 := by rw [List.length_append]; split <;> simp <;> omega
        rw [if_pos ⟨by omega, by omega⟩, if_pos (by omega), if_pos (by simp only [Int.toNat_natCast]; omega), wr1 _ (by omega)]
        refine (hk (W.length - (i + 1)) _ (by omega) ⟨i + 1, _, by omega, rfl, ?_, by omega, rfl⟩).trans ?_
        · simp only [Int.toNat_natCast, List.length_append] at hal ⊢; omega
        · simp only [Int.toNat_natCast, Option.some.injEq, Prod.mk.injEq, and_true]
          rw [drop_getD (nilOf UInt8) hlt]
          unfold jt
          rw [if_neg (Nat.succ_ne_zero i)]
          by_cases hz : i = 0
          · rw [if_pos hz, if_pos hz, joinB_cons]; simp
          · rw [if_neg hz, if_neg hz]; simp [joinT]
    · have hd : decide ((i : Int) < (W.length : Int)) = false := by simpa using Nat.le_of_not_lt hlt
      rw [hd, cond_false]
      have : W.drop i = [] := List.drop_eq_nil_of_le (by omega)
      simp only [Int.toNat_natCast, this]
      unfold jt; split <;> simp [joinB, joinT]
  · simp [jt]
theorem spec_showOpts (o : OptsT) (h1 : o.2.2.2.2.2.2.2.2.2.2.2.2.2.2.2.1.length ≤ 1048576) (h2 : o.2.2.2.2.2.2.2.2.2.2.2.2.2.2.2.2.length ≤ 1048576) : m_spec_ShowOpts o = some (showP o, ()) := by
  obtain ⟨a0, a1, a2, a3, a4, a5, a6, a7, a8, a9, a10, a11, a12, d, a14, s, p⟩ := o
  unfold m_spec_ShowOpts showP
  refine bind_eq (spec_optsOk _ h1 h2) ?_
  dsimp only
  cases hok : optsOk (a0, a1, a2, a3, a4, a5, a6, a7, a8, a9, a10, a11, a12, d, a14, s, p)
  · rfl
  obtain ⟨⟨hd0, hd3⟩, hs8, hp⟩ := optsOk_del hok
  simp only [Bool.not_true, cond_false, if_true]
  refine bind_eq (x := (((), [], (), a0 && (a1 && (a2 && a3)), ()), (a0, a1, a2, a3, a4, a5, a6, a7, a8, a9, a10, a11, a12, d, a14, s, p, ()), [a0, a1, a2, a3, a4, a5, a7, a8, a9, a12, a14], ())) (by cases a0 <;> cases a1 <;> cases a2 <;> rfl) ?_
  dsimp only
  have hlet : lettersOf (a0, a1, a2, a3, a4, a5, a6, a7, a8, a9, a10, a11, a12, d, a14, s, p) = bif a0 && (a1 && (a2 && a3)) then 97 :: picks ((flagsOf (a0, a1, a2, a3, a4, a5, a6, a7, a8, a9, a10, a11, a12, d, a14, s, p)).drop 4) else picks (flagsOf (a0, a1, a2, a3, a4, a5, a6, a7, a8, a9, a10, a11, a12, d, a14, s, p)) := rfl
  have hll := letters_len (a0, a1, a2, a3, a4, a5, a6, a7, a8, a9, a10, a11, a12, d, a14, s, p)
  have hwl := wordsOf_len (a0, a1, a2, a3, a4, a5, a6, a7, a8, a9, a10, a11, a12, d, a14, s, p) hs8 hp
  generalize hall : (a0 && (a1 && (a2 && a3))) = all at hlet ⊢
  refine bind_eq (x := (((), (bif all then [97] else []), (), all, ()), (a0, a1, a2, a3, a4, a5, a6, a7, a8, a9, a10, a11, a12, d, a14, s, p, ()), [a0, a1, a2, a3, a4, a5, a7, a8, a9, a12, a14], ())) (by cases all <;> rfl) ?_
  dsimp only
  refine bind_eq (x := (((), lettersOf (a0, a1, a2, a3, a4, a5, a6, a7, a8, a9, a10, a11, a12, d, a14, s, p), ()), (a0, a1, a2, a3, a4, a5, a6, a7, a8, a9, a10, a11, a12, d, a14, s, p, ()), ())) ?_ ?_
  · rw [hlet]
    cases all
    · simp only [cond_false]
      refine (loopC_inv _ (fun n t => ∃ (i : Nat) (acc : List UInt8), i ≤ 11 ∧ n = 11 - i ∧ acc.length ≤ i + 1 ∧ t = (((), acc, (), false, (i : Int), ()), (a0, a1, a2, a3, a4, a5, a6, a7, a8, a9, a10, a11, a12, d, a14, s, p, ()), [a0, a1, a2, a3, a4, a5, a7, a8, a9, a12, a14], ()))
        (fun t => some (((), t.1.2.1 ++ picks ((flagsOf (a0, a1, a2, a3, a4, a5, a6, a7, a8, a9, a10, a11, a12, d, a14, s, p)).drop t.1.2.2.2.2.1.toNat), ()), (a0, a1, a2, a3, a4, a5, a6, a7, a8, a9, a10, a11, a12, d, a14, s, p, ()), ())) ?_ _ 11 _ ⟨0, [], by omega, by omega, by simp, rfl⟩ (by omega)).trans ?_
      · rintro n t k ⟨i, acc, hi, rfl, hl, rfl⟩ hk
        have step : ∀ (j : Nat) (acc' : List UInt8), i < j → j ≤ 11 → acc'.length ≤ j + 1 → k (((), acc', (), false, (j : Int), ()), (a0, a1, a2, a3, a4, a5, a6, a7, a8, a9, a10, a11, a12, d, a14, s, p, ()), [a0, a1, a2, a3, a4, a5, a7, a8, a9, a12, a14], ()) = _ :=
          fun j acc' h1 h2 h3 => hk (11 - j) _ (by omega) ⟨j, acc', h2, rfl, h3, rfl⟩
        have hlt : acc.length + 1 < 2 ^ 63 := by omega
        have hcase : i = 0 ∨ i = 1 ∨ i = 2 ∨ i = 3 ∨ i = 4 ∨ i = 5 ∨ i = 6 ∨ i = 7 ∨ i = 8 ∨ i = 9 ∨ i = 10 ∨ i = 11 := by omega
        rcases hcase with rfl | rfl | rfl | rfl | rfl | rfl | rfl | rfl | rfl | rfl | rfl | rfl
        · cases a0
          · refine Eq.trans ?_ ((step 1 acc (by omega) (by omega) (by (try simp); omega)).trans ?_)
            · simp [hlt, wr]
            · simp [flagsOf, picks]
          · refine Eq.trans ?_ ((step 1 (acc ++ [114]) (by omega) (by omega) (by (try simp); omega)).trans ?_)
            · simp [hlt, wr]
            · simp [flagsOf, picks]
        · cases a1
          · refine Eq.trans ?_ ((step 2 acc (by omega) (by omega) (by (try simp); omega)).trans ?_)
            · simp [hlt, wr]
            · simp [flagsOf, picks]
          · refine Eq.trans ?_ ((step 2 (acc ++ [108]) (by omega) (by omega) (by (try simp); omega)).trans ?_)
            · simp [hlt, wr]
            · simp [flagsOf, picks]
        · cases a2
          · refine Eq.trans ?_ ((step 3 acc (by omega) (by omega) (by (try simp); omega)).trans ?_)
            · simp [hlt, wr]
            · simp [flagsOf, picks]
          · refine Eq.trans ?_ ((step 3 (acc ++ [112]) (by omega) (by omega) (by (try simp); omega)).trans ?_)
            · simp [hlt, wr]
            · simp [flagsOf, picks]
        · cases a3
          · refine Eq.trans ?_ ((step 4 acc (by omega) (by omega) (by (try simp); omega)).trans ?_)
            · simp [hlt, wr]
            · simp [flagsOf, picks]
          · refine Eq.trans ?_ ((step 4 (acc ++ [116]) (by omega) (by omega) (by (try simp); omega)).trans ?_)
            · simp [hlt, wr]
            · simp [flagsOf, picks]
        · cases a4
          · refine Eq.trans ?_ ((step 5 acc (by omega) (by omega) (by (try simp); omega)).trans ?_)
            · simp [hlt, wr]
            · simp [flagsOf, picks]
          · refine Eq.trans ?_ ((step 5 (acc ++ [72]) (by omega) (by omega) (by (try simp); omega)).trans ?_)
            · simp [hlt, wr]
            · simp [flagsOf, picks]
        · cases a5
          · refine Eq.trans ?_ ((step 6 acc (by omega) (by omega) (by (try simp); omega)).trans ?_)
            · simp [hlt, wr]
            · simp [flagsOf, picks]
          · refine Eq.trans ?_ ((step 6 (acc ++ [99]) (by omega) (by omega) (by (try simp); omega)).trans ?_)
            · simp [hlt, wr]
            · simp [flagsOf, picks]
        · cases a7
          · refine Eq.trans ?_ ((step 7 acc (by omega) (by omega) (by (try simp); omega)).trans ?_)
            · simp [hlt, wr]
            · simp [flagsOf, picks]
          · refine Eq.trans ?_ ((step 7 (acc ++ [110]) (by omega) (by omega) (by (try simp); omega)).trans ?_)
            · simp [hlt, wr]
            · simp [flagsOf, picks]
        · cases a8
          · refine Eq.trans ?_ ((step 8 acc (by omega) (by omega) (by (try simp); omega)).trans ?_)
            · simp [hlt, wr]
            · simp [flagsOf, picks]
          · refine Eq.trans ?_ ((step 8 (acc ++ [87]) (by omega) (by omega) (by (try simp); omega)).trans ?_)
            · simp [hlt, wr]
            · simp [flagsOf, picks]
        · cases a9
          · refine Eq.trans ?_ ((step 9 acc (by omega) (by omega) (by (try simp); omega)).trans ?_)
            · simp [hlt, wr]
            · simp [flagsOf, picks]
          · refine Eq.trans ?_ ((step 9 (acc ++ [117]) (by omega) (by omega) (by (try simp); omega)).trans ?_)
            · simp [hlt, wr]
            · simp [flagsOf, picks]
        · cases a12
          · refine Eq.trans ?_ ((step 10 acc (by omega) (by omega) (by (try simp); omega)).trans ?_)
            · simp [hlt, wr]
            · simp [flagsOf, picks]
          · refine Eq.trans ?_ ((step 10 (acc ++ [121]) (by omega) (by omega) (by (try simp); omega)).trans ?_)
            · simp [hlt, wr]
            · simp [flagsOf, picks]
        · cases a14
          · refine Eq.trans ?_ ((step 11 acc (by omega) (by omega) (by (try simp); omega)).trans ?_)
            · simp [hlt, wr]
            · simp [flagsOf, picks]
          · refine Eq.trans ?_ ((step 11 (acc ++ [98]) (by omega) (by omega) (by (try simp); omega)).trans ?_)
            · simp [hlt, wr]
            · simp [flagsOf, picks]
        · simp [flagsOf, picks]
      · simp [picks]
    · simp only [cond_true]
      refine (loopC_inv _ (fun n t => ∃ (i : Nat) (acc : List UInt8), i ≤ 11 ∧ n = 11 - i ∧ acc.length ≤ i + 1 ∧ t = (((), acc, (), true, (i : Int), ()), (a0, a1, a2, a3, a4, a5, a6, a7, a8, a9, a10, a11, a12, d, a14, s, p, ()), [a0, a1, a2, a3, a4, a5, a7, a8, a9, a12, a14], ()))
        (fun t => some (((), t.1.2.1 ++ picks ((flagsOf (a0, a1, a2, a3, a4, a5, a6, a7, a8, a9, a10, a11, a12, d, a14, s, p)).drop (if t.1.2.2.2.2.1.toNat < 4 then 4 else t.1.2.2.2.2.1.toNat)), ()), (a0, a1, a2, a3, a4, a5, a6, a7, a8, a9, a10, a11, a12, d, a14, s, p, ()), ())) ?_ _ 11 _ ⟨0, [97], by omega, by omega, by simp, rfl⟩ (by omega)).trans ?_
      · rintro n t k ⟨i, acc, hi, rfl, hl, rfl⟩ hk
        have step : ∀ (j : Nat) (acc' : List UInt8), i < j → j ≤ 11 → acc'.length ≤ j + 1 → k (((), acc', (), true, (j : Int), ()), (a0, a1, a2, a3, a4, a5, a6, a7, a8, a9, a10, a11, a12, d, a14, s, p, ()), [a0, a1, a2, a3, a4, a5, a7, a8, a9, a12, a14], ()) = _ :=
          fun j acc' h1 h2 h3 => hk (11 - j) _ (by omega) ⟨j, acc', h2, rfl, h3, rfl⟩
        have hlt : acc.length + 1 < 2 ^ 63 := by omega
        have hcase : i = 0 ∨ i = 1 ∨ i = 2 ∨ i = 3 ∨ i = 4 ∨ i = 5 ∨ i = 6 ∨ i = 7 ∨ i = 8 ∨ i = 9 ∨ i = 10 ∨ i = 11 := by omega
        rcases hcase with rfl | rfl | rfl | rfl | rfl | rfl | rfl | rfl | rfl | rfl | rfl | rfl
        · cases a0
          · refine Eq.trans ?_ ((step 1 acc (by omega) (by omega) (by (try simp); omega)).trans ?_)
            · simp [hlt, wr]
            · simp [flagsOf, picks]
          · refine Eq.trans ?_ ((step 1 acc (by omega) (by omega) (by (try simp); omega)).trans ?_)
            · simp [hlt, wr]
            · simp [flagsOf, picks]
        · cases a1
          · refine Eq.trans ?_ ((step 2 acc (by omega) (by omega) (by (try simp); omega)).trans ?_)
            · simp [hlt, wr]
            · simp [flagsOf, picks]
          · refine Eq.trans ?_ ((step 2 acc (by omega) (by omega) (by (try simp); omega)).trans ?_)
            · simp [hlt, wr]
            · simp [flagsOf, picks]
        · cases a2
          · refine Eq.trans ?_ ((step 3 acc (by omega) (by omega) (by (try simp); omega)).trans ?_)
            · simp [hlt, wr]
            · simp [flagsOf, picks]
          · refine Eq.trans ?_ ((step 3 acc (by omega) (by omega) (by (try simp); omega)).trans ?_)
            · simp [hlt, wr]
            · simp [flagsOf, picks]
        · cases a3
          · refine Eq.trans ?_ ((step 4 acc (by omega) (by omega) (by (try simp); omega)).trans ?_)
            · simp [hlt, wr]
            · simp [flagsOf, picks]
          · refine Eq.trans ?_ ((step 4 acc (by omega) (by omega) (by (try simp); omega)).trans ?_)
            · simp [hlt, wr]
            · simp [flagsOf, picks]
        · cases a4
          · refine Eq.trans ?_ ((step 5 acc (by omega) (by omega) (by (try simp); omega)).trans ?_)
            · simp [hlt, wr]
            · simp [flagsOf, picks]
          · refine Eq.trans ?_ ((step 5 (acc ++ [72]) (by omega) (by omega) (by (try simp); omega)).trans ?_)
            · simp [hlt, wr]
            · simp [flagsOf, picks]
        · cases a5
          · refine Eq.trans ?_ ((step 6 acc (by omega) (by omega) (by (try simp); omega)).trans ?_)
            · simp [hlt, wr]
            · simp [flagsOf, picks]
          · refine Eq.trans ?_ ((step 6 (acc ++ [99]) (by omega) (by omega) (by (try simp); omega)).trans ?_)
            · simp [hlt, wr]
            · simp [flagsOf, picks]
        · cases a7
          · refine Eq.trans ?_ ((step 7 acc (by omega) (by omega) (by (try simp); omega)).trans ?_)
            · simp [hlt, wr]
            · simp [flagsOf, picks]
          · refine Eq.trans ?_ ((step 7 (acc ++ [110]) (by omega) (by omega) (by (try simp); omega)).trans ?_)
            · simp [hlt, wr]
            · simp [flagsOf, picks]
        · cases a8
          · refine Eq.trans ?_ ((step 8 acc (by omega) (by omega) (by (try simp); omega)).trans ?_)
            · simp [hlt, wr]
            · simp [flagsOf, picks]
          · refine Eq.trans ?_ ((step 8 (acc ++ [87]) (by omega) (by omega) (by (try simp); omega)).trans ?_)
            · simp [hlt, wr]
            · simp [flagsOf, picks]
        · cases a9
          · refine Eq.trans ?_ ((step 9 acc (by omega) (by omega) (by (try simp); omega)).trans ?_)
            · simp [hlt, wr]
            · simp [flagsOf, picks]
          · refine Eq.trans ?_ ((step 9 (acc ++ [117]) (by omega) (by omega) (by (try simp); omega)).trans ?_)
            · simp [hlt, wr]
            · simp [flagsOf, picks]
        · cases a12
          · refine Eq.trans ?_ ((step 10 acc (by omega) (by omega) (by (try simp); omega)).trans ?_)
            · simp [hlt, wr]
            · simp [flagsOf, picks]
          · refine Eq.trans ?_ ((step 10 (acc ++ [121]) (by omega) (by omega) (by (try simp); omega)).trans ?_)
            · simp [hlt, wr]
            · simp [flagsOf, picks]
        · cases a14
          · refine Eq.trans ?_ ((step 11 acc (by omega) (by omega) (by (try simp); omega)).trans ?_)
            · simp [hlt, wr]
            · simp [flagsOf, picks]
          · refine Eq.trans ?_ ((step 11 (acc ++ [98]) (by omega) (by omega) (by (try simp); omega)).trans ?_)
            · simp [hlt, wr]
            · simp [flagsOf, picks]
        · simp [flagsOf, picks]
      · simp [picks]
  · dsimp only
    unfold wordsOf at hwl ⊢
    dsimp only at hwl ⊢
    generalize lettersOf (a0, a1, a2, a3, a4, a5, a6, a7, a8, a9, a10, a11, a12, d, a14, s, p) = L at hll hwl ⊢
    have hn8 : nilOf UInt8 = [] := rfl
    have hnn : nilOf (List UInt8) = [] := rfl
    rw [hn8, hnn]
    refine bind_eq (x := (((), (), ()), (a0, a1, a2, a3, a4, a5, a6, a7, a8, a9, a10, a11, a12, d, a14, s, p, ()), addW (!L == []) (45 :: L) [], ())) ?_ ?_
    · cases q : L == []
      · have : 1 + L.length < 2 ^ 63 := by omega
        simp [addW, this, Nat.add_comm]
        omega
      · simp [addW]
    have b1 := add_len (!L == []) (45 :: L) [] 0 (by simp)
    generalize e1 : addW (!L == []) (45 :: L) [] = l1 at b1 hwl ⊢
    dsimp only
    refine bind_eq (x := (((), (), ()), (a0, a1, a2, a3, a4, a5, a6, a7, a8, a9, a10, a11, a12, d, a14, s, p, ()), addW a6 [45, 45, 115, 105, 122, 101, 45, 111, 110, 108, 121] l1, ())) ?_ ?_
    · cases a6
      · rfl
      · simp only [cond_true]; rw [if_pos (by simp; omega)]; rfl
    have b2 := add_len a6 [45, 45, 115, 105, 122, 101, 45, 111, 110, 108, 121] l1 _ b1
    generalize e2 : addW a6 _ l1 = l2 at b2 hwl ⊢
    dsimp only
    refine bind_eq (x := (((), (), ()), (a0, a1, a2, a3, a4, a5, a6, a7, a8, a9, a10, a11, a12, d, a14, s, p, ()), addW a10 [45, 45, 101, 120, 105, 115, 116, 105, 110, 103] l2, ())) ?_ ?_
    · cases a10
      · rfl
      · simp only [cond_true]; rw [if_pos (by simp; omega)]; rfl
    have b3 := add_len a10 [45, 45, 101, 120, 105, 115, 116, 105, 110, 103] l2 _ b2
    generalize e3 : addW a10 _ l2 = l3 at b3 hwl ⊢
    dsimp only
    refine bind_eq (x := (((), (), ()), (a0, a1, a2, a3, a4, a5, a6, a7, a8, a9, a10, a11, a12, d, a14, s, p, ()), addW a11 [45, 45, 105, 103, 110, 111, 114, 101, 45, 101, 120, 105, 115, 116, 105, 110, 103] l3, ())) ?_ ?_
    · cases a11
      · rfl
      · simp only [cond_true]; rw [if_pos (by simp; omega)]; rfl
    have b4 := add_len a11 [45, 45, 105, 103, 110, 111, 114, 101, 45, 101, 120, 105, 115, 116, 105, 110, 103] l3 _ b3
    generalize e4 : addW a11 _ l3 = l4 at b4 hwl ⊢
    dsimp only
    refine bind_eq (x := (((), (), ()), (a0, a1, a2, a3, a4, a5, a6, a7, a8, a9, a10, a11, a12, d, a14, s, p, ()), addW (d != 0) (delW d) l4, ())) ?_ ?_
    · have hq : (l4.length + 1) * 16 ≤ 140737488355328 := by omega
      rcases (by omega : d = 0 ∨ d = 1 ∨ d = 2 ∨ d = 3) with rfl | rfl | rfl | rfl <;> simp [addW, delW, hq]
    have b5 := add_len (d != 0) (delW d) l4 _ b4
    generalize e5 : addW (d != 0) (delW d) l4 = l5 at b5 hwl ⊢
    dsimp only
    refine bind_eq (x := (((), (), !s == [] && !(s == [46, 98, 97, 107] && p == []), ()), (a0, a1, a2, a3, a4, a5, a6, a7, a8, a9, a10, a11, a12, d, a14, s, p, ()), l5, ())) ?_ ?_
    · cases s == [] <;> cases s == [46, 98, 97, 107] <;> cases p == [] <;> rfl
    dsimp only
    refine bind_eq (x := (((), (), ()), (a0, a1, a2, a3, a4, a5, a6, a7, a8, a9, a10, a11, a12, d, a14, s, p, ()), addW (!s == [] && !(s == [46, 98, 97, 107] && p == [])) ([45, 45, 115, 117, 102, 102, 105, 120, 61] ++ s) l5, ())) ?_ ?_
    · cases (!s == [] && !(s == [46, 98, 97, 107] && p == []))
      · rfl
      · simp only [cond_true]; rw [if_pos (by simp; omega), if_pos (by simp; omega)]; rfl
    have b6 := add_len (!s == [] && !(s == [46, 98, 97, 107] && p == [])) ([45, 45, 115, 117, 102, 102, 105, 120, 61] ++ s) l5 _ b5
    generalize e6 : addW (!s == [] && !(s == [46, 98, 97, 107] && p == [])) _ l5 = l6 at b6 hwl ⊢
    dsimp only
    refine bind_eq (x := (((), ()), addW (!p == []) ([45, 45, 98, 97, 99, 107, 117, 112, 45, 100, 105, 114, 61] ++ p) l6, ())) ?_ ?_
    · cases (!p == [])
      · rfl
      · simp only [cond_true]; rw [if_pos (by simp; omega), if_pos (by simp; omega)]; rfl
    generalize addW (!p == []) _ l6 = W at hwl ⊢
    dsimp only
    rw [joinB_eq]
    exact bind_eq (wordsLoop W hwl.1 hwl.2 _ (by omega)) rfl
theorem law_ShowOpts (o : OptsT) (h1 : o.2.2.2.2.2.2.2.2.2.2.2.2.2.2.2.1.length ≤ 9223372036854775807) (h2 : o.2.2.2.2.2.2.2.2.2.2.2.2.2.2.2.2.length ≤ 9223372036854775807) : m_laws_FnExactShowOpts o = some (true, ()) := by
  unfold m_laws_FnExactShowOpts
  obtain ⟨m, e, hm⟩ := szOpts_eq o 1048576 (by omega) h1 h2
  refine bind_eq e ?_
  dsimp only
  by_cases q : m < 0
  · rw [decide_eq_true q]; rfl
  · rw [decide_eq_false q, cond_false]
    have hm := hm (by omega)
    refine bind_eq (toOpts_eq o) ?_
    refine bind_eq (spec_showOpts o (by omega) (by omega)) ?_
    refine bind_eq (toOpts_eq o) ?_
    refine bind_eq (impl_showOpts o (by omega) (by omega)) ?_
    simp
end Go.AM
