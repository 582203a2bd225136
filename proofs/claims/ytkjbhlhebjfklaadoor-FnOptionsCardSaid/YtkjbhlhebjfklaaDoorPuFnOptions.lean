/- The plain law: the model of the law answers true. -/
import Derived.Test.YtkjbhlhebjfklaaDoorMoFnOptions
set_option linter.unusedVariables false
set_option linter.unusedSimpArgs false
namespace Go.AM
open Go
theorem loopC_inv {S α : Type} (F : S → (S → Option α) → Option α) (I : Nat → S → Prop) (g : S → Option α)
    (h : ∀ n s k, I n s → (∀ m s', m < n → I m s' → k s' = g s') → F s k = g s) : ∀ fuel n s, I n s → n < fuel → loopC fuel F s = g s := by
 intro fuel
 induction fuel with
 | zero => intro n s _ h0; omega
 | succ f ih => intro n s hI hn; exact h n s _ hI (fun m s' hm hI' => ih m s' hI' (by omega))
theorem wr (x : Int) (h : -9223372036854775808 ≤ x ∧ x ≤ 9223372036854775807) : IntKind.wrap .i64 x = x := by
 simp [IntKind.wrap, IntKind.signed, IntKind.bits]; omega
/-- A loop ends in some result with Q. -/
theorem loopC_some' {S α : Type} (F : S → (S → Option α) → Option α) (I : Nat → S → Prop) (Q : α → Prop)
    (h : ∀ n s k, I n s → (∀ m s', m < n → I m s' → ∃ r, k s' = some r ∧ Q r) → ∃ r, F s k = some r ∧ Q r) : ∀ fuel n s, I n s → n < fuel → ∃ r, loopC fuel F s = some r ∧ Q r := by
 intro fuel
 induction fuel with
 | zero => intro n s _ h0; omega
 | succ f ih => intro n s hI hn; exact h n s _ hI (fun m s' hm hI' => ih m s' hI' (by omega))
theorem bind_some' {α β : Type} {o : Option α} {f : α → Option β} {Q : α → Prop} {R : β → Prop} (h : ∃ r, o = some r ∧ Q r) (h2 : ∀ r, Q r → ∃ t, f r = some t ∧ R t) : ∃ t, Option.bind o f = some t ∧ R t := by
 obtain ⟨r, rfl, hq⟩ := h
 exact h2 r hq
theorem bind_eq {α β : Type} {o : Option α} {f : α → Option β} {x : α} {r : Option β} (h : o = some x) (h2 : f x = r) : Option.bind o f = r := by rw [h]; exact h2
theorem bind_ex {α β : Type} {o : Option α} {f : α → Option β} {Q : α → Prop} {r : Option β} (h : ∃ x, o = some x ∧ Q x) (h2 : ∀ x, Q x → f x = r) : Option.bind o f = r := by obtain ⟨x, rfl, hq⟩ := h; exact h2 x hq
theorem joinC_of {S α : Type} {o x : Option (S ⊕ α)} {k : S → Option α} {r : Option α} (h : o = x) (h2 : joinC x k = r) : joinC o k = r := by rw [h]; exact h2
theorem joinC_ex {S α : Type} {o : Option (S ⊕ α)} {k : S → Option α} {Q : S ⊕ α → Prop} {r : Option α} (h : ∃ x, o = some x ∧ Q x) (h2 : ∀ x, Q x → joinC (some x) k = r) : joinC o k = r := by obtain ⟨x, rfl, hq⟩ := h; exact h2 x hq
theorem wr1 (i : Nat) (h : i ≤ 4611686018427387904) : IntKind.wrap .i64 ((i : Int) + 1) = ((i + 1 : Nat) : Int) := by rw [wr _ (by omega)]; rfl
theorem joinC_inl' {S α : Type} {o : Option (S ⊕ α)} {k : S → Option α} {s : S} (h : o = some (.inl s)) : joinC o k = k s := by rw [h]; rfl
theorem joinC_inr' {S α : Type} {o : Option (S ⊕ α)} {k : S → Option α} {a : α} (h : o = some (.inr a)) : joinC o k = some a := by rw [h]; rfl
def okCh (c : Int) : Bool := (decide (c ≥ 97) && decide (c ≤ 122)) || ((decide (c ≥ 65) && decide (c ≤ 90)) || ((decide (c ≥ 48) && decide (c ≤ 57)) || (c == 46 || (c == 95 || c == 45))))
def okB (b : UInt8) : Bool := okCh (b.toNat : Int)
def nameOk (s : List UInt8) : Bool := (decide (1 ≤ s.length) && decide (s.length ≤ 20)) && (!(s == [46]) && (!(s == [46, 46]) && s.all okB))
theorem in_eq (x a b : Int) : m_spec_l01In x a b = some (decide (x ≥ a) && decide (x ≤ b), ()) := by
 unfold m_spec_l01In; cases decide (x ≥ a) <;> rfl
theorem within_eq (x a b : Int) : m_impl_within x a b = some (decide (x ≥ a) && decide (x ≤ b), ()) := by
 unfold m_impl_within; cases decide (x ≥ a) <;> rfl
theorem all_drop {α : Type} (p : α → Bool) (d : α) {s : List α} {i : Nat} (h : i < s.length) : (s.drop i).all p = (p (s.getD i d) && (s.drop (i + 1)).all p) := by
 rw [List.drop_eq_getElem_cons h, List.all_cons, List.getD_eq_getElem?_getD, List.getElem?_eq_getElem h]; rfl
theorem len_ge (s : List UInt8) : decide ((s.length : Int) ≥ 1) = decide (1 ≤ s.length) := decide_eq_decide.2 (by omega)
theorem len_le (s : List UInt8) : decide ((s.length : Int) ≤ 20) = decide (s.length ≤ 20) := decide_eq_decide.2 (by omega)
theorem spec_nameOk (s : List UInt8) (hs : s.length ≤ 1099511627776) : m_spec_NameOk s = some (nameOk s, ()) := by
 unfold m_spec_NameOk
 rw [in_eq, Option.bind_some, len_ge, len_le]
 unfold nameOk
 cases h1 : (decide (1 ≤ s.length) && decide (s.length ≤ 20)) with
 | false => rfl
 | true =>
  simp only [Bool.not_true, cond_false, Bool.true_and]
  cases h2 : (s == [46]) with
  | true => rfl
  | false =>
   simp only [cond_false, Bool.not_false, Bool.true_and]
   cases h3 : (s == [46, 46]) with
   | true => rfl
   | false =>
    simp only [Option.bind_some, cond_false, Bool.not_false, Bool.true_and]
    refine joinC_of (loopC_inv _ (fun n t => ∃ i : Nat, t = ((s, (i : Int), ()), ()) ∧ i ≤ s.length ∧ n = s.length - i)
     (fun t => some (if (s.drop t.1.2.1.toNat).all okB then .inl ((), ()) else .inr (false, ()))) ?_ _ s.length _ ⟨0, rfl, by omega, rfl⟩ (by omega)) ?_
    rotate_left
    ·show joinC (some (if (s.drop 0).all okB = true then _ else _)) _ = _
     rw [List.drop_zero]
     cases s.all okB <;> rfl
    ·rintro n t k ⟨i, rfl, hi, rfl⟩ hk
     dsimp only
     by_cases hl : i < s.length
     ·have hx : 0 ≤ (i : Int) ∧ (i : Int) < (s.length : Int) := by omega
      rw [decide_eq_true (by omega), cond_true, if_pos hx]
      refine bind_eq (x := ((s, (i : Int), !okB (s.getD i 0), ()), ())) ?_ ?_
      ·simp only [in_eq, Option.bind_some, if_pos hx, bne, okB, okCh, Int.toNat_natCast]
       have hb : (s.getD i 0).toNat < 256 := UInt8.toNat_lt _
       rw [wr _ (by omega)]
       generalize ((s.getD i 0).toNat : Int) = c
       cases decide (c ≥ 97) <;> cases decide (c ≤ 122) <;> cases decide (c ≥ 65) <;> cases decide (c ≤ 90) <;> cases decide (c ≥ 48) <;> cases decide (c ≤ 57) <;> cases c == 46 <;> cases c == 95 <;> cases c == 45 <;> rfl
      ·dsimp only
       rw [Int.toNat_natCast, all_drop okB 0 hl]
       cases okB (s.getD i 0) with
       | false => rfl
       | true =>
        show k _ = _
        rw [wr1 i (by omega)]
        exact hk (s.length - (i + 1)) _ (by omega) ⟨i + 1, rfl, by omega, rfl⟩
     ·rw [decide_eq_false (by omega), cond_false, Int.toNat_natCast, List.drop_eq_nil_of_le (by omega)]
      rfl
theorem impl_nameOk (s : List UInt8) (hs : s.length ≤ 1099511627776) : m_impl_NameOk s = some (nameOk s, ()) := by
 unfold m_impl_NameOk
 refine joinC_of (loopC_inv _ (fun n t => ∃ i : Nat, t = ((s, (s.length : Int), (i : Int), ()), ()) ∧ i ≤ s.length ∧ n = s.length - i)
         (fun t => some (if (s.drop t.1.2.2.1.toNat).all okB then .inl ((s, ()), ()) else .inr (false, ()))) ?_ _ s.length _ ⟨0, rfl, by omega, rfl⟩ (by omega)) ?_
 rotate_left
 ·show joinC (some (if (s.drop 0).all okB = true then _ else _)) _ = _
  rw [List.drop_zero]
  unfold nameOk
  cases s.all okB with
  | false => simp only [Bool.and_false]; rfl
  | true =>
   show Option.bind (Option.bind (m_impl_within _ _ _) _) _ = _
   rw [within_eq, Option.bind_some, len_ge, len_le]
   dsimp only
   cases (decide (1 ≤ s.length) && decide (s.length ≤ 20)) <;> cases s == [46] <;> cases s == [46, 46] <;> rfl
 ·rintro n t k ⟨i, rfl, hi, rfl⟩ hk
  dsimp only
  by_cases hl : i < s.length
  ·have hx : 0 ≤ (i : Int) ∧ (i : Int) < (s.length : Int) := by omega
   rw [decide_eq_true (by omega), cond_true, if_pos hx]
   refine bind_eq (x := ((s, (s.length : Int), (i : Int), !okB (s.getD i 0), ()), ())) ?_ ?_
   ·simp only [okB, okCh, Int.toNat_natCast]
    cases decide ((((s.getD i 0).toNat : Nat) : Int) ≥ 97) <;> cases decide ((((s.getD i 0).toNat : Nat) : Int) ≤ 122) <;> cases decide ((((s.getD i 0).toNat : Nat) : Int) ≥ 65) <;> cases decide ((((s.getD i 0).toNat : Nat) : Int) ≤ 90) <;> cases decide ((((s.getD i 0).toNat : Nat) : Int) ≥ 48) <;> cases decide ((((s.getD i 0).toNat : Nat) : Int) ≤ 57) <;> cases (((s.getD i 0).toNat : Nat) : Int) == 46 <;> cases (((s.getD i 0).toNat : Nat) : Int) == 95 <;> cases (((s.getD i 0).toNat : Nat) : Int) == 45 <;> rfl
   ·dsimp only
    rw [Int.toNat_natCast, all_drop okB 0 hl]
    cases okB (s.getD i 0) with
    | false => rfl
    | true =>
     show k _ = _
     rw [wr1 i (by omega)]
     exact hk (s.length - (i + 1)) _ (by omega) ⟨i + 1, rfl, by omega, rfl⟩
  ·rw [decide_eq_false (by omega), cond_false, Int.toNat_natCast, List.drop_eq_nil_of_le (by omega)]
   rfl
/-- What stands between the slashes. -/
def split : List UInt8 → List (List UInt8)
 | [] => [[]]
 | c :: r => if c = 47 then [] :: split r else match split r with
  | [] => [[c]]
  | h :: t => (c :: h) :: t
def prep (x : List UInt8) : List (List UInt8) → List (List UInt8)
 | [] => [x]
 | h :: t => (x ++ h) :: t
theorem split_ne (s : List UInt8) : split s ≠ [] := by
 cases s with
 | nil => simp [split]
 | cons c r => unfold split; split; simp; split <;> simp
theorem split_slash {c : UInt8} {r : List UInt8} (h : c = 47) : split (c :: r) = [] :: split r := by rw [split, if_pos h]
theorem split_other {c : UInt8} {r : List UInt8} (h : c ≠ 47) : split (c :: r) = prep [c] (split r) := by
 rw [split, if_neg h]; unfold prep; rcases split r with _ | ⟨h, t⟩ <;> rfl
theorem prep_prep (x y : List UInt8) (l : List (List UInt8)) (h : l ≠ []) : prep x (prep y l) = prep (x ++ y) l := by
 cases l with
 | nil => exact absurd rfl h
 | cons a t => simp [prep]
theorem split_len : ∀ s : List UInt8, (split s).length ≤ s.length + 1
 | [] => by simp [split]
 | c :: r => by
  have := split_len r
  by_cases h : c = 47
  ·rw [split_slash h]; simp; omega
  ·rw [split_other h]; unfold prep; split <;> simp_all; omega
theorem getD_cons {s : List UInt8} {i : Nat} (h : i < s.length) : s.drop i = s.getD i 0 :: s.drop (i + 1) := by
 rw [List.drop_eq_getElem_cons h, List.getD_eq_getElem?_getD, List.getElem?_eq_getElem h]; rfl
theorem take_snoc {s : List UInt8} {i f : Nat} (h : i < s.length) (hf : f ≤ i) : (s.take (i + 1)).drop f = (s.take i).drop f ++ [s.getD i 0] := by
 rw [List.take_add_one, List.drop_append_of_le_length (by simp; omega), List.getD_eq_getElem?_getD, List.getElem?_eq_getElem h]; rfl
theorem spec_names (s : List UInt8) (hs : s.length ≤ 8796093022206) : m_spec_l02Names s = some (split s, ()) := by
 unfold m_spec_l02Names
 refine bind_ex (loopC_some' _ (fun n t => ∃ (f i : Nat) (o : List (List UInt8)), t = ((s, (), (f : Int), (i : Int), ()), o, ()) ∧ f ≤ i ∧ i ≤ s.length ∧ o.length ≤ i ∧ o ++ prep ((s.take i).drop f) (split (s.drop i)) = split s ∧ n = s.length - i)
  (fun r => ∃ (f : Nat) (o : List (List UInt8)), r = ((s, (), (f : Int), ()), o, ()) ∧ f ≤ s.length ∧ o.length ≤ s.length ∧ o ++ [s.drop f] = split s) ?_ _ s.length _ ⟨0, 0, [], rfl, by omega, by omega, by simp, ?_, rfl⟩ (by omega)) ?_
 rotate_left 2
 ·rintro r ⟨f, o, rfl, h1, h2, h3⟩
  dsimp only
  rw [if_pos (by omega), if_pos (by simp only [List.length_cons, List.length_nil]; omega)]
  rw [Int.toNat_natCast, Int.toNat_natCast, List.take_length, h3]
 ·rintro n t k ⟨f, i, o, rfl, hf, hi, ho, he, rfl⟩ hk
  dsimp only
  by_cases hl : i < s.length
  ·have hx : 0 ≤ (i : Int) ∧ (i : Int) < (s.length : Int) := by omega
   rw [decide_eq_true (by omega), cond_true, if_pos hx]
   simp only [Int.toNat_natCast]
   have hd := getD_cons hl
   rw [hd] at he
   by_cases hc : s.getD i 0 = 47
   ·rw [show (((s.getD i 0).toNat : Int) == 47) = true by rw [hc]; rfl, cond_true, if_pos (by omega), if_pos (by simp only [List.length_cons, List.length_nil]; omega), Option.bind_some]
    dsimp only
    rw [wr1 i (by omega)]
    refine hk (s.length - (i + 1)) _ (by omega) ⟨i + 1, i + 1, _, rfl, by omega, by omega, by simp; omega, ?_, rfl⟩
    rw [split_slash hc] at he
    rw [← he, List.append_assoc, show (s.take (i + 1)).drop (i + 1) = [] from List.drop_eq_nil_of_le (by rw [List.length_take]; omega)]
    unfold prep
    rcases hsp : split (s.drop (i + 1)) with _ | ⟨a, b⟩
    ·exact absurd hsp (split_ne _)
    ·simp
   ·rw [show (((s.getD i 0).toNat : Int) == 47) = false by
     rw [beq_eq_false_iff_ne]; intro h; exact hc (UInt8.toNat.inj (by show _ = 47; omega)), cond_false, Option.bind_some]
    dsimp only
    rw [wr1 i (by omega)]
    refine hk (s.length - (i + 1)) _ (by omega) ⟨f, i + 1, _, rfl, by omega, by omega, by omega, ?_, rfl⟩
    rw [split_other hc, prep_prep _ _ _ (split_ne _)] at he
    rw [take_snoc hl hf]
    exact he
  ·rw [decide_eq_false (by omega), cond_false]
   refine ⟨_, rfl, f, o, rfl, by omega, by omega, ?_⟩
   rw [← he, List.drop_eq_nil_of_le (by omega : s.length ≤ i), List.take_of_length_le (by omega)]
   simp [split, prep]
 ·simp only [List.drop_zero, List.nil_append, List.take_zero, List.drop_nil]
  rcases hsp : split s with _ | ⟨a, b⟩
  ·exact absurd hsp (split_ne _)
  ·rfl
theorem index_slash (s : List UInt8) : (Go.Lib.indexByte s 47 = -1 ∧ split s = [s]) ∨ ∃ k : Nat, k < s.length ∧ Go.Lib.indexByte s 47 = k ∧ split s = s.take k :: split (s.drop (k + 1)) ∧ s.count 47 = (s.drop (k + 1)).count 47 + 1 := by
 induction s with
 | nil => exact .inl ⟨rfl, rfl⟩
 | cons c r ih =>
  by_cases hc : c = 47
  ·refine .inr ⟨0, by simp, ?_, ?_, ?_⟩
   ·rw [hc]; rfl
   ·rw [split_slash hc]; rfl
   ·rw [hc]; simp
  ·have hb : (c == 47) = false := by simp [hc]
   rcases ih with ⟨h1, h2⟩ | ⟨k, hk, h1, h2, h3⟩
   ·refine .inl ⟨?_, ?_⟩
    ·unfold Go.Lib.indexByte; rw [hb, h1]; rfl
    ·rw [split_other hc, h2]; rfl
   ·refine .inr ⟨k + 1, by simp; omega, ?_, ?_, ?_⟩
    ·unfold Go.Lib.indexByte; rw [hb, h1]
     have : ((k : Int) == -1) = false := by rw [beq_eq_false_iff_ne]; omega
     simp [this]
    ·rw [split_other hc, h2]; rfl
    ·rw [List.count_cons, hb, h3]; simp
theorem index_eq (s : List UInt8) : m_strings_Index s = some (Go.Lib.indexByte s 47, ()) := by
 unfold m_strings_Index m_stringslite_Index
 by_cases h : s = [47]
 ·subst h; rfl
 ·rw [show (([47] : List UInt8) == s) = false by rw [beq_eq_false_iff_ne]; exact fun h' => h h'.symm]
  rfl
theorem genSplit_eq (s : List UInt8) (hs : s.length ≤ 8796093022206) : m_strings_genSplit s = some (split s, ()) := by
 unfold m_strings_genSplit
 refine bind_eq (x := (((s.count 47 : Nat) : Int), ())) rfl ?_
 have hcl : s.count 47 ≤ s.length := List.count_le_length
 dsimp only
 rw [wr ((s.length : Int) + 1) (by omega), wr (((s.count 47 : Nat) : Int) + 1) (by omega), if_neg (show ¬((s.length : Int) + 1 < ((s.count 47 : Nat) : Int) + 1) by omega), if_pos (by omega), wr (((s.count 47 : Nat) : Int) + 1 - 1) (by omega)]
 have hn : (((s.count 47 : Nat) : Int) + 1).toNat = s.count 47 + 1 := by omega
 rw [hn]
 refine bind_ex (loopC_some' _ (fun n t => ∃ (r : List UInt8) (i : Nat) (a : List (List UInt8)), t = ((r, (), (), ((s.count 47 : Nat) : Int) + 1 - 1, (), (i : Int), ()), a, ()) ∧ i + r.count 47 = s.count 47 ∧ r.length ≤ s.length ∧ a.length = s.count 47 + 1 ∧ a.take i ++ split r = split s ∧ n = r.length)
  (fun t => ∃ (r : List UInt8) (i : Nat) (a : List (List UInt8)), t = ((r, (), (i : Int), ()), a, ()) ∧ i ≤ s.count 47 ∧ a.length = s.count 47 + 1 ∧ a.take i ++ [r] = split s) ?_ _ s.length _ ⟨s, 0, _, rfl, by omega, by omega, by simp, rfl, rfl⟩ (by omega)) ?_
 ·rintro n t k ⟨r, i, a, rfl, h1, h2, h3, h4, rfl⟩ hk
  dsimp only
  by_cases hl : i < s.count 47
  ·rw [decide_eq_true (by omega), cond_true, index_eq, Option.bind_some]
   dsimp only
   rcases index_slash r with ⟨g1, g2⟩ | ⟨m, hm, g1, g2, g3⟩
   ·rw [g1, decide_eq_true (by omega), cond_true]
    exact ⟨_, rfl, r, i, a, rfl, by omega, h3, by rw [g2] at h4; exact h4⟩
   ·rw [g1, decide_eq_false (by omega), cond_false, wr ((m : Int) + 0) (by omega)]
    simp only [List.length_cons, List.length_nil]
    rw [show ((0 + 1 : Nat) : Int) = 1 from rfl, wr1 m (by omega), if_pos (by omega), if_pos (by omega), if_pos (by omega), if_pos (by omega), wr1 i (by omega)]
    refine hk (r.drop (m + 1)).length _ (by rw [List.length_drop]; omega) ⟨r.drop (m + 1), i + 1, a.set i (r.take m), ?_, by omega, by rw [List.length_drop]; omega, ?_, ?_, rfl⟩
    ·simp only [Int.toNat_natCast, List.take_length, Int.add_zero]; rfl
    ·rw [List.length_set]; exact h3
    ·rw [List.take_add_one, List.take_set_of_le (by omega), ← h4, g2]
     rw [List.getElem?_set_self (by omega)]
     simp
  ·rw [decide_eq_false (by omega), cond_false]
   refine ⟨_, rfl, r, i, a, rfl, by omega, h3, ?_⟩
   rcases index_slash r with ⟨g1, g2⟩ | ⟨m, hm, g1, g2, g3⟩
   ·rw [g2] at h4; exact h4
   ·omega
 ·rintro t ⟨r, i, a, rfl, h1, h2, h3⟩
  dsimp only
  rw [if_pos (by omega), if_pos (by omega), wr1 i (by omega), if_pos (by rw [List.length_set]; omega)]
  rw [Int.toNat_natCast, Int.toNat_natCast, List.take_add_one, List.take_set_of_le (by omega), List.getElem?_set_self (by omega)]
  show some (a.take i ++ [r], ()) = _
  rw [h3]
theorem split_eq (s : List UInt8) (hs : s.length ≤ 8796093022206) : m_strings_Split s = some (split s, ()) := by
 unfold m_strings_Split; rw [genSplit_eq s hs]; rfl
def names (s : List UInt8) : List (List UInt8) := if s.length ≤ 168 ∧ (split s).length ≤ 8 ∧ (split s).all nameOk = true then split s else []
def pathOk (s : List UInt8) : Bool := decide (s.length ≤ 168) && (decide ((split s).length ≤ 8) && (split s).all nameOk)
theorem names_ok (s : List UInt8) : names s = if pathOk s then split s else [] := by
 unfold names pathOk
 by_cases h1 : s.length ≤ 168 <;> by_cases h2 : (split s).length ≤ 8 <;> by_cases h3 : (split s).all nameOk = true <;> simp [h1, h2, h3]
theorem split_mem_len (s : List UInt8) : ∀ x ∈ split s, x.length ≤ s.length := by
 induction s with
 | nil => intro x hx; simp [split] at hx; subst hx; simp
 | cons c r ih =>
  intro x hx
  by_cases hc : c = 47
  ·rw [split_slash hc] at hx
   rcases List.mem_cons.1 hx with rfl | hx
   ·simp
   ·have := ih x hx; simp; omega
  ·rw [split_other hc] at hx
   unfold prep at hx
   rcases hsp : split r with _ | ⟨a, b⟩
   ·exact absurd hsp (split_ne _)
   ·rw [hsp] at hx ih
    rcases List.mem_cons.1 hx with rfl | hx
    ·have := ih a (by simp); simp; omega
    ·have := ih x (by simp [hx]); simp; omega
/-- Names of at most twenty bytes, at most eight: the text is of at most 167. -/
theorem split_sum (s : List UInt8) : s.length + 1 = ((split s).map (fun x => x.length + 1)).sum := by
 induction s with
 | nil => rfl
 | cons c r ih =>
  by_cases hc : c = 47
  ·rw [split_slash hc]; simp at ih ⊢; omega
  ·rw [split_other hc]; unfold prep
   rcases hsp : split r with _ | ⟨a, b⟩
   ·exact absurd hsp (split_ne _)
   ·rw [hsp] at ih; simp at ih ⊢; omega
theorem sum_le {l : List (List UInt8)} (h : l.all nameOk = true) : (l.map (fun x => x.length + 1)).sum ≤ 21 * l.length := by
 induction l with
 | nil => simp
 | cons a t ih =>
  rw [List.all_cons, Bool.and_eq_true] at h
  have := ih h.2
  have h1 := h.1
  unfold nameOk at h1
  simp only [Bool.and_eq_true, decide_eq_true_eq] at h1
  simp; omega
theorem path_len {s : List UInt8} (h1 : (split s).length ≤ 8) (h2 : (split s).all nameOk = true) : s.length ≤ 167 := by
 have := split_sum s; have := sum_le h2; omega
theorem spec_pathOk (s : List UInt8) : m_spec_PathOk s = some (pathOk s, ()) := by
 unfold m_spec_PathOk
 by_cases hs : s.length ≤ 200
 ·rw [decide_eq_false (by omega), cond_false, spec_names s (by omega), Option.bind_some]
  have hl := split_len s
  refine joinC_of (loopC_inv _ (fun n t => ∃ i : Nat, t = ((split s, (i : Int), ()), ()) ∧ i ≤ (split s).length ∧ n = (split s).length - i)
        (fun t => some (if ((split s).drop t.1.2.1.toNat).all nameOk then .inl ((split s, ()), ()) else .inr (false, ()))) ?_ _ (split s).length _ ⟨0, rfl, by omega, rfl⟩ (by show _ < (split s).length + _ + _; omega)) ?_
  ·rintro n t k ⟨i, rfl, hi, rfl⟩ hk
   dsimp only
   by_cases hl2 : i < (split s).length
   ·rw [decide_eq_true (by omega), cond_true, if_pos (by omega), Int.toNat_natCast, all_drop nameOk (nilOf UInt8) hl2]
    have hm : ((split s).getD i (nilOf UInt8)).length ≤ s.length := by
     rw [List.getD_eq_getElem?_getD, List.getElem?_eq_getElem hl2]; exact split_mem_len s _ (List.getElem_mem hl2)
    rw [spec_nameOk _ (by omega), Option.bind_some]
    dsimp only
    cases nameOk ((split s).getD i (nilOf UInt8)) with
    | false => rfl
    | true =>
     show k _ = _
     rw [wr1 i (by omega)]
     exact hk ((split s).length - (i + 1)) _ (by omega) ⟨i + 1, rfl, by omega, rfl⟩
   ·rw [decide_eq_false (by omega), cond_false, Int.toNat_natCast, List.drop_eq_nil_of_le (by omega)]
    rfl
  ·show joinC (some (if ((split s).drop 0).all nameOk = true then _ else _)) _ = _
   rw [List.drop_zero]
   unfold pathOk
   cases h2 : (split s).all nameOk with
   | false => simp; rfl
   | true =>
    show some (decide (((split s).length : Int) ≤ 8), ()) = _
    by_cases h1 : (split s).length ≤ 8
    ·have := path_len h1 h2
     rw [decide_eq_true (by omega), decide_eq_true (by omega), decide_eq_true h1]; rfl
    ·rw [decide_eq_false (by omega), decide_eq_false h1]; simp
 ·rw [decide_eq_true (by omega), cond_true]
  unfold pathOk
  rw [decide_eq_false (by omega), Bool.false_and]
theorem impl_names (s : List UInt8) : m_impl_Names s = some (names s, ()) := by
 unfold m_impl_Names
 by_cases hs : s.length ≤ 168
 ·rw [decide_eq_false (by omega), cond_false, split_eq s (by omega), Option.bind_some]
  have hl := split_len s
  dsimp only
  by_cases h1 : (split s).length ≤ 8
  ·rw [decide_eq_false (by omega), cond_false]
   refine joinC_of (loopC_inv _ (fun n t => ∃ i : Nat, t = ((split s, split s, ((split s).length : Int), (i : Int), ()), ()) ∧ i ≤ (split s).length ∧ n = (split s).length - i)
       (fun t => some (if ((split s).drop t.1.2.2.2.1.toNat).all nameOk then .inl ((split s, ()), ()) else .inr ([], ()))) ?_ _ (split s).length _ ⟨0, rfl, by omega, rfl⟩ (by omega)) ?_
   ·rintro n t k ⟨i, rfl, hi, rfl⟩ hk
    dsimp only
    by_cases hl2 : i < (split s).length
    ·rw [decide_eq_true (by omega), cond_true, if_pos (by omega), Int.toNat_natCast, all_drop nameOk (nilOf UInt8) hl2]
     have hm : ((split s).getD i (nilOf UInt8)).length ≤ s.length := by
      rw [List.getD_eq_getElem?_getD, List.getElem?_eq_getElem hl2]; exact split_mem_len s _ (List.getElem_mem hl2)
     rw [impl_nameOk _ (by omega), Option.bind_some]
     dsimp only
     cases nameOk ((split s).getD i (nilOf UInt8)) with
     | false => rfl
     | true =>
      show k _ = _
      rw [wr1 i (by omega)]
      exact hk ((split s).length - (i + 1)) _ (by omega) ⟨i + 1, rfl, by omega, rfl⟩
    ·rw [decide_eq_false (by omega), cond_false, Int.toNat_natCast, List.drop_eq_nil_of_le (by omega)]
     rfl
   ·show joinC (some (if ((split s).drop 0).all nameOk = true then _ else _)) _ = _
    rw [List.drop_zero]
    unfold names
    cases h2 : (split s).all nameOk with
    | false => simp; rfl
    | true => rw [if_pos (show s.length ≤ 168 ∧ (split s).length ≤ 8 ∧ true = true from And.intro hs (And.intro h1 rfl))]; rfl
  ·rw [decide_eq_true (by omega), cond_true]
   unfold names
   rw [if_neg (fun h => h1 h.2.1)]
 ·rw [decide_eq_true (by omega), cond_true]
  unfold names
  rw [if_neg (fun h => hs h.1)]
theorem impl_pathOk (s : List UInt8) : m_impl_PathOk s = some (pathOk s, ()) := by
 unfold m_impl_PathOk
 rw [impl_names, Option.bind_some, names_ok]
 cases pathOk s with
 | false => rfl
 | true =>
  show some (decide (((split s).length : Int) > 0), ()) = _
  rw [decide_eq_true (by have := List.length_pos_iff.2 (split_ne s); omega)]
section
variable {α : Type}
theorem getD_mem {l : List α} {i : Nat} (d : α) (h : i < l.length) : l.getD i d ∈ l := by
 rw [List.getD_eq_getElem?_getD, List.getElem?_eq_getElem h]; exact List.getElem_mem h
theorem drop_getD {l : List α} {i : Nat} (d : α) (h : i < l.length) : l.drop i = l.getD i d :: l.drop (i + 1) := by
 rw [List.drop_eq_getElem_cons h, List.getD_eq_getElem?_getD, List.getElem?_eq_getElem h]; rfl
end
abbrev OptsT := Bool × (Bool × (Bool × (Bool × (Bool × (Bool × (Bool × (Bool × (Bool × (Bool × (Bool × (Bool × (Bool × (Int × (Bool × (List UInt8 × List UInt8)))))))))))))))
def sufOk (s : List UInt8) : Bool := s == [] || (decide (s.length ≤ 8) && nameOk ([120] ++ s))
theorem spec_suffix (s : List UInt8) (hs : s.length ≤ 1048576) : m_spec_l11Suffix s = some (sufOk s, ()) := by
 unfold m_spec_l11Suffix sufOk
 simp only [nilOf]
 cases s == [] with
 | true => rfl
 | false =>
  simp only [cond_false, Bool.false_or]
  by_cases h : s.length ≤ 8
  ·rw [decide_eq_true (by omega), decide_eq_true h, cond_true, if_pos (by show 1 + s.length < 9223372036854775808; omega), spec_nameOk _ (by simp; omega)]
   simp
  ·rw [decide_eq_false (by omega), decide_eq_false h]; rfl
theorem impl_suffix (s : List UInt8) (hs : s.length ≤ 1048576) (hn : (s == []) = false) : m_impl_isSuffix s = some (sufOk s, ()) := by
 unfold m_impl_isSuffix sufOk
 rw [within_eq, Option.bind_some, hn, Bool.false_or]
 have h0 : 1 ≤ s.length := by
  rcases s with _ | ⟨a, b⟩
  ·simp at hn
  ·simp
 dsimp only
 rw [decide_eq_true (by omega), Bool.true_and]
 by_cases h : s.length ≤ 8
 ·rw [decide_eq_true (by omega), decide_eq_true h, cond_true, if_pos (by show 1 + s.length < 9223372036854775808; omega), impl_nameOk _ (by simp; omega)]
  simp
 ·rw [decide_eq_false (by omega), decide_eq_false h]; rfl
def optsOk : OptsT → Bool
 | (r, _, _, _, _, ck, so, _, _, _, _, _, _, del, bk, suf, dir) =>
  (decide (del ≥ 0) && decide (del ≤ 3)) && (!(!(del == 0) && !r) && (!(ck && so) && (cond bk (sufOk suf && ((dir == [] || pathOk dir) && !(suf == [] && dir == []))) (suf == [] && dir == []))))
theorem app_nil (a b : List UInt8) : (a ++ b == []) = (a == [] && b == []) := by cases a <;> cases b <;> rfl
theorem spec_optsOk (o : OptsT) (h1 : o.2.2.2.2.2.2.2.2.2.2.2.2.2.2.2.1.length ≤ 1048576) (h2 : o.2.2.2.2.2.2.2.2.2.2.2.2.2.2.2.2.length ≤ 1048576) : m_spec_OptsOk o = some (optsOk o, ()) := by
 obtain ⟨r, l, p, t, hd, ck, so, dry, wh, up, ex, ig, fz, del, bk, suf, dir⟩ := o
 dsimp only at h1 h2
 unfold m_spec_OptsOk optsOk
 simp only [in_eq, Option.bind_some, bne, nilOf]
 refine bind_eq (x := (((), !((decide (del ≥ 0) && decide (del ≤ 3)) && (!(!(del == 0) && !r) && !(ck && so))), ()), (r, l, p, t, hd, ck, so, dry, wh, up, ex, ig, fz, del, bk, suf, dir, ()), ())) ?_ ?_
 ·cases (decide (del ≥ 0) && decide (del ≤ 3)) <;> cases del == 0 <;> cases r <;> cases ck <;> cases so <;> rfl
 ·dsimp only
  have e : ((decide (del ≥ 0) && decide (del ≤ 3)) && (!(!(del == 0) && !r) && (!(ck && so) && (cond bk (sufOk suf && ((dir == [] || pathOk dir) && !(suf == [] && dir == []))) (suf == [] && dir == []))))) = (((decide (del ≥ 0) && decide (del ≤ 3)) && (!(!(del == 0) && !r) && !(ck && so))) && (cond bk (sufOk suf && ((dir == [] || pathOk dir) && !(suf == [] && dir == []))) (suf == [] && dir == []))) := by
   simp only [Bool.and_assoc]
  rw [e]
  cases ((decide (del ≥ 0) && decide (del ≤ 3)) && (!(!(del == 0) && !r) && !(ck && so))) with
  | false => rfl
  | true =>
   simp only [Bool.not_true, cond_false, Bool.true_and]
   cases bk with
   | false =>
    simp only [Bool.not_false, cond_true, cond_false]
    cases suf == [] <;> rfl
   | true =>
    simp only [Bool.not_true, cond_true, cond_false]
    rw [spec_suffix _ h1, Option.bind_some]
    dsimp only
    cases sufOk suf with
    | false => rfl
    | true =>
     have hl : suf.length + dir.length < 2 ^ 63 := by show _ < 9223372036854775808; omega
     simp only [cond_true, Bool.true_and, if_pos hl, app_nil, spec_pathOk, Option.bind_some]
     cases dir == [] <;> cases pathOk dir <;> rfl
theorem impl_optsOk (o : OptsT) (h1 : o.2.2.2.2.2.2.2.2.2.2.2.2.2.2.2.1.length ≤ 1048576) (h2 : o.2.2.2.2.2.2.2.2.2.2.2.2.2.2.2.2.length ≤ 1048576) : m_impl_OptsOk o = some (optsOk o, ()) := by
 obtain ⟨r, l, p, t, hd, ck, so, dry, wh, up, ex, ig, fz, del, bk, suf, dir⟩ := o
 dsimp only at h1 h2
 unfold m_impl_OptsOk optsOk
 simp only [within_eq, Option.bind_some, bne, nilOf]
 refine bind_eq (x := (((), !((decide (del ≥ 0) && decide (del ≤ 3)) && (!(!(del == 0) && !r) && !(ck && so))), ()), (r, l, p, t, hd, ck, so, dry, wh, up, ex, ig, fz, del, bk, suf, dir, ()), ())) ?_ ?_
 ·cases (decide (del ≥ 0) && decide (del ≤ 3)) <;> cases del == 0 <;> cases r <;> cases ck <;> cases so <;> rfl
 ·dsimp only
  have e : ((decide (del ≥ 0) && decide (del ≤ 3)) && (!(!(del == 0) && !r) && (!(ck && so) && (cond bk (sufOk suf && ((dir == [] || pathOk dir) && !(suf == [] && dir == []))) (suf == [] && dir == []))))) = (((decide (del ≥ 0) && decide (del ≤ 3)) && (!(!(del == 0) && !r) && !(ck && so))) && (cond bk (sufOk suf && ((dir == [] || pathOk dir) && !(suf == [] && dir == []))) (suf == [] && dir == []))) := by
   simp only [Bool.and_assoc]
  rw [e]
  cases ((decide (del ≥ 0) && decide (del ≤ 3)) && (!(!(del == 0) && !r) && !(ck && so))) with
  | false => rfl
  | true =>
   simp only [Bool.not_true, cond_false, Bool.true_and]
   cases bk with
   | false =>
    simp only [Bool.not_false, cond_true, cond_false]
    cases suf == [] <;> rfl
   | true =>
    simp only [Bool.not_true, cond_true, cond_false, impl_pathOk, Option.bind_some]
    cases hsn : suf == [] with
    | true =>
     have : sufOk suf = true := by unfold sufOk; rw [hsn]; rfl
     rw [this]
     cases dir == [] <;> cases pathOk dir <;> rfl
    | false =>
     rw [impl_suffix _ h1 hsn]
     simp only [Option.bind_some, cond_false]
     cases sufOk suf <;> cases dir == [] <;> cases pathOk dir <;> rfl
set_option maxRecDepth 20000
def picks (l : List (UInt8 × Bool)) : List UInt8 := (l.filter (·.2)).map (·.1)
def flagsOf : OptsT → List (UInt8 × Bool)
 | (a0, a1, a2, a3, a4, a5, a6, a7, a8, a9, a10, a11, a12, d, a14, s, p) =>
  [(114, a0), (108, a1), (112, a2), (116, a3), (72, a4), (99, a5), (110, a7), (87, a8), (117, a9), (121, a12), (98, a14)]
def lettersOf (o : OptsT) : List UInt8 := bif o.1 && (o.2.1 && (o.2.2.1 && o.2.2.2.1)) then 97 :: picks ((flagsOf o).drop 4) else picks (flagsOf o)
def delW (d : Int) : List UInt8 := if d = 1 then [45, 45, 100, 101, 108, 101, 116, 101, 45, 98, 101, 102, 111, 114, 101] else if d = 2 then [45, 45, 100, 101, 108, 101, 116, 101] else [45, 45, 100, 101, 108, 101, 116, 101, 45, 97, 102, 116, 101, 114]
def addW (b : Bool) (w : List UInt8) (l : List (List UInt8)) : List (List UInt8) := bif b then l ++ [w] else l
def wordsOf : OptsT → List (List UInt8)
 | (a0, a1, a2, a3, a4, a5, a6, a7, a8, a9, a10, a11, a12, d, a14, s, p) =>
  addW (!p == []) ([45, 45, 98, 97, 99, 107, 117, 112, 45, 100, 105, 114, 61] ++ p)
  (addW (!s == [] && !(s == [46, 98, 97, 107] && p == [])) ([45, 45, 115, 117, 102, 102, 105, 120, 61] ++ s)
  (addW (d != 0) (delW d)
  (addW a11 [45, 45, 105, 103, 110, 111, 114, 101, 45, 101, 120, 105, 115, 116, 105, 110, 103]
  (addW a10 [45, 45, 101, 120, 105, 115, 116, 105, 110, 103]
  (addW a6 [45, 45, 115, 105, 122, 101, 45, 111, 110, 108, 121]
  (addW (!lettersOf (a0, a1, a2, a3, a4, a5, a6, a7, a8, a9, a10, a11, a12, d, a14, s, p) == []) (45 :: lettersOf (a0, a1, a2, a3, a4, a5, a6, a7, a8, a9, a10, a11, a12, d, a14, s, p)) []))))))
def showP (o : OptsT) : List UInt8 := if optsOk o then Go.Lib.join (wordsOf o) [32] else []
/-- One step of adding a word. -/
theorem add_eq (b : Bool) (w : List UInt8) (l : List (List UInt8)) (h : l.length ≤ 1000) : m_impl_ShowOpts_1 b w ((), ()) l = some ((), ((), ()), addW b w l, ()) := by
 unfold m_impl_ShowOpts_1
 cases b
 ·rfl
 ·simp only [cond_true, List.length_cons, List.length_nil]
  rw [if_pos (by omega)]; rfl
set_option maxRecDepth 20000
theorem optsOk_del {a0 a1 a2 a3 a4 a5 a6 a7 a8 a9 a10 a11 a12 : Bool} {d : Int} {a14 : Bool} {s p : List UInt8} (h : optsOk (a0, a1, a2, a3, a4, a5, a6, a7, a8, a9, a10, a11, a12, d, a14, s, p) = true) :
    (0 ≤ d ∧ d ≤ 3) ∧ s.length ≤ 8 ∧ p.length ≤ 168 := by
 unfold optsOk at h
 simp only [Bool.and_eq_true, decide_eq_true_eq] at h
 obtain ⟨⟨h1, h2⟩, _, _, h5⟩ := h
 refine ⟨⟨h1, h2⟩, ?_⟩
 cases a14
 ·simp only [cond_false, Bool.and_eq_true, beq_iff_eq] at h5
  rw [h5.1, h5.2]; simp
 ·simp only [cond_true, Bool.and_eq_true, Bool.or_eq_true, beq_iff_eq] at h5
  obtain ⟨q1, q2, _⟩ := h5
  unfold sufOk at q1
  simp only [Bool.or_eq_true, beq_iff_eq, Bool.and_eq_true, decide_eq_true_eq] at q1
  refine ⟨?_, ?_⟩
  ·rcases q1 with rfl | q1
   ·simp
   ·exact q1.1
  ·rcases q2 with rfl | q2
   ·simp
   ·unfold pathOk at q2
    simp only [Bool.and_eq_true, decide_eq_true_eq] at q2
    exact q2.1
theorem add_len (b : Bool) (w : List UInt8) (l : List (List UInt8)) (n : Nat) (h : l.length ≤ n) : (addW b w l).length ≤ n + 1 := by
 unfold addW; cases b
 ·simp only [cond_false]; omega
 ·simp only [cond_true, List.length_append, List.length_cons, List.length_nil]; omega
theorem add_all (b : Bool) (w : List UInt8) (l : List (List UInt8)) (hw : w.length ≤ 300) (h : ∀ x ∈ l, x.length ≤ 300) : ∀ x ∈ addW b w l, x.length ≤ 300 := by
 unfold addW; cases b
 ·exact h
 ·intro x hx
  simp only [cond_true, List.mem_append, List.mem_singleton] at hx
  rcases hx with hx | rfl
  ·exact h x hx
  ·exact hw
def joinB : List (List UInt8) → List UInt8
 | [] => []
 | [a] => a
 | a :: b :: r => a ++ 32 :: joinB (b :: r)
theorem joinB_eq : ∀ l : List (List UInt8), Go.Lib.join l [32] = joinB l
 | [] => rfl
 | [a] => by simp [Go.Lib.join, List.intercalate, joinB]
 | a :: b :: r => by
  have := joinB_eq (b :: r)
  simp only [Go.Lib.join, List.intercalate] at this ⊢
  rw [show List.intersperse [32] (a :: b :: r) = a :: [32] :: List.intersperse [32] (b :: r) from rfl]
  simp only [List.flatten_cons, this, joinB]
  rfl
theorem joinB_len : ∀ l : List (List UInt8), (∀ x ∈ l, x.length ≤ 300) → (joinB l).length ≤ 301 * l.length
 | [], _ => by simp [joinB]
 | [a], h => by have := h a (by simp); simp [joinB]; omega
 | a :: b :: r, h => by
  have h1 := h a (by simp)
  have h2 := joinB_len (b :: r) (fun x hx => h x (by simp at hx ⊢; exact .inr hx))
  simp only [joinB, List.length_append, List.length_cons] at h2 ⊢
  omega
theorem picks_len (l : List (UInt8 × Bool)) : (picks l).length ≤ l.length := by
 unfold picks; rw [List.length_map]; exact List.length_filter_le ..
theorem letters_len (o : OptsT) : (lettersOf o).length ≤ 12 := by
 have h1 := picks_len (flagsOf o)
 have h2 := picks_len ((flagsOf o).drop 4)
 have h3 : (flagsOf o).length = 11 := rfl
 unfold lettersOf
 cases o.1 && (o.2.1 && (o.2.2.1 && o.2.2.2.1))
 ·simp only [cond_false]; omega
 ·simp only [cond_true, List.length_cons]; rw [List.length_drop] at h2; omega
theorem delW_len (d : Int) : (delW d).length ≤ 300 := by unfold delW; (split <;> try split) <;> simp
theorem wordsOf_len (o : OptsT) (hs : o.2.2.2.2.2.2.2.2.2.2.2.2.2.2.2.1.length ≤ 8) (hp : o.2.2.2.2.2.2.2.2.2.2.2.2.2.2.2.2.length ≤ 168) : (wordsOf o).length ≤ 7 ∧ ∀ x ∈ wordsOf o, x.length ≤ 300 := by
 obtain ⟨a0, a1, a2, a3, a4, a5, a6, a7, a8, a9, a10, a11, a12, d, a14, s, p⟩ := o
 have hl := letters_len (a0, a1, a2, a3, a4, a5, a6, a7, a8, a9, a10, a11, a12, d, a14, s, p)
 refine ⟨add_len _ _ _ _ (add_len _ _ _ _ (add_len _ _ _ _ (add_len _ _ _ _ (add_len _ _ _ _ (add_len _ _ _ _ (add_len _ _ _ 0 (by simp))))))), ?_⟩
 dsimp only at hs hp
 refine add_all _ _ _ (by simp; omega) (add_all _ _ _ (by simp; omega) (add_all _ _ _ (delW_len d) (add_all _ _ _ (by simp) (add_all _ _ _ (by simp) (add_all _ _ _ (by simp) (add_all _ _ _ (by simp; omega) (by simp)))))))
theorem words_ne {L : List UInt8} : ((45 : UInt8) :: L == [45]) = (L == []) := by cases L <;> simp
theorem getWords (d : Int) (h0 : 0 ≤ d) (h3 : d ≤ 3) (l : List (List UInt8)) :
    addW (d != 0) (List.getD [nilOf UInt8, [45, 45, 100, 101, 108, 101, 116, 101, 45, 98, 101, 102, 111, 114, 101], [45, 45, 100, 101, 108, 101, 116, 101], [45, 45, 100, 101, 108, 101, 116, 101, 45, 97, 102, 116, 101, 114]] d.toNat (nilOf UInt8)) l = addW (d != 0) (delW d) l := by
 rcases (by omega : d = 0 ∨ d = 1 ∨ d = 2 ∨ d = 3) with rfl | rfl | rfl | rfl <;> rfl
theorem impl_showOpts (o : OptsT) (h1 : o.2.2.2.2.2.2.2.2.2.2.2.2.2.2.2.1.length ≤ 1048576) (h2 : o.2.2.2.2.2.2.2.2.2.2.2.2.2.2.2.2.length ≤ 1048576) : m_impl_ShowOpts o = some (showP o, ()) := by
 obtain ⟨a0, a1, a2, a3, a4, a5, a6, a7, a8, a9, a10, a11, a12, d, a14, s, p⟩ := o
 unfold m_impl_ShowOpts showP
 refine bind_eq (impl_optsOk _ h1 h2) ?_
 dsimp only
 cases hok : optsOk (a0, a1, a2, a3, a4, a5, a6, a7, a8, a9, a10, a11, a12, d, a14, s, p)
 ·rfl
 obtain ⟨⟨hd0, hd3⟩, hs8, hp⟩ := optsOk_del hok
 simp only [Bool.not_true, cond_false, if_true]
 refine bind_eq (x := (((), ((a0, a1, a2, a3, a4, a5, a6, a7, a8, a9, a10, a11, a12, d, a14, s, p, ()), (114, (), 108, (), 112, (), 116, (), 72, (), 99, (), 110, (), 87, (), 117, (), 121, (), 98, (), ()), ())))) rfl ?_
 dsimp only
 refine bind_eq (x := (((), (), [45], a0 && (a1 && (a2 && a3)), ()), (a0, a1, a2, a3, a4, a5, a6, a7, a8, a9, a10, a11, a12, d, a14, s, p, ()), (114, (), 108, (), 112, (), 116, (), 72, (), 99, (), 110, (), 87, (), 117, (), 121, (), 98, (), ()), ())) (by cases a0 <;> cases a1 <;> cases a2 <;> rfl) ?_
 dsimp only
 have hlet : lettersOf (a0, a1, a2, a3, a4, a5, a6, a7, a8, a9, a10, a11, a12, d, a14, s, p) = bif a0 && (a1 && (a2 && a3)) then 97 :: picks ((flagsOf (a0, a1, a2, a3, a4, a5, a6, a7, a8, a9, a10, a11, a12, d, a14, s, p)).drop 4) else picks (flagsOf (a0, a1, a2, a3, a4, a5, a6, a7, a8, a9, a10, a11, a12, d, a14, s, p)) := rfl
 have hll := letters_len (a0, a1, a2, a3, a4, a5, a6, a7, a8, a9, a10, a11, a12, d, a14, s, p)
 have hwl := wordsOf_len (a0, a1, a2, a3, a4, a5, a6, a7, a8, a9, a10, a11, a12, d, a14, s, p) hs8 hp
 generalize hall : (a0 && (a1 && (a2 && a3))) = all at hlet ⊢
 refine bind_eq (x := (((), (bif all then (8, 7) else (0, 11)), (bif all then [45, 97] else [45]), ()), (a0, a1, a2, a3, a4, a5, a6, a7, a8, a9, a10, a11, a12, d, a14, s, p, ()), (114, (), 108, (), 112, (), 116, (), 72, (), 99, (), 110, (), 87, (), 117, (), 121, (), 98, (), ()), ())) (by cases all <;> rfl) ?_
 dsimp only
 refine bind_eq (x := (((), 45 :: lettersOf (a0, a1, a2, a3, a4, a5, a6, a7, a8, a9, a10, a11, a12, d, a14, s, p), ()), (a0, a1, a2, a3, a4, a5, a6, a7, a8, a9, a10, a11, a12, d, a14, s, p, ()), ())) ?_ ?_
 ·rw [hlet]
  cases all
  ·simp only [cond_false]
   refine (loopC_inv _ (fun n t => ∃ (i : Nat) (acc : List UInt8), i ≤ 11 ∧ n = 11 - i ∧ acc.length ≤ i + 2 ∧ t = (((), acc, (0, 11), 11, (i : Int), ()), (a0, a1, a2, a3, a4, a5, a6, a7, a8, a9, a10, a11, a12, d, a14, s, p, ()), (114, (), 108, (), 112, (), 116, (), 72, (), 99, (), 110, (), 87, (), 117, (), 121, (), 98, (), ()), ()))
    (fun t => some (((), t.1.2.1 ++ picks ((flagsOf (a0, a1, a2, a3, a4, a5, a6, a7, a8, a9, a10, a11, a12, d, a14, s, p)).drop t.1.2.2.2.2.1.toNat), ()), (a0, a1, a2, a3, a4, a5, a6, a7, a8, a9, a10, a11, a12, d, a14, s, p, ()), ())) ?_ _ 11 _ ⟨0, [45], by omega, by omega, by simp, rfl⟩ (by omega)).trans ?_
   ·rintro n t k ⟨i, acc, hi, rfl, hl, rfl⟩ hk
    have step : ∀ (j : Nat) (acc' : List UInt8), i < j → j ≤ 11 → acc'.length ≤ j + 2 → k (((), acc', (0, 11), 11, (j : Int), ()), (a0, a1, a2, a3, a4, a5, a6, a7, a8, a9, a10, a11, a12, d, a14, s, p, ()), (114, (), 108, (), 112, (), 116, (), 72, (), 99, (), 110, (), 87, (), 117, (), 121, (), 98, (), ()), ()) = _ :=
     fun j acc' h1 h2 h3 => hk (11 - j) _ (by omega) ⟨j, acc', h2, rfl, h3, rfl⟩
    have hlt : acc.length + 1 < 2 ^ 63 := by omega
    have hcase : i = 0 ∨ i = 1 ∨ i = 2 ∨ i = 3 ∨ i = 4 ∨ i = 5 ∨ i = 6 ∨ i = 7 ∨ i = 8 ∨ i = 9 ∨ i = 10 ∨ i = 11 := by omega
    rcases hcase with rfl | rfl | rfl | rfl | rfl | rfl | rfl | rfl | rfl | rfl | rfl | rfl
    ·cases a0
     ·exact (step 1 acc (by omega) (by omega) (by omega)).trans (by simp [flagsOf, picks])
     ·refine Eq.trans ?_ ((step 1 (acc ++ [114]) (by omega) (by omega) (by simp; omega)).trans ?_)
      ·simp [hlt, wr]
      ·simp [flagsOf, picks]
    ·cases a1
     ·exact (step 2 acc (by omega) (by omega) (by omega)).trans (by simp [flagsOf, picks])
     ·refine Eq.trans ?_ ((step 2 (acc ++ [108]) (by omega) (by omega) (by simp; omega)).trans ?_)
      ·simp [hlt, wr]
      ·simp [flagsOf, picks]
    ·cases a2
     ·exact (step 3 acc (by omega) (by omega) (by omega)).trans (by simp [flagsOf, picks])
     ·refine Eq.trans ?_ ((step 3 (acc ++ [112]) (by omega) (by omega) (by simp; omega)).trans ?_)
      ·simp [hlt, wr]
      ·simp [flagsOf, picks]
    ·cases a3
     ·exact (step 4 acc (by omega) (by omega) (by omega)).trans (by simp [flagsOf, picks])
     ·refine Eq.trans ?_ ((step 4 (acc ++ [116]) (by omega) (by omega) (by simp; omega)).trans ?_)
      ·simp [hlt, wr]
      ·simp [flagsOf, picks]
    ·cases a4
     ·exact (step 5 acc (by omega) (by omega) (by omega)).trans (by simp [flagsOf, picks])
     ·refine Eq.trans ?_ ((step 5 (acc ++ [72]) (by omega) (by omega) (by simp; omega)).trans ?_)
      ·simp [hlt, wr]
      ·simp [flagsOf, picks]
    ·cases a5
     ·exact (step 6 acc (by omega) (by omega) (by omega)).trans (by simp [flagsOf, picks])
     ·refine Eq.trans ?_ ((step 6 (acc ++ [99]) (by omega) (by omega) (by simp; omega)).trans ?_)
      ·simp [hlt, wr]
      ·simp [flagsOf, picks]
    ·cases a7
     ·exact (step 7 acc (by omega) (by omega) (by omega)).trans (by simp [flagsOf, picks])
     ·refine Eq.trans ?_ ((step 7 (acc ++ [110]) (by omega) (by omega) (by simp; omega)).trans ?_)
      ·simp [hlt, wr]
      ·simp [flagsOf, picks]
    ·cases a8
     ·exact (step 8 acc (by omega) (by omega) (by omega)).trans (by simp [flagsOf, picks])
     ·refine Eq.trans ?_ ((step 8 (acc ++ [87]) (by omega) (by omega) (by simp; omega)).trans ?_)
      ·simp [hlt, wr]
      ·simp [flagsOf, picks]
    ·cases a9
     ·exact (step 9 acc (by omega) (by omega) (by omega)).trans (by simp [flagsOf, picks])
     ·refine Eq.trans ?_ ((step 9 (acc ++ [117]) (by omega) (by omega) (by simp; omega)).trans ?_)
      ·simp [hlt, wr]
      ·simp [flagsOf, picks]
    ·cases a12
     ·exact (step 10 acc (by omega) (by omega) (by omega)).trans (by simp [flagsOf, picks])
     ·refine Eq.trans ?_ ((step 10 (acc ++ [121]) (by omega) (by omega) (by simp; omega)).trans ?_)
      ·simp [hlt, wr]
      ·simp [flagsOf, picks]
    ·cases a14
     ·exact (step 11 acc (by omega) (by omega) (by omega)).trans (by simp [flagsOf, picks])
     ·refine Eq.trans ?_ ((step 11 (acc ++ [98]) (by omega) (by omega) (by simp; omega)).trans ?_)
      ·simp [hlt, wr]
      ·simp [flagsOf, picks]
    ·simp [flagsOf, picks]
   ·simp [picks]
  ·simp only [cond_true]
   generalize hfl : (flagsOf (a0, a1, a2, a3, a4, a5, a6, a7, a8, a9, a10, a11, a12, d, a14, s, p)).drop 4 = fl4
   have hfl' := hfl
   unfold flagsOf at hfl'
   simp only [List.drop_succ_cons, List.drop_zero] at hfl'
   rw [← hfl]
   refine (loopC_inv _ (fun n t => ∃ (i : Nat) (acc : List UInt8), i ≤ 7 ∧ n = 7 - i ∧ acc.length ≤ i + 2 ∧ t = (((), acc, (8, 7), 7, (i : Int), ()), (a0, a1, a2, a3, a4, a5, a6, a7, a8, a9, a10, a11, a12, d, a14, s, p, ()), (114, (), 108, (), 112, (), 116, (), 72, (), 99, (), 110, (), 87, (), 117, (), 121, (), 98, (), ()), ()))
    (fun t => some (((), t.1.2.1 ++ picks (((flagsOf (a0, a1, a2, a3, a4, a5, a6, a7, a8, a9, a10, a11, a12, d, a14, s, p)).drop 4).drop t.1.2.2.2.2.1.toNat), ()), (a0, a1, a2, a3, a4, a5, a6, a7, a8, a9, a10, a11, a12, d, a14, s, p, ()), ())) ?_ _ 7 _ ⟨0, [45, 97], by omega, by omega, by simp, rfl⟩ (by omega)).trans ?_
   ·rintro n t k ⟨i, acc, hi, rfl, hl, rfl⟩ hk
    have step : ∀ (j : Nat) (acc' : List UInt8), i < j → j ≤ 7 → acc'.length ≤ j + 2 → k (((), acc', (8, 7), 7, (j : Int), ()), (a0, a1, a2, a3, a4, a5, a6, a7, a8, a9, a10, a11, a12, d, a14, s, p, ()), (114, (), 108, (), 112, (), 116, (), 72, (), 99, (), 110, (), 87, (), 117, (), 121, (), 98, (), ()), ()) = _ :=
     fun j acc' h1 h2 h3 => hk (7 - j) _ (by omega) ⟨j, acc', h2, rfl, h3, rfl⟩
    have hlt : acc.length + 1 < 2 ^ 63 := by omega
    have hcase : i = 0 ∨ i = 1 ∨ i = 2 ∨ i = 3 ∨ i = 4 ∨ i = 5 ∨ i = 6 ∨ i = 7 := by omega
    rcases hcase with rfl | rfl | rfl | rfl | rfl | rfl | rfl | rfl
    ·cases a4
     ·exact (step 1 acc (by omega) (by omega) (by omega)).trans (by simp [flagsOf, picks])
     ·refine Eq.trans ?_ ((step 1 (acc ++ [72]) (by omega) (by omega) (by simp; omega)).trans ?_)
      ·simp [hlt, wr, show Nat.beq 8 0 = false from rfl, show Nat.beq 7 11 = false from rfl, show Nat.beq 8 8 = true from rfl, show Nat.beq 7 7 = true from rfl]
      ·simp [flagsOf, picks]
    ·cases a5
     ·exact (step 2 acc (by omega) (by omega) (by omega)).trans (by simp [flagsOf, picks])
     ·refine Eq.trans ?_ ((step 2 (acc ++ [99]) (by omega) (by omega) (by simp; omega)).trans ?_)
      ·simp [hlt, wr, show Nat.beq 8 0 = false from rfl, show Nat.beq 7 11 = false from rfl, show Nat.beq 8 8 = true from rfl, show Nat.beq 7 7 = true from rfl]
      ·simp [flagsOf, picks]
    ·cases a7
     ·exact (step 3 acc (by omega) (by omega) (by omega)).trans (by simp [flagsOf, picks])
     ·refine Eq.trans ?_ ((step 3 (acc ++ [110]) (by omega) (by omega) (by simp; omega)).trans ?_)
      ·simp [hlt, wr, show Nat.beq 8 0 = false from rfl, show Nat.beq 7 11 = false from rfl, show Nat.beq 8 8 = true from rfl, show Nat.beq 7 7 = true from rfl]
      ·simp [flagsOf, picks]
    ·cases a8
     ·exact (step 4 acc (by omega) (by omega) (by omega)).trans (by simp [flagsOf, picks])
     ·refine Eq.trans ?_ ((step 4 (acc ++ [87]) (by omega) (by omega) (by simp; omega)).trans ?_)
      ·simp [hlt, wr, show Nat.beq 8 0 = false from rfl, show Nat.beq 7 11 = false from rfl, show Nat.beq 8 8 = true from rfl, show Nat.beq 7 7 = true from rfl]
      ·simp [flagsOf, picks]
    ·cases a9
     ·exact (step 5 acc (by omega) (by omega) (by omega)).trans (by simp [flagsOf, picks])
     ·refine Eq.trans ?_ ((step 5 (acc ++ [117]) (by omega) (by omega) (by simp; omega)).trans ?_)
      ·simp [hlt, wr, show Nat.beq 8 0 = false from rfl, show Nat.beq 7 11 = false from rfl, show Nat.beq 8 8 = true from rfl, show Nat.beq 7 7 = true from rfl]
      ·simp [flagsOf, picks]
    ·cases a12
     ·exact (step 6 acc (by omega) (by omega) (by omega)).trans (by simp [flagsOf, picks])
     ·refine Eq.trans ?_ ((step 6 (acc ++ [121]) (by omega) (by omega) (by simp; omega)).trans ?_)
      ·simp [hlt, wr, show Nat.beq 8 0 = false from rfl, show Nat.beq 7 11 = false from rfl, show Nat.beq 8 8 = true from rfl, show Nat.beq 7 7 = true from rfl]
      ·simp [flagsOf, picks]
    ·cases a14
     ·exact (step 7 acc (by omega) (by omega) (by omega)).trans (by simp [flagsOf, picks])
     ·refine Eq.trans ?_ ((step 7 (acc ++ [98]) (by omega) (by omega) (by simp; omega)).trans ?_)
      ·simp [hlt, wr, show Nat.beq 8 0 = false from rfl, show Nat.beq 7 11 = false from rfl, show Nat.beq 8 8 = true from rfl, show Nat.beq 7 7 = true from rfl]
      ·simp [flagsOf, picks]
    ·simp [flagsOf, picks]
   ·simp [picks]
 ·dsimp only
  unfold wordsOf at hwl ⊢
  dsimp only at hwl ⊢
  rw [words_ne]
  generalize lettersOf (a0, a1, a2, a3, a4, a5, a6, a7, a8, a9, a10, a11, a12, d, a14, s, p) = L at hll hwl ⊢
  refine bind_eq (add_eq _ _ _ (by simp)) ?_
  refine bind_eq (add_eq _ _ _ (Nat.le_trans (add_len _ _ _ 0 (by simp)) (by omega))) ?_
  refine bind_eq (add_eq _ _ _ (Nat.le_trans (add_len _ _ _ _ (add_len _ _ _ 0 (by simp))) (by omega))) ?_
  refine bind_eq (add_eq _ _ _ (Nat.le_trans (add_len _ _ _ _ (add_len _ _ _ _ (add_len _ _ _ 0 (by simp)))) (by omega))) ?_
  refine bind_eq (x := ([nilOf UInt8, [45, 45, 100, 101, 108, 101, 116, 101, 45, 98, 101, 102, 111, 114, 101], [45, 45, 100, 101, 108, 101, 116, 101], [45, 45, 100, 101, 108, 101, 116, 101, 45, 97, 102, 116, 101, 114]], ())) rfl ?_
  dsimp only
  rw [if_pos (by simp; omega)]
  have hn : (nilOf (List UInt8)) = [] := rfl
  rw [hn]
  refine bind_eq (add_eq _ _ _ (Nat.le_trans (add_len _ _ _ _ (add_len _ _ _ _ (add_len _ _ _ _ (add_len _ _ _ 0 (by simp))))) (by omega))) ?_
  rw [getWords d hd0 hd3]
  generalize hw5 : addW (d != 0) (delW d) _ = l5
  have hl5 : l5.length ≤ 5 := by rw [← hw5]; exact add_len _ _ _ _ (add_len _ _ _ _ (add_len _ _ _ _ (add_len _ _ _ _ (add_len _ _ _ 0 (by simp)))))
  dsimp only
  refine bind_eq (x := (((), (), (), ()), (a0, a1, a2, a3, a4, a5, a6, a7, a8, a9, a10, a11, a12, d, a14, s, p, ()), ((), ()), addW (!s == [] && !(s == [46, 98, 97, 107] && p == [])) ([45, 45, 115, 117, 102, 102, 105, 120, 61] ++ s) l5, ())) ?_ ?_
  ·have hlt : ([45, 45, 115, 117, 102, 102, 105, 120, 61] : List UInt8).length + s.length < 2 ^ 63 := by simp; omega
   have hn8 : nilOf UInt8 = [] := rfl
   rw [hn8]
   cases q1 : s == []
   ·simp only [Bool.not_false, cond_true, Bool.true_and]
    cases q2 : s == [46, 98, 97, 107]
    ·simp only [cond_false]
     rw [if_pos hlt]
     refine bind_eq (add_eq _ _ _ (by omega)) ?_
     rfl
    ·simp only [cond_true]
     rw [if_pos hlt]
     refine bind_eq (add_eq _ _ _ (by omega)) ?_
     simp
   ·simp only [Bool.not_true, cond_false, Bool.false_and]
    rw [if_pos hlt]
    refine bind_eq (add_eq _ _ _ (by omega)) ?_
    rfl
  dsimp only
  rw [if_pos (by simp; omega)]
  refine bind_eq (add_eq _ _ _ (Nat.le_trans (add_len _ _ _ 5 hl5) (by omega))) ?_
  have hn8 : nilOf UInt8 = [] := rfl
  rw [hn8]
  refine bind_eq (x := (_, ())) ?_ rfl
  unfold m_strings_Join joinM
  have hj := joinB_len _ hwl.2
  dsimp only
  rw [hw5] at hwl hj
  rw [if_pos ⟨by omega, by rw [joinB_eq]; omega⟩]
set_option maxRecDepth 20000
def joinT (l : List (List UInt8)) : List UInt8 := l.flatMap fun w => 32 :: w
theorem joinB_cons (a : List UInt8) : ∀ r : List (List UInt8), joinB (a :: r) = a ++ joinT r
 | [] => by simp [joinB, joinT]
 | b :: r => by
  have := joinB_cons b r
  simp only [joinB, this, joinT, List.flatMap_cons, List.cons_append]
def jt (i : Nat) (l : List (List UInt8)) : List UInt8 := if i = 0 then joinB l else joinT l
theorem wordsLoop (W : List (List UInt8)) (hW : W.length ≤ 7) (hw : ∀ x ∈ W, x.length ≤ 300) (fuel : Nat) (hf : W.length < fuel) :
    loopC fuel (fun (s : (Unit × List UInt8 × Int × Unit) × List (List UInt8) × Unit) (k : ((Unit × List UInt8 × Int × Unit) × List (List UInt8) × Unit) → Option ((List UInt8 × Unit) × Unit)) =>
     bif decide (s.1.2.2.1 < (s.2.1.length : Int)) then Option.bind (bif decide (s.1.2.2.1 > 0) then if s.1.2.1.length + ([32] : List UInt8).length < (2 : Nat) ^ (63 : Nat) then some (((), s.1.2.1 ++ [32], s.1.2.2), s.2) else none else some (((), s.1.2), s.2)) fun s =>
      if 0 ≤ s.1.2.2.1 ∧ s.1.2.2.1 < (s.2.1.length : Int) then if s.1.2.2.1.toNat < s.2.1.length then if s.1.2.1.length + (s.2.1.getD s.1.2.2.1.toNat (nilOf UInt8)).length < (2 : Nat) ^ (63 : Nat) then k (((), s.1.2.1 ++ s.2.1.getD s.1.2.2.1.toNat (nilOf UInt8), IntKind.wrap .i64 (s.1.2.2.1 + 1), ()), s.2) else none else none else none else some ((s.1.2.1, ()), ())) (((), nilOf UInt8, 0, ()), W, ()) = some ((joinB W, ()), ()) := by
 refine (loopC_inv _ (fun n t => ∃ (i : Nat) (acc : List UInt8), i ≤ W.length ∧ n = W.length - i ∧ acc.length ≤ 301 * i ∧ (i = 0 → acc = []) ∧ t = (((), acc, (i : Int), ()), W, ()))
  (fun t => some ((t.1.2.1 ++ jt t.1.2.2.1.toNat (W.drop t.1.2.2.1.toNat), ()), ())) ?_ _ W.length _ ⟨0, [], by omega, by omega, by simp, fun _ => rfl, rfl⟩ hf).trans ?_
 ·rintro n t k ⟨i, acc, hi, rfl, hl, h0, rfl⟩ hk
  dsimp only
  by_cases hlt : i < W.length
  ·have hd : decide ((i : Int) < (W.length : Int)) = true := by simpa using hlt
   rw [hd, cond_true]
   have hm := hw _ (getD_mem (nilOf UInt8) hlt)
   refine bind_eq (x := (((), acc ++ (if i = 0 then [] else [32]), (i : Int), ()), W, ())) ?_ ?_
   ·by_cases hz : i = 0
    ·subst hz; simp
    ·have : decide ((i : Int) > 0) = true := by simp; omega
     rw [this, cond_true, if_pos (by simp; omega), if_neg hz]
   ·dsimp only
    have hal : (acc ++ (if i = 0 then [] else [32])).length ≤ 301 * i + 1 := by rw [List.length_append]; split <;> simp <;> omega
    rw [if_pos ⟨by omega, by omega⟩, if_pos (by omega), if_pos (by simp only [Int.toNat_natCast]; omega), wr1 _ (by omega)]
    refine (hk (W.length - (i + 1)) _ (by omega) ⟨i + 1, _, by omega, rfl, ?_, by omega, rfl⟩).trans ?_
    ·simp only [Int.toNat_natCast, List.length_append] at hal ⊢; omega
    ·simp only [Int.toNat_natCast, Option.some.injEq, Prod.mk.injEq, and_true]
     rw [drop_getD (nilOf UInt8) hlt]
     unfold jt
     rw [if_neg (Nat.succ_ne_zero i)]
     by_cases hz : i = 0
     ·rw [if_pos hz, if_pos hz, joinB_cons]; simp
     ·rw [if_neg hz, if_neg hz]; simp [joinT]
  ·have hd : decide ((i : Int) < (W.length : Int)) = false := by simpa using Nat.le_of_not_lt hlt
   rw [hd, cond_false]
   have : W.drop i = [] := List.drop_eq_nil_of_le (by omega)
   simp only [Int.toNat_natCast, this]
   unfold jt; split <;> simp [joinB, joinT]
 ·simp [jt]
theorem spec_showOpts (o : OptsT) (h1 : o.2.2.2.2.2.2.2.2.2.2.2.2.2.2.2.1.length ≤ 1048576) (h2 : o.2.2.2.2.2.2.2.2.2.2.2.2.2.2.2.2.length ≤ 1048576) : m_spec_ShowOpts o = some (showP o, ()) := by
 obtain ⟨a0, a1, a2, a3, a4, a5, a6, a7, a8, a9, a10, a11, a12, d, a14, s, p⟩ := o
 unfold m_spec_ShowOpts showP
 refine bind_eq (spec_optsOk _ h1 h2) ?_
 dsimp only
 cases hok : optsOk (a0, a1, a2, a3, a4, a5, a6, a7, a8, a9, a10, a11, a12, d, a14, s, p)
 ·rfl
 obtain ⟨⟨hd0, hd3⟩, hs8, hp⟩ := optsOk_del hok
 simp only [Bool.not_true, cond_false, if_true]
 refine bind_eq (x := (((), [], (), a0 && (a1 && (a2 && a3)), ()), (a0, a1, a2, a3, a4, a5, a6, a7, a8, a9, a10, a11, a12, d, a14, s, p, ()), [a0, a1, a2, a3, a4, a5, a7, a8, a9, a12, a14], ())) (by cases a0 <;> cases a1 <;> cases a2 <;> rfl) ?_
 dsimp only
 have hlet : lettersOf (a0, a1, a2, a3, a4, a5, a6, a7, a8, a9, a10, a11, a12, d, a14, s, p) = bif a0 && (a1 && (a2 && a3)) then 97 :: picks ((flagsOf (a0, a1, a2, a3, a4, a5, a6, a7, a8, a9, a10, a11, a12, d, a14, s, p)).drop 4) else picks (flagsOf (a0, a1, a2, a3, a4, a5, a6, a7, a8, a9, a10, a11, a12, d, a14, s, p)) := rfl
 have hll := letters_len (a0, a1, a2, a3, a4, a5, a6, a7, a8, a9, a10, a11, a12, d, a14, s, p)
 have hwl := wordsOf_len (a0, a1, a2, a3, a4, a5, a6, a7, a8, a9, a10, a11, a12, d, a14, s, p) hs8 hp
 generalize hall : (a0 && (a1 && (a2 && a3))) = all at hlet ⊢
 refine bind_eq (x := (((), (bif all then [97] else []), (), all, ()), (a0, a1, a2, a3, a4, a5, a6, a7, a8, a9, a10, a11, a12, d, a14, s, p, ()), [a0, a1, a2, a3, a4, a5, a7, a8, a9, a12, a14], ())) (by cases all <;> rfl) ?_
 dsimp only
 refine bind_eq (x := (((), lettersOf (a0, a1, a2, a3, a4, a5, a6, a7, a8, a9, a10, a11, a12, d, a14, s, p), ()), (a0, a1, a2, a3, a4, a5, a6, a7, a8, a9, a10, a11, a12, d, a14, s, p, ()), ())) ?_ ?_
 ·rw [hlet]
  cases all
  ·simp only [cond_false]
   refine (loopC_inv _ (fun n t => ∃ (i : Nat) (acc : List UInt8), i ≤ 11 ∧ n = 11 - i ∧ acc.length ≤ i + 1 ∧ t = (((), acc, (), false, (i : Int), ()), (a0, a1, a2, a3, a4, a5, a6, a7, a8, a9, a10, a11, a12, d, a14, s, p, ()), [a0, a1, a2, a3, a4, a5, a7, a8, a9, a12, a14], ()))
    (fun t => some (((), t.1.2.1 ++ picks ((flagsOf (a0, a1, a2, a3, a4, a5, a6, a7, a8, a9, a10, a11, a12, d, a14, s, p)).drop t.1.2.2.2.2.1.toNat), ()), (a0, a1, a2, a3, a4, a5, a6, a7, a8, a9, a10, a11, a12, d, a14, s, p, ()), ())) ?_ _ 11 _ ⟨0, [], by omega, by omega, by simp, rfl⟩ (by omega)).trans ?_
   ·rintro n t k ⟨i, acc, hi, rfl, hl, rfl⟩ hk
    have step : ∀ (j : Nat) (acc' : List UInt8), i < j → j ≤ 11 → acc'.length ≤ j + 1 → k (((), acc', (), false, (j : Int), ()), (a0, a1, a2, a3, a4, a5, a6, a7, a8, a9, a10, a11, a12, d, a14, s, p, ()), [a0, a1, a2, a3, a4, a5, a7, a8, a9, a12, a14], ()) = _ :=
     fun j acc' h1 h2 h3 => hk (11 - j) _ (by omega) ⟨j, acc', h2, rfl, h3, rfl⟩
    have hlt : acc.length + 1 < 2 ^ 63 := by omega
    have hcase : i = 0 ∨ i = 1 ∨ i = 2 ∨ i = 3 ∨ i = 4 ∨ i = 5 ∨ i = 6 ∨ i = 7 ∨ i = 8 ∨ i = 9 ∨ i = 10 ∨ i = 11 := by omega
    rcases hcase with rfl | rfl | rfl | rfl | rfl | rfl | rfl | rfl | rfl | rfl | rfl | rfl
    ·cases a0
     ·refine Eq.trans ?_ ((step 1 acc (by omega) (by omega) (by (try simp); omega)).trans ?_)
      ·simp [hlt, wr]
      ·simp [flagsOf, picks]
     ·refine Eq.trans ?_ ((step 1 (acc ++ [114]) (by omega) (by omega) (by (try simp); omega)).trans ?_)
      ·simp [hlt, wr]
      ·simp [flagsOf, picks]
    ·cases a1
     ·refine Eq.trans ?_ ((step 2 acc (by omega) (by omega) (by (try simp); omega)).trans ?_)
      ·simp [hlt, wr]
      ·simp [flagsOf, picks]
     ·refine Eq.trans ?_ ((step 2 (acc ++ [108]) (by omega) (by omega) (by (try simp); omega)).trans ?_)
      ·simp [hlt, wr]
      ·simp [flagsOf, picks]
    ·cases a2
     ·refine Eq.trans ?_ ((step 3 acc (by omega) (by omega) (by (try simp); omega)).trans ?_)
      ·simp [hlt, wr]
      ·simp [flagsOf, picks]
     ·refine Eq.trans ?_ ((step 3 (acc ++ [112]) (by omega) (by omega) (by (try simp); omega)).trans ?_)
      ·simp [hlt, wr]
      ·simp [flagsOf, picks]
    ·cases a3
     ·refine Eq.trans ?_ ((step 4 acc (by omega) (by omega) (by (try simp); omega)).trans ?_)
      ·simp [hlt, wr]
      ·simp [flagsOf, picks]
     ·refine Eq.trans ?_ ((step 4 (acc ++ [116]) (by omega) (by omega) (by (try simp); omega)).trans ?_)
      ·simp [hlt, wr]
      ·simp [flagsOf, picks]
    ·cases a4
     ·refine Eq.trans ?_ ((step 5 acc (by omega) (by omega) (by (try simp); omega)).trans ?_)
      ·simp [hlt, wr]
      ·simp [flagsOf, picks]
     ·refine Eq.trans ?_ ((step 5 (acc ++ [72]) (by omega) (by omega) (by (try simp); omega)).trans ?_)
      ·simp [hlt, wr]
      ·simp [flagsOf, picks]
    ·cases a5
     ·refine Eq.trans ?_ ((step 6 acc (by omega) (by omega) (by (try simp); omega)).trans ?_)
      ·simp [hlt, wr]
      ·simp [flagsOf, picks]
     ·refine Eq.trans ?_ ((step 6 (acc ++ [99]) (by omega) (by omega) (by (try simp); omega)).trans ?_)
      ·simp [hlt, wr]
      ·simp [flagsOf, picks]
    ·cases a7
     ·refine Eq.trans ?_ ((step 7 acc (by omega) (by omega) (by (try simp); omega)).trans ?_)
      ·simp [hlt, wr]
      ·simp [flagsOf, picks]
     ·refine Eq.trans ?_ ((step 7 (acc ++ [110]) (by omega) (by omega) (by (try simp); omega)).trans ?_)
      ·simp [hlt, wr]
      ·simp [flagsOf, picks]
    ·cases a8
     ·refine Eq.trans ?_ ((step 8 acc (by omega) (by omega) (by (try simp); omega)).trans ?_)
      ·simp [hlt, wr]
      ·simp [flagsOf, picks]
     ·refine Eq.trans ?_ ((step 8 (acc ++ [87]) (by omega) (by omega) (by (try simp); omega)).trans ?_)
      ·simp [hlt, wr]
      ·simp [flagsOf, picks]
    ·cases a9
     ·refine Eq.trans ?_ ((step 9 acc (by omega) (by omega) (by (try simp); omega)).trans ?_)
      ·simp [hlt, wr]
      ·simp [flagsOf, picks]
     ·refine Eq.trans ?_ ((step 9 (acc ++ [117]) (by omega) (by omega) (by (try simp); omega)).trans ?_)
      ·simp [hlt, wr]
      ·simp [flagsOf, picks]
    ·cases a12
     ·refine Eq.trans ?_ ((step 10 acc (by omega) (by omega) (by (try simp); omega)).trans ?_)
      ·simp [hlt, wr]
      ·simp [flagsOf, picks]
     ·refine Eq.trans ?_ ((step 10 (acc ++ [121]) (by omega) (by omega) (by (try simp); omega)).trans ?_)
      ·simp [hlt, wr]
      ·simp [flagsOf, picks]
    ·cases a14
     ·refine Eq.trans ?_ ((step 11 acc (by omega) (by omega) (by (try simp); omega)).trans ?_)
      ·simp [hlt, wr]
      ·simp [flagsOf, picks]
     ·refine Eq.trans ?_ ((step 11 (acc ++ [98]) (by omega) (by omega) (by (try simp); omega)).trans ?_)
      ·simp [hlt, wr]
      ·simp [flagsOf, picks]
    ·simp [flagsOf, picks]
   ·simp [picks]
  ·simp only [cond_true]
   refine (loopC_inv _ (fun n t => ∃ (i : Nat) (acc : List UInt8), i ≤ 11 ∧ n = 11 - i ∧ acc.length ≤ i + 1 ∧ t = (((), acc, (), true, (i : Int), ()), (a0, a1, a2, a3, a4, a5, a6, a7, a8, a9, a10, a11, a12, d, a14, s, p, ()), [a0, a1, a2, a3, a4, a5, a7, a8, a9, a12, a14], ()))
    (fun t => some (((), t.1.2.1 ++ picks ((flagsOf (a0, a1, a2, a3, a4, a5, a6, a7, a8, a9, a10, a11, a12, d, a14, s, p)).drop (if t.1.2.2.2.2.1.toNat < 4 then 4 else t.1.2.2.2.2.1.toNat)), ()), (a0, a1, a2, a3, a4, a5, a6, a7, a8, a9, a10, a11, a12, d, a14, s, p, ()), ())) ?_ _ 11 _ ⟨0, [97], by omega, by omega, by simp, rfl⟩ (by omega)).trans ?_
   ·rintro n t k ⟨i, acc, hi, rfl, hl, rfl⟩ hk
    have step : ∀ (j : Nat) (acc' : List UInt8), i < j → j ≤ 11 → acc'.length ≤ j + 1 → k (((), acc', (), true, (j : Int), ()), (a0, a1, a2, a3, a4, a5, a6, a7, a8, a9, a10, a11, a12, d, a14, s, p, ()), [a0, a1, a2, a3, a4, a5, a7, a8, a9, a12, a14], ()) = _ :=
     fun j acc' h1 h2 h3 => hk (11 - j) _ (by omega) ⟨j, acc', h2, rfl, h3, rfl⟩
    have hlt : acc.length + 1 < 2 ^ 63 := by omega
    have hcase : i = 0 ∨ i = 1 ∨ i = 2 ∨ i = 3 ∨ i = 4 ∨ i = 5 ∨ i = 6 ∨ i = 7 ∨ i = 8 ∨ i = 9 ∨ i = 10 ∨ i = 11 := by omega
    rcases hcase with rfl | rfl | rfl | rfl | rfl | rfl | rfl | rfl | rfl | rfl | rfl | rfl
    ·cases a0
     ·refine Eq.trans ?_ ((step 1 acc (by omega) (by omega) (by (try simp); omega)).trans ?_)
      ·simp [hlt, wr]
      ·simp [flagsOf, picks]
     ·refine Eq.trans ?_ ((step 1 acc (by omega) (by omega) (by (try simp); omega)).trans ?_)
      ·simp [hlt, wr]
      ·simp [flagsOf, picks]
    ·cases a1
     ·refine Eq.trans ?_ ((step 2 acc (by omega) (by omega) (by (try simp); omega)).trans ?_)
      ·simp [hlt, wr]
      ·simp [flagsOf, picks]
     ·refine Eq.trans ?_ ((step 2 acc (by omega) (by omega) (by (try simp); omega)).trans ?_)
      ·simp [hlt, wr]
      ·simp [flagsOf, picks]
    ·cases a2
     ·refine Eq.trans ?_ ((step 3 acc (by omega) (by omega) (by (try simp); omega)).trans ?_)
      ·simp [hlt, wr]
      ·simp [flagsOf, picks]
     ·refine Eq.trans ?_ ((step 3 acc (by omega) (by omega) (by (try simp); omega)).trans ?_)
      ·simp [hlt, wr]
      ·simp [flagsOf, picks]
    ·cases a3
     ·refine Eq.trans ?_ ((step 4 acc (by omega) (by omega) (by (try simp); omega)).trans ?_)
      ·simp [hlt, wr]
      ·simp [flagsOf, picks]
     ·refine Eq.trans ?_ ((step 4 acc (by omega) (by omega) (by (try simp); omega)).trans ?_)
      ·simp [hlt, wr]
      ·simp [flagsOf, picks]
    ·cases a4
     ·refine Eq.trans ?_ ((step 5 acc (by omega) (by omega) (by (try simp); omega)).trans ?_)
      ·simp [hlt, wr]
      ·simp [flagsOf, picks]
     ·refine Eq.trans ?_ ((step 5 (acc ++ [72]) (by omega) (by omega) (by (try simp); omega)).trans ?_)
      ·simp [hlt, wr]
      ·simp [flagsOf, picks]
    ·cases a5
     ·refine Eq.trans ?_ ((step 6 acc (by omega) (by omega) (by (try simp); omega)).trans ?_)
      ·simp [hlt, wr]
      ·simp [flagsOf, picks]
     ·refine Eq.trans ?_ ((step 6 (acc ++ [99]) (by omega) (by omega) (by (try simp); omega)).trans ?_)
      ·simp [hlt, wr]
      ·simp [flagsOf, picks]
    ·cases a7
     ·refine Eq.trans ?_ ((step 7 acc (by omega) (by omega) (by (try simp); omega)).trans ?_)
      ·simp [hlt, wr]
      ·simp [flagsOf, picks]
     ·refine Eq.trans ?_ ((step 7 (acc ++ [110]) (by omega) (by omega) (by (try simp); omega)).trans ?_)
      ·simp [hlt, wr]
      ·simp [flagsOf, picks]
    ·cases a8
     ·refine Eq.trans ?_ ((step 8 acc (by omega) (by omega) (by (try simp); omega)).trans ?_)
      ·simp [hlt, wr]
      ·simp [flagsOf, picks]
     ·refine Eq.trans ?_ ((step 8 (acc ++ [87]) (by omega) (by omega) (by (try simp); omega)).trans ?_)
      ·simp [hlt, wr]
      ·simp [flagsOf, picks]
    ·cases a9
     ·refine Eq.trans ?_ ((step 9 acc (by omega) (by omega) (by (try simp); omega)).trans ?_)
      ·simp [hlt, wr]
      ·simp [flagsOf, picks]
     ·refine Eq.trans ?_ ((step 9 (acc ++ [117]) (by omega) (by omega) (by (try simp); omega)).trans ?_)
      ·simp [hlt, wr]
      ·simp [flagsOf, picks]
    ·cases a12
     ·refine Eq.trans ?_ ((step 10 acc (by omega) (by omega) (by (try simp); omega)).trans ?_)
      ·simp [hlt, wr]
      ·simp [flagsOf, picks]
     ·refine Eq.trans ?_ ((step 10 (acc ++ [121]) (by omega) (by omega) (by (try simp); omega)).trans ?_)
      ·simp [hlt, wr]
      ·simp [flagsOf, picks]
    ·cases a14
     ·refine Eq.trans ?_ ((step 11 acc (by omega) (by omega) (by (try simp); omega)).trans ?_)
      ·simp [hlt, wr]
      ·simp [flagsOf, picks]
     ·refine Eq.trans ?_ ((step 11 (acc ++ [98]) (by omega) (by omega) (by (try simp); omega)).trans ?_)
      ·simp [hlt, wr]
      ·simp [flagsOf, picks]
    ·simp [flagsOf, picks]
   ·simp [picks]
 ·dsimp only
  unfold wordsOf at hwl ⊢
  dsimp only at hwl ⊢
  generalize lettersOf (a0, a1, a2, a3, a4, a5, a6, a7, a8, a9, a10, a11, a12, d, a14, s, p) = L at hll hwl ⊢
  have hn8 : nilOf UInt8 = [] := rfl
  have hnn : nilOf (List UInt8) = [] := rfl
  rw [hn8, hnn]
  refine bind_eq (x := (((), (), ()), (a0, a1, a2, a3, a4, a5, a6, a7, a8, a9, a10, a11, a12, d, a14, s, p, ()), addW (!L == []) (45 :: L) [], ())) ?_ ?_
  ·cases q : L == []
   ·have : 1 + L.length < 2 ^ 63 := by omega
    simp [addW, this, Nat.add_comm]
    omega
   ·simp [addW]
  have b1 := add_len (!L == []) (45 :: L) [] 0 (by simp)
  generalize e1 : addW (!L == []) (45 :: L) [] = l1 at b1 hwl ⊢
  dsimp only
  refine bind_eq (x := (((), (), ()), (a0, a1, a2, a3, a4, a5, a6, a7, a8, a9, a10, a11, a12, d, a14, s, p, ()), addW a6 [45, 45, 115, 105, 122, 101, 45, 111, 110, 108, 121] l1, ())) ?_ ?_
  ·cases a6
   ·rfl
   ·simp only [cond_true]; rw [if_pos (by simp; omega)]; rfl
  have b2 := add_len a6 [45, 45, 115, 105, 122, 101, 45, 111, 110, 108, 121] l1 _ b1
  generalize e2 : addW a6 _ l1 = l2 at b2 hwl ⊢
  dsimp only
  refine bind_eq (x := (((), (), ()), (a0, a1, a2, a3, a4, a5, a6, a7, a8, a9, a10, a11, a12, d, a14, s, p, ()), addW a10 [45, 45, 101, 120, 105, 115, 116, 105, 110, 103] l2, ())) ?_ ?_
  ·cases a10
   ·rfl
   ·simp only [cond_true]; rw [if_pos (by simp; omega)]; rfl
  have b3 := add_len a10 [45, 45, 101, 120, 105, 115, 116, 105, 110, 103] l2 _ b2
  generalize e3 : addW a10 _ l2 = l3 at b3 hwl ⊢
  dsimp only
  refine bind_eq (x := (((), (), ()), (a0, a1, a2, a3, a4, a5, a6, a7, a8, a9, a10, a11, a12, d, a14, s, p, ()), addW a11 [45, 45, 105, 103, 110, 111, 114, 101, 45, 101, 120, 105, 115, 116, 105, 110, 103] l3, ())) ?_ ?_
  ·cases a11
   ·rfl
   ·simp only [cond_true]; rw [if_pos (by simp; omega)]; rfl
  have b4 := add_len a11 [45, 45, 105, 103, 110, 111, 114, 101, 45, 101, 120, 105, 115, 116, 105, 110, 103] l3 _ b3
  generalize e4 : addW a11 _ l3 = l4 at b4 hwl ⊢
  dsimp only
  refine bind_eq (x := (((), (), ()), (a0, a1, a2, a3, a4, a5, a6, a7, a8, a9, a10, a11, a12, d, a14, s, p, ()), addW (d != 0) (delW d) l4, ())) ?_ ?_
  ·have hq : (l4.length + 1) * 16 ≤ 140737488355328 := by omega
   rcases (by omega : d = 0 ∨ d = 1 ∨ d = 2 ∨ d = 3) with rfl | rfl | rfl | rfl <;> simp [addW, delW, hq]
  have b5 := add_len (d != 0) (delW d) l4 _ b4
  generalize e5 : addW (d != 0) (delW d) l4 = l5 at b5 hwl ⊢
  dsimp only
  refine bind_eq (x := (((), (), !s == [] && !(s == [46, 98, 97, 107] && p == []), ()), (a0, a1, a2, a3, a4, a5, a6, a7, a8, a9, a10, a11, a12, d, a14, s, p, ()), l5, ())) ?_ ?_
  ·cases s == [] <;> cases s == [46, 98, 97, 107] <;> cases p == [] <;> rfl
  dsimp only
  refine bind_eq (x := (((), (), ()), (a0, a1, a2, a3, a4, a5, a6, a7, a8, a9, a10, a11, a12, d, a14, s, p, ()), addW (!s == [] && !(s == [46, 98, 97, 107] && p == [])) ([45, 45, 115, 117, 102, 102, 105, 120, 61] ++ s) l5, ())) ?_ ?_
  ·cases (!s == [] && !(s == [46, 98, 97, 107] && p == []))
   ·rfl
   ·simp only [cond_true]; rw [if_pos (by simp; omega), if_pos (by simp; omega)]; rfl
  have b6 := add_len (!s == [] && !(s == [46, 98, 97, 107] && p == [])) ([45, 45, 115, 117, 102, 102, 105, 120, 61] ++ s) l5 _ b5
  generalize e6 : addW (!s == [] && !(s == [46, 98, 97, 107] && p == [])) _ l5 = l6 at b6 hwl ⊢
  dsimp only
  refine bind_eq (x := (((), ()), addW (!p == []) ([45, 45, 98, 97, 99, 107, 117, 112, 45, 100, 105, 114, 61] ++ p) l6, ())) ?_ ?_
  ·cases (!p == [])
   ·rfl
   ·simp only [cond_true]; rw [if_pos (by simp; omega), if_pos (by simp; omega)]; rfl
  generalize addW (!p == []) _ l6 = W at hwl ⊢
  dsimp only
  rw [joinB_eq]
  exact bind_eq (wordsLoop W hwl.1 hwl.2 _ (by omega)) rfl
set_option maxRecDepth 20000
set_option maxHeartbeats 400000
abbrev BoxT := Bool × Bool × Bool × Bool × Bool × Bool × Bool × Bool × Bool × Bool × Bool × Bool × Bool × Int × Bool × List UInt8 × List UInt8 × Int × Int × Bool × Unit
def boxOf : OptsT → Int → Int → Bool → BoxT
 | (a0, a1, a2, a3, a4, a5, a6, a7, a8, a9, a10, a11, a12, d, a14, s, p), sf, dr, tw => (a0, a1, a2, a3, a4, a5, a6, a7, a8, a9, a10, a11, a12, d, a14, s, p, sf, dr, tw, ())
def fnd : List Int → Int → Int → Int
 | [], _, _ => -1
 | x :: r, j, n => if x = n then j else fnd r (j + 1) n
def LETS : List Int := [114, 108, 112, 116, 72, 99, 110, 87, 117, 121, 98]
def idxL (n : Int) : Int := if n = 114 then 0 else if n = 108 then 1 else if n = 112 then 2 else if n = 116 then 3 else if n = 72 then 4 else if n = 99 then 5 else if n = 110 then 6 else if n = 87 then 7 else if n = 117 then 8 else if n = 121 then 9 else if n = 98 then 10 else -1
theorem fnd_idx (n : Int) : fnd LETS 0 n = idxL n := by
 unfold idxL LETS
 simp only [fnd]
 have f : ∀ x : Int, (x = n) = (n = x) := fun x => propext ⟨Eq.symm, Eq.symm⟩
 simp only [f]
 rfl
theorem fnd_neg : ∀ (l : List Int) (j n : Int), 0 ≤ j → fnd l j n = -1 ∨ j ≤ fnd l j n
 | [], _, _, _ => .inl rfl
 | x :: r, j, n, h => by
  unfold fnd; split
  ·exact .inr (Int.le_refl _)
  ·rcases fnd_neg r (j + 1) n (by omega) with h | h
   ·exact .inl h
   ·exact .inr (by omega)
theorem idx_eq (B : BoxT) (txt : List UInt8) (i : Nat) (hi : i < txt.length) : m_slices_IndexFunc_impl_letterOf_impl_letterOf (114, (), 108, (), 112, (), 116, (), 72, (), 99, (), 110, (), 87, (), 117, (), 121, (), 98, (), ()) B (txt, ()) ((i : Int), ()) = some (idxL ((txt.getD i 0).toNat : Int), (114, (), 108, (), 112, (), 116, (), 72, (), 99, (), 110, (), 87, (), 117, (), 121, (), 98, (), ()), B, (txt, ()), ((i : Int), ()), ()) := by
 unfold m_slices_IndexFunc_impl_letterOf_impl_letterOf
 dsimp only
 generalize hn : ((txt.getD i 0).toNat : Int) = n
 have hn2 : ((txt[i]?.getD 0).toNat : Int) = n := by rw [← hn, List.getD_eq_getElem?_getD]
 have hb : 0 ≤ (i : Int) ∧ (i : Int) < (txt.length : Int) := ⟨by omega, by omega⟩
 refine joinC_of (x := if fnd LETS 0 n < 0 then some (Sum.inl ((), (114, (), 108, (), 112, (), 116, (), 72, (), 99, (), 110, (), 87, (), 117, (), 121, (), 98, (), ()), B, (txt, ()), ((i : Int), ()), ())) else some (Sum.inr (fnd LETS 0 n, (114, (), 108, (), 112, (), 116, (), 72, (), 99, (), 110, (), 87, (), 117, (), 121, (), 98, (), ()), B, (txt, ()), ((i : Int), ()), ()))) ?_ ?_
 ·refine (loopC_inv _ (fun m t => ∃ j : Nat, j ≤ 11 ∧ m = 11 - j ∧ t = (((), (), 11, (j : Int), ()), (114, (), 108, (), 112, (), 116, (), 72, (), 99, (), 110, (), 87, (), 117, (), 121, (), 98, (), ()), B, (txt, ()), ((i : Int), ()), ()))
   (fun t => if fnd (LETS.drop t.1.2.2.2.1.toNat) t.1.2.2.2.1 n < 0 then some (Sum.inl ((), (114, (), 108, (), 112, (), 116, (), 72, (), 99, (), 110, (), 87, (), 117, (), 121, (), 98, (), ()), B, (txt, ()), ((i : Int), ()), ())) else some (Sum.inr (fnd (LETS.drop t.1.2.2.2.1.toNat) t.1.2.2.2.1 n, (114, (), 108, (), 112, (), 116, (), 72, (), 99, (), 110, (), 87, (), 117, (), 121, (), 98, (), ()), B, (txt, ()), ((i : Int), ()), ()))) ?_ _ 11 _ ⟨0, by omega, by omega, rfl⟩ (by omega)).trans (by simp only [Int.toNat_zero, List.drop_zero])
  rintro m t k ⟨j, hj, rfl, rfl⟩ hk
  have step : ∀ (q : Nat), j < q → q ≤ 11 → k (((), (), 11, (q : Int), ()), (114, (), 108, (), 112, (), 116, (), 72, (), 99, (), 110, (), 87, (), 117, (), 121, (), 98, (), ()), B, (txt, ()), ((i : Int), ()), ()) = _ := fun q h1 h2 => hk (11 - q) _ (by omega) ⟨q, h2, rfl, rfl⟩
  have hcase : j = 0 ∨ j = 1 ∨ j = 2 ∨ j = 3 ∨ j = 4 ∨ j = 5 ∨ j = 6 ∨ j = 7 ∨ j = 8 ∨ j = 9 ∨ j = 10 ∨ j = 11 := by omega
  rcases hcase with rfl | rfl | rfl | rfl | rfl | rfl | rfl | rfl | rfl | rfl | rfl | rfl
  ·by_cases q : (114 : Int) = n
   ·subst q
    simp [m_impl_Opts_setLetters_1, hb, hn, hn2, joinC, fnd, LETS]
   ·have q2 : ((114 : Int) == n) = false := by simpa using q
    refine Eq.trans ?_ ((step 1 (by omega) (by omega)).trans ?_)
    ·simp [m_impl_Opts_setLetters_1, hb, hn, hn2, q, q2, joinC, wr]
    ·simp [fnd, LETS, q]
  ·by_cases q : (108 : Int) = n
   ·subst q
    simp [m_impl_Opts_setLetters_1_2, hb, hn, hn2, joinC, fnd, LETS]
   ·have q2 : ((108 : Int) == n) = false := by simpa using q
    refine Eq.trans ?_ ((step 2 (by omega) (by omega)).trans ?_)
    ·simp [m_impl_Opts_setLetters_1_2, hb, hn, hn2, q, q2, joinC, wr]
    ·simp [fnd, LETS, q]
  ·by_cases q : (112 : Int) = n
   ·subst q
    simp [m_impl_Opts_setLetters_1_3, hb, hn, hn2, joinC, fnd, LETS]
   ·have q2 : ((112 : Int) == n) = false := by simpa using q
    refine Eq.trans ?_ ((step 3 (by omega) (by omega)).trans ?_)
    ·simp [m_impl_Opts_setLetters_1_3, hb, hn, hn2, q, q2, joinC, wr]
    ·simp [fnd, LETS, q]
  ·by_cases q : (116 : Int) = n
   ·subst q
    simp [m_impl_Opts_setLetters_1_4, hb, hn, hn2, joinC, fnd, LETS]
   ·have q2 : ((116 : Int) == n) = false := by simpa using q
    refine Eq.trans ?_ ((step 4 (by omega) (by omega)).trans ?_)
    ·simp [m_impl_Opts_setLetters_1_4, hb, hn, hn2, q, q2, joinC, wr]
    ·simp [fnd, LETS, q]
  ·by_cases q : (72 : Int) = n
   ·subst q
    simp [m_impl_Opts_setLetters_1_5, hb, hn, hn2, joinC, fnd, LETS]
   ·have q2 : ((72 : Int) == n) = false := by simpa using q
    refine Eq.trans ?_ ((step 5 (by omega) (by omega)).trans ?_)
    ·simp [m_impl_Opts_setLetters_1_5, hb, hn, hn2, q, q2, joinC, wr]
    ·simp [fnd, LETS, q]
  ·by_cases q : (99 : Int) = n
   ·subst q
    simp [m_impl_Opts_setLetters_1_6, hb, hn, hn2, joinC, fnd, LETS]
   ·have q2 : ((99 : Int) == n) = false := by simpa using q
    refine Eq.trans ?_ ((step 6 (by omega) (by omega)).trans ?_)
    ·simp [m_impl_Opts_setLetters_1_6, hb, hn, hn2, q, q2, joinC, wr]
    ·simp [fnd, LETS, q]
  ·by_cases q : (110 : Int) = n
   ·subst q
    simp [m_impl_Opts_setLetters_1_7, hb, hn, hn2, joinC, fnd, LETS]
   ·have q2 : ((110 : Int) == n) = false := by simpa using q
    refine Eq.trans ?_ ((step 7 (by omega) (by omega)).trans ?_)
    ·simp [m_impl_Opts_setLetters_1_7, hb, hn, hn2, q, q2, joinC, wr]
    ·simp [fnd, LETS, q]
  ·by_cases q : (87 : Int) = n
   ·subst q
    simp [m_impl_Opts_setLetters_1_8, hb, hn, hn2, joinC, fnd, LETS]
   ·have q2 : ((87 : Int) == n) = false := by simpa using q
    refine Eq.trans ?_ ((step 8 (by omega) (by omega)).trans ?_)
    ·simp [m_impl_Opts_setLetters_1_8, hb, hn, hn2, q, q2, joinC, wr]
    ·simp [fnd, LETS, q]
  ·by_cases q : (117 : Int) = n
   ·subst q
    simp [m_impl_Opts_setLetters_1_9, hb, hn, hn2, joinC, fnd, LETS]
   ·have q2 : ((117 : Int) == n) = false := by simpa using q
    refine Eq.trans ?_ ((step 9 (by omega) (by omega)).trans ?_)
    ·simp [m_impl_Opts_setLetters_1_9, hb, hn, hn2, q, q2, joinC, wr]
    ·simp [fnd, LETS, q]
  ·by_cases q : (121 : Int) = n
   ·subst q
    simp [m_impl_Opts_setLetters_1_10, hb, hn, hn2, joinC, fnd, LETS]
   ·have q2 : ((121 : Int) == n) = false := by simpa using q
    refine Eq.trans ?_ ((step 10 (by omega) (by omega)).trans ?_)
    ·simp [m_impl_Opts_setLetters_1_10, hb, hn, hn2, q, q2, joinC, wr]
    ·simp [fnd, LETS, q]
  ·by_cases q : (98 : Int) = n
   ·subst q
    simp [m_impl_Opts_setLetters_1_11, hb, hn, hn2, joinC, fnd, LETS]
   ·have q2 : ((98 : Int) == n) = false := by simpa using q
    refine Eq.trans ?_ ((step 11 (by omega) (by omega)).trans ?_)
    ·simp [m_impl_Opts_setLetters_1_11, hb, hn, hn2, q, q2, joinC, wr]
    ·simp [fnd, LETS, q]
  ·simp [fnd, LETS]
 ·rw [fnd_idx]
  split
  ·rename_i hneg
   rcases fnd_neg LETS 0 n (by omega) with h | h
   ·rw [fnd_idx] at h; rw [h]; rfl
   ·rw [fnd_idx] at h; omega
  ·rfl
def setC (n : Int) : OptsT → Option OptsT
 | (a0, a1, a2, a3, a4, a5, a6, a7, a8, a9, a10, a11, a12, d, a14, s, p) => if n = 97 then some (true, true, true, true, a4, a5, a6, a7, a8, a9, a10, a11, a12, d, a14, s, p) else if n = 114 then some (true, a1, a2, a3, a4, a5, a6, a7, a8, a9, a10, a11, a12, d, a14, s, p) else if n = 108 then some (a0, true, a2, a3, a4, a5, a6, a7, a8, a9, a10, a11, a12, d, a14, s, p) else if n = 112 then some (a0, a1, true, a3, a4, a5, a6, a7, a8, a9, a10, a11, a12, d, a14, s, p) else if n = 116 then some (a0, a1, a2, true, a4, a5, a6, a7, a8, a9, a10, a11, a12, d, a14, s, p) else if n = 72 then some (a0, a1, a2, a3, true, a5, a6, a7, a8, a9, a10, a11, a12, d, a14, s, p) else if n = 99 then some (a0, a1, a2, a3, a4, true, a6, a7, a8, a9, a10, a11, a12, d, a14, s, p) else if n = 110 then some (a0, a1, a2, a3, a4, a5, a6, true, a8, a9, a10, a11, a12, d, a14, s, p) else if n = 87 then some (a0, a1, a2, a3, a4, a5, a6, a7, true, a9, a10, a11, a12, d, a14, s, p) else if n = 117 then some (a0, a1, a2, a3, a4, a5, a6, a7, a8, true, a10, a11, a12, d, a14, s, p) else if n = 121 then some (a0, a1, a2, a3, a4, a5, a6, a7, a8, a9, a10, a11, true, d, a14, s, p) else if n = 98 then some (a0, a1, a2, a3, a4, a5, a6, a7, a8, a9, a10, a11, a12, d, true, s, p) else none
theorem spec_letter (o : OptsT) (n : Int) : m_spec_l11Letter o n = some (((setC n o).getD o, (setC n o).isSome, ()), ()) := by
 obtain ⟨a0, a1, a2, a3, a4, a5, a6, a7, a8, a9, a10, a11, a12, d, a14, s, p⟩ := o
 unfold m_spec_l11Letter
 by_cases h97 : n = 97
 ·subst h97; rfl
 by_cases h114 : n = 114
 ·subst h114; rfl
 by_cases h108 : n = 108
 ·subst h108; rfl
 by_cases h112 : n = 112
 ·subst h112; rfl
 by_cases h116 : n = 116
 ·subst h116; rfl
 by_cases h72 : n = 72
 ·subst h72; rfl
 by_cases h99 : n = 99
 ·subst h99; rfl
 by_cases h110 : n = 110
 ·subst h110; rfl
 by_cases h87 : n = 87
 ·subst h87; rfl
 by_cases h117 : n = 117
 ·subst h117; rfl
 by_cases h121 : n = 121
 ·subst h121; rfl
 by_cases h98 : n = 98
 ·subst h98; rfl
 have f : ∀ k : Int, n ≠ k → (n == k) = false := fun k h => by simpa using h
 simp only [setC, f _ h97, h97, f _ h114, h114, f _ h108, h108, f _ h112, h112, f _ h116, h116, f _ h72, h72, f _ h99, h99, f _ h110, h110, f _ h87, h87, f _ h117, h117, f _ h121, h121, f _ h98, h98, if_false, cond_false, joinC, Option.isSome, Option.getD]
def foldC : List UInt8 → OptsT → Option OptsT
 | [], o => some o
 | c :: r, o => (setC (c.toNat : Int) o).bind (foldC r)
set_option maxRecDepth 20000
set_option maxHeartbeats 1000000
theorem joinC_some {S α : Type} {o : Option (S ⊕ α)} {k : S → Option α} {Q : S ⊕ α → Prop} {R : α → Prop} (h : ∃ x, o = some x ∧ Q x) (h2 : ∀ x, Q x → ∃ t, joinC (some x) k = some t ∧ R t) : ∃ t, joinC o k = some t ∧ R t := by
 obtain ⟨x, rfl, hq⟩ := h; exact h2 x hq
theorem setLetters_eq (txt : List UInt8) (htx : txt.length ≤ 300) (o : OptsT) (sf dr : Int) (tw : Bool) :
    ∃ r, m_impl_Opts_setLetters txt (boxOf o sf dr tw) = some r ∧ (match foldC txt o with | some o' => r = (!(txt == []), boxOf o' sf dr tw, ()) | none => r.1 = false) := by
 unfold m_impl_Opts_setLetters
 refine bind_some' (Q := fun r => r.2 = (boxOf o sf dr tw, ((114 : Int), (), (108 : Int), (), (112 : Int), (), (116 : Int), (), (72 : Int), (), (99 : Int), (), (110 : Int), (), (87 : Int), (), (117 : Int), (), (121 : Int), (), (98 : Int), (), ()), ())) ⟨_, rfl, ?_⟩ ?_
 ·obtain ⟨a0, a1, a2, a3, a4, a5, a6, a7, a8, a9, a10, a11, a12, d, a14, s, p⟩ := o; rfl
 rintro ⟨r1, r2⟩ hr
 dsimp only at hr
 subst hr
 dsimp only
 refine joinC_some (Q := fun x => match foldC txt o with | some o' => x = Sum.inl (((), ()), boxOf o' sf dr tw, (txt, ()), ()) | none => ∃ b : BoxT, x = Sum.inr (false, b, ())) (
  loopC_some' _ (fun m t => ∃ (i : Nat) (oi : OptsT), i ≤ txt.length ∧ m = txt.length - i ∧ foldC (txt.drop i) oi = foldC txt o ∧ t = (((), (), (txt.length : Int), (i : Int), ()), boxOf oi sf dr tw, (txt, ()), ((114 : Int), (), (108 : Int), (), (112 : Int), (), (116 : Int), (), (72 : Int), (), (99 : Int), (), (110 : Int), (), (87 : Int), (), (117 : Int), (), (121 : Int), (), (98 : Int), (), ()), ()))
   (fun x => match foldC txt o with | some o' => x = Sum.inl (((), ()), boxOf o' sf dr tw, (txt, ()), ()) | none => ∃ b : BoxT, x = Sum.inr (false, b, ())) ?step _ txt.length _ ⟨0, o, by omega, by omega, rfl, rfl⟩ ?fuel) ?fin
 case fuel => simp only [Int.toNat_natCast]; omega
 case step =>
  rintro m t k ⟨i, oi, hi, rfl, hf, rfl⟩ hk
  by_cases hlt : i < txt.length
  ·have hd : decide ((i : Int) < (txt.length : Int)) = true := by simpa using hlt
   have hb : 0 ≤ (i : Int) ∧ (i : Int) < (txt.length : Int) := ⟨by omega, by omega⟩
   have hw : IntKind.wrap .i64 ((i : Int) + 1) = ((i + 1 : Nat) : Int) := wr1 _ (by omega)
   rw [drop_getD (0 : UInt8) hlt] at hf
   simp only [foldC] at hf
   have hidx := idx_eq (boxOf oi sf dr tw) txt i hlt
   generalize hn : ((txt.getD i 0).toNat : Int) = n at hf hidx
   have next : ∀ o2, setC n oi = some o2 → ∃ x, k (((), (), (txt.length : Int), ((i + 1 : Nat) : Int), ()), boxOf o2 sf dr tw, (txt, ()), ((114 : Int), (), (108 : Int), (), (112 : Int), (), (116 : Int), (), (72 : Int), (), (99 : Int), (), (110 : Int), (), (87 : Int), (), (117 : Int), (), (121 : Int), (), (98 : Int), (), ()), ()) = some x ∧ (match foldC txt o with | some o' => x = Sum.inl (((), ()), boxOf o' sf dr tw, (txt, ()), ()) | none => ∃ b : BoxT, x = Sum.inr (false, b, ())) :=
    fun o2 h => hk (txt.length - (i + 1)) _ (by omega) ⟨i + 1, o2, by omega, rfl, by rw [h] at hf; exact hf, rfl⟩
   dsimp only
   rw [hd, cond_true, if_pos hb]
   simp only [Int.toNat_natCast, hn]
   have hf0 := hf
   clear hk hf
   obtain ⟨a0, a1, a2, a3, a4, a5, a6, a7, a8, a9, a10, a11, a12, d, a14, s, p⟩ := oi
   by_cases h97 : n = 97
   ·subst h97
    obtain ⟨x, h1, h2⟩ := next (true, true, true, true, a4, a5, a6, a7, a8, a9, a10, a11, a12, d, a14, s, p) rfl
    refine ⟨x, Eq.trans ?_ h1, h2⟩
    refine (joinC_inl' (s := (((), (), (txt.length : Int), (i : Int), ()), boxOf (true, true, true, true, a4, a5, a6, a7, a8, a9, a10, a11, a12, d, a14, s, p) sf dr tw, (txt, ()), ((114 : Int), (), (108 : Int), (), (112 : Int), (), (116 : Int), (), (72 : Int), (), (99 : Int), (), (110 : Int), (), (87 : Int), (), (117 : Int), (), (121 : Int), (), (98 : Int), (), ()), ())) ?_).trans ?_
    ·rw [show ((97 : Int) == 97) = true from rfl, cond_true, if_pos (by decide)]
     refine bind_eq (x := (((), (), (txt.length : Int), (i : Int), ()), boxOf (true, true, true, true, a4, a5, a6, a7, a8, a9, a10, a11, a12, d, a14, s, p) sf dr tw, (txt, ()), ((114 : Int), (), (108 : Int), (), (112 : Int), (), (116 : Int), (), (72 : Int), (), (99 : Int), (), (110 : Int), (), (87 : Int), (), (117 : Int), (), (121 : Int), (), (98 : Int), (), ()), ())) ?_ rfl
     refine (loopC_inv _ (fun m t => ∃ (j : Nat) (b0 b1 b2 b3 : Bool), j ≤ 4 ∧ m = 4 - j ∧ (1 ≤ j → b0 = true) ∧ (2 ≤ j → b1 = true) ∧ (3 ≤ j → b2 = true) ∧ (4 ≤ j → b3 = true) ∧ t = (((), (), (txt.length : Int), (i : Int), (), 4, (j : Int), ()), (b0, b1, b2, b3, a4, a5, a6, a7, a8, a9, a10, a11, a12, d, a14, s, p, sf, dr, tw, ()), (txt, ()), ((114 : Int), (), (108 : Int), (), (112 : Int), (), (116 : Int), (), (72 : Int), (), (99 : Int), (), (110 : Int), (), (87 : Int), (), (117 : Int), (), (121 : Int), (), (98 : Int), (), ()), ()))
      (fun _ => some (((), (), (txt.length : Int), (i : Int), ()), boxOf (true, true, true, true, a4, a5, a6, a7, a8, a9, a10, a11, a12, d, a14, s, p) sf dr tw, (txt, ()), ((114 : Int), (), (108 : Int), (), (112 : Int), (), (116 : Int), (), (72 : Int), (), (99 : Int), (), (110 : Int), (), (87 : Int), (), (117 : Int), (), (121 : Int), (), (98 : Int), (), ()), ())) ?_ _ 4 _ ⟨0, a0, a1, a2, a3, by omega, by omega, by omega, by omega, by omega, by omega, rfl⟩ (by omega))
     rintro m t k' ⟨j, b0, b1, b2, b3, hj, rfl, q0, q1, q2, q3, rfl⟩ hk'
     have step : ∀ (q : Nat) (c0 c1 c2 c3 : Bool), j < q → q ≤ 4 → (1 ≤ q → c0 = true) → (2 ≤ q → c1 = true) → (3 ≤ q → c2 = true) → (4 ≤ q → c3 = true) → k' (((), (), (txt.length : Int), (i : Int), (), 4, (q : Int), ()), (c0, c1, c2, c3, a4, a5, a6, a7, a8, a9, a10, a11, a12, d, a14, s, p, sf, dr, tw, ()), (txt, ()), ((114 : Int), (), (108 : Int), (), (112 : Int), (), (116 : Int), (), (72 : Int), (), (99 : Int), (), (110 : Int), (), (87 : Int), (), (117 : Int), (), (121 : Int), (), (98 : Int), (), ()), ()) = _ :=
      fun q c0 c1 c2 c3 h1 h2 h3 h4 h5 h6 => hk' (4 - q) _ (by omega) ⟨q, c0, c1, c2, c3, h2, rfl, h3, h4, h5, h6, rfl⟩
     have hcase : j = 0 ∨ j = 1 ∨ j = 2 ∨ j = 3 ∨ j = 4 := by omega
     rcases hcase with rfl | rfl | rfl | rfl | rfl
     ·exact Eq.trans (by simp [wr]) (step 1 true b1 b2 b3 (by omega) (by omega) (fun _ => rfl) (by omega) (by omega) (by omega))
     ·exact Eq.trans (by simp [wr]) (step 2 b0 true b2 b3 (by omega) (by omega) (fun _ => q0 (by omega)) (fun _ => rfl) (by omega) (by omega))
     ·exact Eq.trans (by simp [wr]) (step 3 b0 b1 true b3 (by omega) (by omega) (fun _ => q0 (by omega)) (fun _ => q1 (by omega)) (fun _ => rfl) (by omega))
     ·exact Eq.trans (by simp [wr]) (step 4 b0 b1 b2 true (by omega) (by omega) (fun _ => q0 (by omega)) (fun _ => q1 (by omega)) (fun _ => q2 (by omega)) (fun _ => rfl))
     ·rw [q0 (by omega), q1 (by omega), q2 (by omega), q3 (by omega)]; rfl
    ·dsimp only; rw [hw]
   have f97 : (n == 97) = false := by simpa using h97
   by_cases h114 : n = 114
   ·subst h114
    obtain ⟨x, h1, h2⟩ := next (true, a1, a2, a3, a4, a5, a6, a7, a8, a9, a10, a11, a12, d, a14, s, p) rfl
    refine ⟨x, Eq.trans ?_ h1, h2⟩
    refine (joinC_inl' (s := (((), (), (txt.length : Int), (i : Int), ()), boxOf (true, a1, a2, a3, a4, a5, a6, a7, a8, a9, a10, a11, a12, d, a14, s, p) sf dr tw, (txt, ()), ((114 : Int), (), (108 : Int), (), (112 : Int), (), (116 : Int), (), (72 : Int), (), (99 : Int), (), (110 : Int), (), (87 : Int), (), (117 : Int), (), (121 : Int), (), (98 : Int), (), ()), ())) ?_).trans ?_
    ·exact bind_eq hidx rfl
    ·dsimp only; rw [hw]
   by_cases h108 : n = 108
   ·subst h108
    obtain ⟨x, h1, h2⟩ := next (a0, true, a2, a3, a4, a5, a6, a7, a8, a9, a10, a11, a12, d, a14, s, p) rfl
    refine ⟨x, Eq.trans ?_ h1, h2⟩
    refine (joinC_inl' (s := (((), (), (txt.length : Int), (i : Int), ()), boxOf (a0, true, a2, a3, a4, a5, a6, a7, a8, a9, a10, a11, a12, d, a14, s, p) sf dr tw, (txt, ()), ((114 : Int), (), (108 : Int), (), (112 : Int), (), (116 : Int), (), (72 : Int), (), (99 : Int), (), (110 : Int), (), (87 : Int), (), (117 : Int), (), (121 : Int), (), (98 : Int), (), ()), ())) ?_).trans ?_
    ·exact bind_eq hidx rfl
    ·dsimp only; rw [hw]
   by_cases h112 : n = 112
   ·subst h112
    obtain ⟨x, h1, h2⟩ := next (a0, a1, true, a3, a4, a5, a6, a7, a8, a9, a10, a11, a12, d, a14, s, p) rfl
    refine ⟨x, Eq.trans ?_ h1, h2⟩
    refine (joinC_inl' (s := (((), (), (txt.length : Int), (i : Int), ()), boxOf (a0, a1, true, a3, a4, a5, a6, a7, a8, a9, a10, a11, a12, d, a14, s, p) sf dr tw, (txt, ()), ((114 : Int), (), (108 : Int), (), (112 : Int), (), (116 : Int), (), (72 : Int), (), (99 : Int), (), (110 : Int), (), (87 : Int), (), (117 : Int), (), (121 : Int), (), (98 : Int), (), ()), ())) ?_).trans ?_
    ·exact bind_eq hidx rfl
    ·dsimp only; rw [hw]
   by_cases h116 : n = 116
   ·subst h116
    obtain ⟨x, h1, h2⟩ := next (a0, a1, a2, true, a4, a5, a6, a7, a8, a9, a10, a11, a12, d, a14, s, p) rfl
    refine ⟨x, Eq.trans ?_ h1, h2⟩
    refine (joinC_inl' (s := (((), (), (txt.length : Int), (i : Int), ()), boxOf (a0, a1, a2, true, a4, a5, a6, a7, a8, a9, a10, a11, a12, d, a14, s, p) sf dr tw, (txt, ()), ((114 : Int), (), (108 : Int), (), (112 : Int), (), (116 : Int), (), (72 : Int), (), (99 : Int), (), (110 : Int), (), (87 : Int), (), (117 : Int), (), (121 : Int), (), (98 : Int), (), ()), ())) ?_).trans ?_
    ·exact bind_eq hidx rfl
    ·dsimp only; rw [hw]
   by_cases h72 : n = 72
   ·subst h72
    obtain ⟨x, h1, h2⟩ := next (a0, a1, a2, a3, true, a5, a6, a7, a8, a9, a10, a11, a12, d, a14, s, p) rfl
    refine ⟨x, Eq.trans ?_ h1, h2⟩
    refine (joinC_inl' (s := (((), (), (txt.length : Int), (i : Int), ()), boxOf (a0, a1, a2, a3, true, a5, a6, a7, a8, a9, a10, a11, a12, d, a14, s, p) sf dr tw, (txt, ()), ((114 : Int), (), (108 : Int), (), (112 : Int), (), (116 : Int), (), (72 : Int), (), (99 : Int), (), (110 : Int), (), (87 : Int), (), (117 : Int), (), (121 : Int), (), (98 : Int), (), ()), ())) ?_).trans ?_
    ·exact bind_eq hidx rfl
    ·dsimp only; rw [hw]
   by_cases h99 : n = 99
   ·subst h99
    obtain ⟨x, h1, h2⟩ := next (a0, a1, a2, a3, a4, true, a6, a7, a8, a9, a10, a11, a12, d, a14, s, p) rfl
    refine ⟨x, Eq.trans ?_ h1, h2⟩
    refine (joinC_inl' (s := (((), (), (txt.length : Int), (i : Int), ()), boxOf (a0, a1, a2, a3, a4, true, a6, a7, a8, a9, a10, a11, a12, d, a14, s, p) sf dr tw, (txt, ()), ((114 : Int), (), (108 : Int), (), (112 : Int), (), (116 : Int), (), (72 : Int), (), (99 : Int), (), (110 : Int), (), (87 : Int), (), (117 : Int), (), (121 : Int), (), (98 : Int), (), ()), ())) ?_).trans ?_
    ·exact bind_eq hidx rfl
    ·dsimp only; rw [hw]
   by_cases h110 : n = 110
   ·subst h110
    obtain ⟨x, h1, h2⟩ := next (a0, a1, a2, a3, a4, a5, a6, true, a8, a9, a10, a11, a12, d, a14, s, p) rfl
    refine ⟨x, Eq.trans ?_ h1, h2⟩
    refine (joinC_inl' (s := (((), (), (txt.length : Int), (i : Int), ()), boxOf (a0, a1, a2, a3, a4, a5, a6, true, a8, a9, a10, a11, a12, d, a14, s, p) sf dr tw, (txt, ()), ((114 : Int), (), (108 : Int), (), (112 : Int), (), (116 : Int), (), (72 : Int), (), (99 : Int), (), (110 : Int), (), (87 : Int), (), (117 : Int), (), (121 : Int), (), (98 : Int), (), ()), ())) ?_).trans ?_
    ·exact bind_eq hidx rfl
    ·dsimp only; rw [hw]
   by_cases h87 : n = 87
   ·subst h87
    obtain ⟨x, h1, h2⟩ := next (a0, a1, a2, a3, a4, a5, a6, a7, true, a9, a10, a11, a12, d, a14, s, p) rfl
    refine ⟨x, Eq.trans ?_ h1, h2⟩
    refine (joinC_inl' (s := (((), (), (txt.length : Int), (i : Int), ()), boxOf (a0, a1, a2, a3, a4, a5, a6, a7, true, a9, a10, a11, a12, d, a14, s, p) sf dr tw, (txt, ()), ((114 : Int), (), (108 : Int), (), (112 : Int), (), (116 : Int), (), (72 : Int), (), (99 : Int), (), (110 : Int), (), (87 : Int), (), (117 : Int), (), (121 : Int), (), (98 : Int), (), ()), ())) ?_).trans ?_
    ·exact bind_eq hidx rfl
    ·dsimp only; rw [hw]
   by_cases h117 : n = 117
   ·subst h117
    obtain ⟨x, h1, h2⟩ := next (a0, a1, a2, a3, a4, a5, a6, a7, a8, true, a10, a11, a12, d, a14, s, p) rfl
    refine ⟨x, Eq.trans ?_ h1, h2⟩
    refine (joinC_inl' (s := (((), (), (txt.length : Int), (i : Int), ()), boxOf (a0, a1, a2, a3, a4, a5, a6, a7, a8, true, a10, a11, a12, d, a14, s, p) sf dr tw, (txt, ()), ((114 : Int), (), (108 : Int), (), (112 : Int), (), (116 : Int), (), (72 : Int), (), (99 : Int), (), (110 : Int), (), (87 : Int), (), (117 : Int), (), (121 : Int), (), (98 : Int), (), ()), ())) ?_).trans ?_
    ·exact bind_eq hidx rfl
    ·dsimp only; rw [hw]
   by_cases h121 : n = 121
   ·subst h121
    obtain ⟨x, h1, h2⟩ := next (a0, a1, a2, a3, a4, a5, a6, a7, a8, a9, a10, a11, true, d, a14, s, p) rfl
    refine ⟨x, Eq.trans ?_ h1, h2⟩
    refine (joinC_inl' (s := (((), (), (txt.length : Int), (i : Int), ()), boxOf (a0, a1, a2, a3, a4, a5, a6, a7, a8, a9, a10, a11, true, d, a14, s, p) sf dr tw, (txt, ()), ((114 : Int), (), (108 : Int), (), (112 : Int), (), (116 : Int), (), (72 : Int), (), (99 : Int), (), (110 : Int), (), (87 : Int), (), (117 : Int), (), (121 : Int), (), (98 : Int), (), ()), ())) ?_).trans ?_
    ·exact bind_eq hidx rfl
    ·dsimp only; rw [hw]
   by_cases h98 : n = 98
   ·subst h98
    obtain ⟨x, h1, h2⟩ := next (a0, a1, a2, a3, a4, a5, a6, a7, a8, a9, a10, a11, a12, d, true, s, p) rfl
    refine ⟨x, Eq.trans ?_ h1, h2⟩
    refine (joinC_inl' (s := (((), (), (txt.length : Int), (i : Int), ()), boxOf (a0, a1, a2, a3, a4, a5, a6, a7, a8, a9, a10, a11, a12, d, true, s, p) sf dr tw, (txt, ()), ((114 : Int), (), (108 : Int), (), (112 : Int), (), (116 : Int), (), (72 : Int), (), (99 : Int), (), (110 : Int), (), (87 : Int), (), (117 : Int), (), (121 : Int), (), (98 : Int), (), ()), ())) ?_).trans ?_
    ·exact bind_eq hidx rfl
    ·dsimp only; rw [hw]
   have hneg : idxL n = -1 := by simp only [idxL, h114, h108, h112, h116, h72, h99, h110, h87, h117, h121, h98, if_false]
   have hno : setC n (a0, a1, a2, a3, a4, a5, a6, a7, a8, a9, a10, a11, a12, d, a14, s, p) = none := by simp only [setC, h97, h114, h108, h112, h116, h72, h99, h110, h87, h117, h121, h98, if_false]
   rw [hneg] at hidx
   rw [hno] at hf0
   have hff : foldC txt o = none := hf0.symm
   rw [hff]
   refine ⟨Sum.inr (false, boxOf (a0, a1, a2, a3, a4, a5, a6, a7, a8, a9, a10, a11, a12, d, a14, s, p) sf dr tw, ()), ?_, ⟨_, rfl⟩⟩
   refine joinC_inr' ?_
   rw [f97, cond_false]
   exact bind_eq hidx rfl
  ·have hd : decide ((i : Int) < (txt.length : Int)) = false := by simpa using Nat.le_of_not_lt hlt
   have : txt.drop i = [] := List.drop_eq_nil_of_le (by omega)
   rw [this] at hf
   have hff : foldC txt o = some oi := hf.symm
   rw [hff]
   dsimp only
   rw [hd, cond_false]
   exact ⟨_, rfl, rfl⟩
 case fin =>
  intro x hx
  cases hff : foldC txt o with
  | none =>
   rw [hff] at hx
   obtain ⟨b, rfl⟩ := hx
   exact ⟨_, rfl, rfl⟩
  | some o2 =>
   rw [hff] at hx
   dsimp only at hx
   subst hx
   exact ⟨_, rfl, rfl⟩
def splitW : List UInt8 → List (List UInt8)
 | [] => [[]]
 | c :: r => if c = 32 then [] :: splitW r else match splitW r with
  | [] => [[c]]
  | h :: t => (c :: h) :: t
theorem splitW_ne (s : List UInt8) : splitW s ≠ [] := by
 cases s with
 | nil => simp [splitW]
 | cons c r => unfold splitW; split; simp; split <;> simp
theorem splitW_sp {c : UInt8} {r : List UInt8} (h : c = 32) : splitW (c :: r) = [] :: splitW r := by rw [splitW, if_pos h]
theorem splitW_other {c : UInt8} {r : List UInt8} (h : c ≠ 32) : splitW (c :: r) = prep [c] (splitW r) := by
 rw [splitW, if_neg h]; unfold prep; rcases splitW r with _ | ⟨h, t⟩ <;> rfl
theorem splitW_len : ∀ s : List UInt8, (splitW s).length ≤ s.length + 1
 | [] => by simp [splitW]
 | c :: r => by
  have := splitW_len r
  by_cases h : c = 32
  ·rw [splitW_sp h]; simp; omega
  ·rw [splitW_other h]; unfold prep; split <;> simp_all; omega
theorem spec_splitW (s : List UInt8) (hs : s.length ≤ 8796093022206) : m_spec_l01Split s = some (splitW s, ()) := by
 unfold m_spec_l01Split
 refine bind_ex (loopC_some' _ (fun n t => ∃ (f i : Nat) (o : List (List UInt8)), t = ((s, (), (f : Int), (i : Int), ()), o, ()) ∧ f ≤ i ∧ i ≤ s.length ∧ o.length ≤ i ∧ o ++ prep ((s.take i).drop f) (splitW (s.drop i)) = splitW s ∧ n = s.length - i)
  (fun r => ∃ (f : Nat) (o : List (List UInt8)), r = ((s, (), (f : Int), ()), o, ()) ∧ f ≤ s.length ∧ o.length ≤ s.length ∧ o ++ [s.drop f] = splitW s) ?_ _ s.length _ ⟨0, 0, [], rfl, by omega, by omega, by simp, ?_, rfl⟩ (by omega)) ?_
 rotate_left 2
 ·rintro r ⟨f, o, rfl, h1, h2, h3⟩
  dsimp only
  rw [if_pos (by omega), if_pos (by simp only [List.length_cons, List.length_nil]; omega)]
  rw [Int.toNat_natCast, Int.toNat_natCast, List.take_length, h3]
 ·rintro n t k ⟨f, i, o, rfl, hf, hi, ho, he, rfl⟩ hk
  dsimp only
  by_cases hl : i < s.length
  ·have hx : 0 ≤ (i : Int) ∧ (i : Int) < (s.length : Int) := by omega
   rw [decide_eq_true (by omega), cond_true, if_pos hx]
   simp only [Int.toNat_natCast]
   have hd := getD_cons hl
   rw [hd] at he
   by_cases hc : s.getD i 0 = 32
   ·rw [show (((s.getD i 0).toNat : Int) == 32) = true by rw [hc]; rfl, cond_true, if_pos (by omega), if_pos (by simp only [List.length_cons, List.length_nil]; omega), Option.bind_some]
    dsimp only
    rw [wr1 i (by omega)]
    refine hk (s.length - (i + 1)) _ (by omega) ⟨i + 1, i + 1, _, rfl, by omega, by omega, by simp; omega, ?_, rfl⟩
    rw [splitW_sp hc] at he
    rw [← he, List.append_assoc, show (s.take (i + 1)).drop (i + 1) = [] from List.drop_eq_nil_of_le (by rw [List.length_take]; omega)]
    unfold prep
    rcases hsp : splitW (s.drop (i + 1)) with _ | ⟨a, b⟩
    ·exact absurd hsp (splitW_ne _)
    ·simp
   ·rw [show (((s.getD i 0).toNat : Int) == 32) = false by
     rw [beq_eq_false_iff_ne]; intro h; exact hc (UInt8.toNat.inj (by show _ = 32; omega)), cond_false, Option.bind_some]
    dsimp only
    rw [wr1 i (by omega)]
    refine hk (s.length - (i + 1)) _ (by omega) ⟨f, i + 1, _, rfl, by omega, by omega, by omega, ?_, rfl⟩
    rw [splitW_other hc, prep_prep _ _ _ (splitW_ne _)] at he
    rw [take_snoc hl hf]
    exact he
  ·rw [decide_eq_false (by omega), cond_false]
   refine ⟨_, rfl, f, o, rfl, by omega, by omega, ?_⟩
   rw [← he, List.drop_eq_nil_of_le (by omega : s.length ≤ i), List.take_of_length_le (by omega)]
   simp [splitW, prep]
 ·simp only [List.drop_zero, List.nil_append, List.take_zero, List.drop_nil]
  rcases hsp : splitW s with _ | ⟨a, b⟩
  ·exact absurd hsp (splitW_ne _)
  ·rfl
theorem index_sp (s : List UInt8) : (Go.Lib.indexByte s 32 = -1 ∧ splitW s = [s]) ∨ ∃ k : Nat, k < s.length ∧ Go.Lib.indexByte s 32 = k ∧ splitW s = s.take k :: splitW (s.drop (k + 1)) ∧ s.count 32 = (s.drop (k + 1)).count 32 + 1 := by
 induction s with
 | nil => exact .inl ⟨rfl, rfl⟩
 | cons c r ih =>
  by_cases hc : c = 32
  ·refine .inr ⟨0, by simp, ?_, ?_, ?_⟩
   ·rw [hc]; rfl
   ·rw [splitW_sp hc]; rfl
   ·rw [hc]; simp
  ·have hb : (c == 32) = false := by simp [hc]
   rcases ih with ⟨h1, h2⟩ | ⟨k, hk, h1, h2, h3⟩
   ·refine .inl ⟨?_, ?_⟩
    ·unfold Go.Lib.indexByte; rw [hb, h1]; rfl
    ·rw [splitW_other hc, h2]; rfl
   ·refine .inr ⟨k + 1, by simp; omega, ?_, ?_, ?_⟩
    ·unfold Go.Lib.indexByte; rw [hb, h1]
     have : ((k : Int) == -1) = false := by rw [beq_eq_false_iff_ne]; omega
     simp [this]
    ·rw [splitW_other hc, h2]; rfl
    ·rw [List.count_cons, hb, h3]; simp
theorem index_eqW (s : List UInt8) : m_strings_Index_2 s = some (Go.Lib.indexByte s 32, ()) := by
 unfold m_strings_Index_2 m_stringslite_Index_2
 by_cases h : s = [32]
 ·subst h; rfl
 ·rw [show (([32] : List UInt8) == s) = false by rw [beq_eq_false_iff_ne]; exact fun h' => h h'.symm]
  rfl
theorem genSplit_eqW (s : List UInt8) (hs : s.length ≤ 8796093022206) : m_strings_genSplit_2 s = some (splitW s, ()) := by
 unfold m_strings_genSplit_2
 refine bind_eq (x := (((s.count 32 : Nat) : Int), ())) rfl ?_
 have hcl : s.count 32 ≤ s.length := List.count_le_length
 dsimp only
 rw [wr ((s.length : Int) + 1) (by omega), wr (((s.count 32 : Nat) : Int) + 1) (by omega), if_neg (show ¬((s.length : Int) + 1 < ((s.count 32 : Nat) : Int) + 1) by omega), if_pos (by omega), wr (((s.count 32 : Nat) : Int) + 1 - 1) (by omega)]
 have hn : (((s.count 32 : Nat) : Int) + 1).toNat = s.count 32 + 1 := by omega
 rw [hn]
 refine bind_ex (loopC_some' _ (fun n t => ∃ (r : List UInt8) (i : Nat) (a : List (List UInt8)), t = ((r, (), (), ((s.count 32 : Nat) : Int) + 1 - 1, (), (i : Int), ()), a, ()) ∧ i + r.count 32 = s.count 32 ∧ r.length ≤ s.length ∧ a.length = s.count 32 + 1 ∧ a.take i ++ splitW r = splitW s ∧ n = r.length)
  (fun t => ∃ (r : List UInt8) (i : Nat) (a : List (List UInt8)), t = ((r, (), (i : Int), ()), a, ()) ∧ i ≤ s.count 32 ∧ a.length = s.count 32 + 1 ∧ a.take i ++ [r] = splitW s) ?_ _ s.length _ ⟨s, 0, _, rfl, by omega, by omega, by simp, rfl, rfl⟩ (by omega)) ?_
 ·rintro n t k ⟨r, i, a, rfl, h1, h2, h3, h4, rfl⟩ hk
  dsimp only
  by_cases hl : i < s.count 32
  ·rw [decide_eq_true (by omega), cond_true, index_eqW, Option.bind_some]
   dsimp only
   rcases index_sp r with ⟨g1, g2⟩ | ⟨m, hm, g1, g2, g3⟩
   ·rw [g1, decide_eq_true (by omega), cond_true]
    exact ⟨_, rfl, r, i, a, rfl, by omega, h3, by rw [g2] at h4; exact h4⟩
   ·rw [g1, decide_eq_false (by omega), cond_false, wr ((m : Int) + 0) (by omega)]
    simp only [List.length_cons, List.length_nil]
    rw [show ((0 + 1 : Nat) : Int) = 1 from rfl, wr1 m (by omega), if_pos (by omega), if_pos (by omega), if_pos (by omega), if_pos (by omega), wr1 i (by omega)]
    refine hk (r.drop (m + 1)).length _ (by rw [List.length_drop]; omega) ⟨r.drop (m + 1), i + 1, a.set i (r.take m), ?_, by omega, by rw [List.length_drop]; omega, ?_, ?_, rfl⟩
    ·simp only [Int.toNat_natCast, List.take_length, Int.add_zero]; rfl
    ·rw [List.length_set]; exact h3
    ·rw [List.take_add_one, List.take_set_of_le (by omega), ← h4, g2]
     rw [List.getElem?_set_self (by omega)]
     simp
  ·rw [decide_eq_false (by omega), cond_false]
   refine ⟨_, rfl, r, i, a, rfl, by omega, h3, ?_⟩
   rcases index_sp r with ⟨g1, g2⟩ | ⟨m, hm, g1, g2, g3⟩
   ·rw [g2] at h4; exact h4
   ·omega
 ·rintro t ⟨r, i, a, rfl, h1, h2, h3⟩
  dsimp only
  rw [if_pos (by omega), if_pos (by omega), wr1 i (by omega), if_pos (by rw [List.length_set]; omega)]
  rw [Int.toNat_natCast, Int.toNat_natCast, List.take_add_one, List.take_set_of_le (by omega), List.getElem?_set_self (by omega)]
  show some (a.take i ++ [r], ()) = _
  rw [h3]
theorem split_eqW (s : List UInt8) (hs : s.length ≤ 8796093022206) : m_strings_Split_2 s = some (splitW s, ()) := by
 unfold m_strings_Split_2; rw [genSplit_eqW s hs]; rfl
theorem splitW_mem_len (s : List UInt8) : ∀ x ∈ splitW s, x.length ≤ s.length := by
 induction s with
 | nil => intro x hx; simp [splitW] at hx; subst hx; simp
 | cons c r ih =>
  intro x hx
  by_cases hc : c = 32
  ·rw [splitW_sp hc] at hx
   rcases List.mem_cons.1 hx with rfl | hx
   ·simp
   ·have := ih x hx; simp; omega
  ·rw [splitW_other hc] at hx
   unfold prep at hx
   rcases hsp : splitW r with _ | ⟨a, b⟩
   ·exact absurd hsp (splitW_ne _)
   ·rw [hsp] at hx ih
    rcases List.mem_cons.1 hx with rfl | hx
    ·have := ih a (by simp); simp; omega
    ·have := ih x (by simp [hx]); simp; omega
set_option maxRecDepth 20000
set_option maxHeartbeats 1000000
def pfx (w pre : List UInt8) : Bool := decide (pre.length ≤ w.length) && (w.take pre.length == pre)
theorem hasPrefix_eq (w pre : List UInt8) : m_stringslite_HasPrefix w pre = some (pfx w pre, ()) := by
 unfold m_stringslite_HasPrefix pfx
 by_cases h : pre.length ≤ w.length
 ·have hd : decide ((w.length : Int) ≥ (pre.length : Int)) = true := by simp; omega
  rw [hd, cond_true, if_pos ⟨by omega, by omega, by omega⟩, decide_eq_true h]
  simp
 ·have hd : decide ((w.length : Int) ≥ (pre.length : Int)) = false := by simp; omega
  rw [hd, cond_false, decide_eq_false h]; rfl
theorem cutPrefix_eq (w pre : List UInt8) : m_strings_CutPrefix w pre = some ((bif pfx w pre then w.drop pre.length else w, pfx w pre, ()), ()) := by
 unfold m_strings_CutPrefix m_stringslite_CutPrefix
 rw [hasPrefix_eq]
 cases hp : pfx w pre
 ·rfl
 ·have h : pre.length ≤ w.length := by
   unfold pfx at hp; simp only [Bool.and_eq_true, decide_eq_true_eq] at hp; exact hp.1
  simp only [Option.bind_some, Bool.not_true, cond_false, cond_true]
  rw [if_pos ⟨by omega, by omega, by omega⟩]
  simp
theorem after_eq (w pre : List UInt8) : m_spec_l11After w pre = some ((bif pfx w pre then w.drop pre.length else [], pfx w pre, ()), ()) := by
 unfold m_spec_l11After pfx
 by_cases h : pre.length ≤ w.length
 ·have hd : decide ((w.length : Int) < (pre.length : Int)) = false := by simp; omega
  rw [hd, cond_false, if_pos ⟨by omega, by omega, by omega⟩, decide_eq_true h, Option.bind_some]
  simp only [Int.toNat_natCast, Int.toNat_zero, List.drop_zero, Bool.true_and]
  cases hq : w.take pre.length == pre
  ·rfl
  ·simp only [Bool.not_true, cond_false, cond_true]
   rw [if_pos ⟨by omega, by omega, by omega⟩]
   simp
 ·have hd : decide ((w.length : Int) < (pre.length : Int)) = true := by simp; omega
  rw [hd, cond_true, decide_eq_false h]; rfl
def fndW : List (List UInt8) → Int → List UInt8 → Int
 | [], _, _ => -1
 | x :: r, j, w => if w = x then j else fndW r (j + 1) w
theorem fndW_neg : ∀ (l : List (List UInt8)) (j : Int) (w : List UInt8), 0 ≤ j → fndW l j w = -1 ∨ j ≤ fndW l j w
 | [], _, _, _ => .inl rfl
 | x :: r, j, n, h => by
  unfold fndW; split
  ·exact .inr (Int.le_refl _)
  ·rcases fndW_neg r (j + 1) n (by omega) with h | h
   ·exact .inl h
   ·exact .inr (by omega)
theorem indexS_eq (l : List (List UInt8)) (w : List UInt8) (hl : l.length ≤ 1000) : m_slices_Index_string_string l w = some (fndW l 0 w, ()) := by
 unfold m_slices_Index_string_string
 refine joinC_of (x := if fndW l 0 w < 0 then some (Sum.inl ((), ())) else some (Sum.inr (fndW l 0 w, ()))) ?_ ?_
 ·refine (loopC_inv _ (fun m t => ∃ i : Nat, i ≤ l.length ∧ m = l.length - i ∧ t = ((l, w, (l.length : Int), (i : Int), ()), ()))
   (fun t => if fndW (l.drop t.1.2.2.2.1.toNat) t.1.2.2.2.1 w < 0 then some (Sum.inl ((), ())) else some (Sum.inr (fndW (l.drop t.1.2.2.2.1.toNat) t.1.2.2.2.1 w, ()))) ?_ _ l.length _ ⟨0, by omega, by omega, rfl⟩ (by omega)).trans (by simp)
  rintro m t k ⟨i, hi, rfl, rfl⟩ hk
  dsimp only
  by_cases hlt : i < l.length
  ·have hd : decide ((i : Int) < (l.length : Int)) = true := by simpa using hlt
   rw [hd, cond_true, if_pos ⟨by omega, by omega⟩, wr1 _ (by omega)]
   simp only [Int.toNat_natCast]
   rw [drop_getD (nilOf UInt8) hlt]
   unfold fndW
   by_cases e : w = l.getD i (nilOf UInt8)
   ·rw [if_pos e, if_neg (by omega), show (w == l.getD i (nilOf UInt8)) = true by simpa using e]; rfl
   ·rw [if_neg e, show (w == l.getD i (nilOf UInt8)) = false by simpa using e, cond_false]
    exact hk _ _ (by omega) ⟨i + 1, by omega, rfl, rfl⟩
  ·have hd : decide ((i : Int) < (l.length : Int)) = false := by simpa using Nat.le_of_not_lt hlt
   have : l.drop i = [] := List.drop_eq_nil_of_le (by omega)
   rw [hd, cond_false]
   simp only [Int.toNat_natCast, this, fndW]; rfl
 ·rcases fndW_neg l 0 w (by omega) with h | h
  ·rw [h]; rfl
  ·rw [if_neg (by omega)]; rfl
abbrev ST := OptsT × Int × Int × Bool
def wordP (w : List UInt8) : ST → Option ST
 | ((a0, a1, a2, a3, a4, a5, a6, a7, a8, a9, a10, a11, a12, d, a14, s, p), sf, dr, tw) =>
  if pfx w [45, 45, 115, 117, 102, 102, 105, 120, 61] = true then some ((a0, a1, a2, a3, a4, a5, a6, a7, a8, a9, a10, a11, a12, d, a14, w.drop 9, p), sf + 1, dr, tw) else
  if pfx w [45, 45, 98, 97, 99, 107, 117, 112, 45, 100, 105, 114, 61] = true then some ((a0, a1, a2, a3, a4, a5, a6, a7, a8, a9, a10, a11, a12, d, a14, s, w.drop 13), sf, dr + 1, tw) else
  if w = [45, 45, 115, 105, 122, 101, 45, 111, 110, 108, 121] then some ((a0, a1, a2, a3, a4, a5, true, a7, a8, a9, a10, a11, a12, d, a14, s, p), sf, dr, tw) else
  if w = [45, 45, 101, 120, 105, 115, 116, 105, 110, 103] then some ((a0, a1, a2, a3, a4, a5, a6, a7, a8, a9, true, a11, a12, d, a14, s, p), sf, dr, tw) else
  if w = [45, 45, 105, 103, 110, 111, 114, 101, 45, 101, 120, 105, 115, 116, 105, 110, 103] then some ((a0, a1, a2, a3, a4, a5, a6, a7, a8, a9, a10, true, a12, d, a14, s, p), sf, dr, tw) else
  if w = [45, 45, 100, 101, 108, 101, 116, 101, 45, 98, 101, 102, 111, 114, 101] then some ((a0, a1, a2, a3, a4, a5, a6, a7, a8, a9, a10, a11, a12, 1, a14, s, p), sf, dr, tw || (d != 0 && d != 1)) else
  if w = [45, 45, 100, 101, 108, 101, 116, 101] then some ((a0, a1, a2, a3, a4, a5, a6, a7, a8, a9, a10, a11, a12, 2, a14, s, p), sf, dr, tw || (d != 0 && d != 2)) else
  if w = [45, 45, 100, 101, 108, 101, 116, 101, 45, 97, 102, 116, 101, 114] then some ((a0, a1, a2, a3, a4, a5, a6, a7, a8, a9, a10, a11, a12, 3, a14, s, p), sf, dr, tw || (d != 0 && d != 3)) else
  if (pfx w [45] && !(w.drop 1 == [])) = true then (foldC (w.drop 1) (a0, a1, a2, a3, a4, a5, a6, a7, a8, a9, a10, a11, a12, d, a14, s, p)).map fun o => (o, sf, dr, tw) else none
theorem word_eq (w : List UInt8) (hw : w.length ≤ 300) (o : OptsT) (sf dr : Int) (tw : Bool) (h1 : 0 ≤ sf ∧ sf ≤ 1000) (h2 : 0 ≤ dr ∧ dr ≤ 1000) :
    ∃ r, m_impl_parser_word w (boxOf o sf dr tw) = some r ∧ (match wordP w (o, sf, dr, tw) with | some st => r = (true, boxOf st.1 st.2.1 st.2.2.1 st.2.2.2, ()) | none => r.1 = false) := by
 obtain ⟨a0, a1, a2, a3, a4, a5, a6, a7, a8, a9, a10, a11, a12, d, a14, s, p⟩ := o
 unfold m_impl_parser_word
 rw [cutPrefix_eq, Option.bind_some]
 dsimp only
 cases hS : pfx w [45, 45, 115, 117, 102, 102, 105, 120, 61]
 case true =>
  refine ⟨_, rfl, ?_⟩
  simp only [wordP, hS, if_true, boxOf, cond_true]
  rw [wr _ (by omega)]; rfl
 rw [cond_false, cutPrefix_eq, Option.bind_some]
 dsimp only
 cases hD : pfx w [45, 45, 98, 97, 99, 107, 117, 112, 45, 100, 105, 114, 61]
 case true =>
  refine ⟨_, rfl, ?_⟩
  simp only [wordP, hS, hD, if_true, boxOf, cond_true, Bool.false_eq_true, if_false]
  rw [wr _ (by omega)]; rfl
 rw [cond_false]
 by_cases e1 : w = [45, 45, 115, 105, 122, 101, 45, 111, 110, 108, 121]
 ·subst e1; exact ⟨_, rfl, rfl⟩
 rw [show (w == [45, 45, 115, 105, 122, 101, 45, 111, 110, 108, 121]) = false by simpa using e1, cond_false]
 by_cases e2 : w = [45, 45, 101, 120, 105, 115, 116, 105, 110, 103]
 ·subst e2; exact ⟨_, rfl, rfl⟩
 rw [show (w == [45, 45, 101, 120, 105, 115, 116, 105, 110, 103]) = false by simpa using e2, cond_false]
 by_cases e3 : w = [45, 45, 105, 103, 110, 111, 114, 101, 45, 101, 120, 105, 115, 116, 105, 110, 103]
 ·subst e3; exact ⟨_, rfl, rfl⟩
 rw [show (w == [45, 45, 105, 103, 110, 111, 114, 101, 45, 101, 120, 105, 115, 116, 105, 110, 103]) = false by simpa using e3, cond_false]
 rw [show m_impl_deleteWords = some ([[], [45, 45, 100, 101, 108, 101, 116, 101, 45, 98, 101, 102, 111, 114, 101], [45, 45, 100, 101, 108, 101, 116, 101], [45, 45, 100, 101, 108, 101, 116, 101, 45, 97, 102, 116, 101, 114]], ()) from rfl, Option.bind_some]
 dsimp only
 rw [indexS_eq _ _ (by simp), Option.bind_some]
 dsimp only
 by_cases e4 : w = [45, 45, 100, 101, 108, 101, 116, 101, 45, 98, 101, 102, 111, 114, 101]
 ·subst e4
  have hx : fndW [[], [45, 45, 100, 101, 108, 101, 116, 101, 45, 98, 101, 102, 111, 114, 101], [45, 45, 100, 101, 108, 101, 116, 101], [45, 45, 100, 101, 108, 101, 116, 101, 45, 97, 102, 116, 101, 114]] 0 [45, 45, 100, 101, 108, 101, 116, 101, 45, 98, 101, 102, 111, 114, 101] = 1 := by simp [fndW]
  rw [hx]
  exact ⟨_, bind_eq (x := (((), 1, ()), (a0, a1, a2, a3, a4, a5, a6, a7, a8, a9, a10, a11, a12, d, a14, s, p, sf, dr, tw || (d != 0 && d != 1), ()), ())) (by simp only [boxOf]; cases tw <;> cases (d != 0) <;> rfl) rfl, rfl⟩
 by_cases e5 : w = [45, 45, 100, 101, 108, 101, 116, 101]
 ·subst e5
  have hx : fndW [[], [45, 45, 100, 101, 108, 101, 116, 101, 45, 98, 101, 102, 111, 114, 101], [45, 45, 100, 101, 108, 101, 116, 101], [45, 45, 100, 101, 108, 101, 116, 101, 45, 97, 102, 116, 101, 114]] 0 [45, 45, 100, 101, 108, 101, 116, 101] = 2 := by simp [fndW]
  rw [hx]
  exact ⟨_, bind_eq (x := (((), 2, ()), (a0, a1, a2, a3, a4, a5, a6, a7, a8, a9, a10, a11, a12, d, a14, s, p, sf, dr, tw || (d != 0 && d != 2), ()), ())) (by simp only [boxOf]; cases tw <;> cases (d != 0) <;> rfl) rfl, rfl⟩
 by_cases e6 : w = [45, 45, 100, 101, 108, 101, 116, 101, 45, 97, 102, 116, 101, 114]
 ·subst e6
  have hx : fndW [[], [45, 45, 100, 101, 108, 101, 116, 101, 45, 98, 101, 102, 111, 114, 101], [45, 45, 100, 101, 108, 101, 116, 101], [45, 45, 100, 101, 108, 101, 116, 101, 45, 97, 102, 116, 101, 114]] 0 [45, 45, 100, 101, 108, 101, 116, 101, 45, 97, 102, 116, 101, 114] = 3 := by simp [fndW]
  rw [hx]
  exact ⟨_, bind_eq (x := (((), 3, ()), (a0, a1, a2, a3, a4, a5, a6, a7, a8, a9, a10, a11, a12, d, a14, s, p, sf, dr, tw || (d != 0 && d != 3), ()), ())) (by simp only [boxOf]; cases tw <;> cases (d != 0) <;> rfl) rfl, rfl⟩
 have hf : decide (fndW [[], [45, 45, 100, 101, 108, 101, 116, 101, 45, 98, 101, 102, 111, 114, 101], [45, 45, 100, 101, 108, 101, 116, 101], [45, 45, 100, 101, 108, 101, 116, 101, 45, 97, 102, 116, 101, 114]] 0 w > 0) = false := by
  simp only [fndW, e4, e5, e6, if_false]
  split <;> rfl
 rw [hf, cond_false, cutPrefix_eq, Option.bind_some]
 dsimp only
 have hwp : wordP w ((a0, a1, a2, a3, a4, a5, a6, a7, a8, a9, a10, a11, a12, d, a14, s, p), sf, dr, tw) = if (pfx w [45] && !(w.drop 1 == [])) = true then (foldC (w.drop 1) (a0, a1, a2, a3, a4, a5, a6, a7, a8, a9, a10, a11, a12, d, a14, s, p)).map fun o => (o, sf, dr, tw) else none := by
  simp only [wordP, hS, hD, e1, e2, e3, e4, e5, e6, if_false, Bool.false_eq_true]
 rw [hwp]
 cases hP : pfx w [45]
 ·exact ⟨_, rfl, rfl⟩
 rw [cond_true, cond_true]
 obtain ⟨r, q1, q2⟩ := setLetters_eq (w.drop 1) (by rw [List.length_drop]; omega) (a0, a1, a2, a3, a4, a5, a6, a7, a8, a9, a10, a11, a12, d, a14, s, p) sf dr tw
 rw [show ([45] : List UInt8).length = 1 from rfl, q1]
 refine ⟨_, rfl, ?_⟩
 cases hc : foldC (w.drop 1) (a0, a1, a2, a3, a4, a5, a6, a7, a8, a9, a10, a11, a12, d, a14, s, p) with
 | none =>
  rw [hc] at q2
  cases hz : w.drop 1 == [] <;> exact q2
 | some o2 =>
  rw [hc] at q2
  subst q2
  cases hz : w.drop 1 == [] <;> rfl
theorem setC_keep {n : Int} {o o2 : OptsT} (h : setC n o = some o2) : o2.2.2.2.2.2.2.2.2.2.2.2.2.2.2.2 = o.2.2.2.2.2.2.2.2.2.2.2.2.2.2.2 := by
 obtain ⟨a0, a1, a2, a3, a4, a5, a6, a7, a8, a9, a10, a11, a12, d, a14, s, p⟩ := o
 by_cases h97 : n = 97
 ·subst h97
  have h2 : some (true, true, true, true, a4, a5, a6, a7, a8, a9, a10, a11, a12, d, a14, s, p) = some o2 := h
  rw [← Option.some.inj h2]
 by_cases h114 : n = 114
 ·subst h114
  have h2 : some (true, a1, a2, a3, a4, a5, a6, a7, a8, a9, a10, a11, a12, d, a14, s, p) = some o2 := h
  rw [← Option.some.inj h2]
 by_cases h108 : n = 108
 ·subst h108
  have h2 : some (a0, true, a2, a3, a4, a5, a6, a7, a8, a9, a10, a11, a12, d, a14, s, p) = some o2 := h
  rw [← Option.some.inj h2]
 by_cases h112 : n = 112
 ·subst h112
  have h2 : some (a0, a1, true, a3, a4, a5, a6, a7, a8, a9, a10, a11, a12, d, a14, s, p) = some o2 := h
  rw [← Option.some.inj h2]
 by_cases h116 : n = 116
 ·subst h116
  have h2 : some (a0, a1, a2, true, a4, a5, a6, a7, a8, a9, a10, a11, a12, d, a14, s, p) = some o2 := h
  rw [← Option.some.inj h2]
 by_cases h72 : n = 72
 ·subst h72
  have h2 : some (a0, a1, a2, a3, true, a5, a6, a7, a8, a9, a10, a11, a12, d, a14, s, p) = some o2 := h
  rw [← Option.some.inj h2]
 by_cases h99 : n = 99
 ·subst h99
  have h2 : some (a0, a1, a2, a3, a4, true, a6, a7, a8, a9, a10, a11, a12, d, a14, s, p) = some o2 := h
  rw [← Option.some.inj h2]
 by_cases h110 : n = 110
 ·subst h110
  have h2 : some (a0, a1, a2, a3, a4, a5, a6, true, a8, a9, a10, a11, a12, d, a14, s, p) = some o2 := h
  rw [← Option.some.inj h2]
 by_cases h87 : n = 87
 ·subst h87
  have h2 : some (a0, a1, a2, a3, a4, a5, a6, a7, true, a9, a10, a11, a12, d, a14, s, p) = some o2 := h
  rw [← Option.some.inj h2]
 by_cases h117 : n = 117
 ·subst h117
  have h2 : some (a0, a1, a2, a3, a4, a5, a6, a7, a8, true, a10, a11, a12, d, a14, s, p) = some o2 := h
  rw [← Option.some.inj h2]
 by_cases h121 : n = 121
 ·subst h121
  have h2 : some (a0, a1, a2, a3, a4, a5, a6, a7, a8, a9, a10, a11, true, d, a14, s, p) = some o2 := h
  rw [← Option.some.inj h2]
 by_cases h98 : n = 98
 ·subst h98
  have h2 : some (a0, a1, a2, a3, a4, a5, a6, a7, a8, a9, a10, a11, a12, d, true, s, p) = some o2 := h
  rw [← Option.some.inj h2]
 rw [show setC n (a0, a1, a2, a3, a4, a5, a6, a7, a8, a9, a10, a11, a12, d, a14, s, p) = none by simp only [setC, h97, h114, h108, h112, h116, h72, h99, h110, h87, h117, h121, h98, if_false]] at h
 cases h
theorem foldC_keep : ∀ {l : List UInt8} {o o2 : OptsT}, foldC l o = some o2 → o2.2.2.2.2.2.2.2.2.2.2.2.2.2.2.2 = o.2.2.2.2.2.2.2.2.2.2.2.2.2.2.2
 | [], o, o2, h => by simp only [foldC, Option.some.injEq] at h; subst h; rfl
 | c :: r, o, o2, h => by
  simp only [foldC] at h
  obtain ⟨o3, q1, q2⟩ := Option.bind_eq_some_iff.1 h
  rw [foldC_keep q2, setC_keep q1]
def SInv (i : Nat) (st : ST) : Prop := (0 ≤ st.2.1 ∧ st.2.1 ≤ i) ∧ (0 ≤ st.2.2.1 ∧ st.2.2.1 ≤ i) ∧ st.1.2.2.2.2.2.2.2.2.2.2.2.2.2.2.2.1.length ≤ 300 ∧ st.1.2.2.2.2.2.2.2.2.2.2.2.2.2.2.2.2.length ≤ 300
theorem wordP_inv {w : List UInt8} (hw : w.length ≤ 300) {i : Nat} {st st2 : ST} (hi : SInv i st) (h : wordP w st = some st2) : SInv (i + 1) st2 := by
 obtain ⟨⟨a0, a1, a2, a3, a4, a5, a6, a7, a8, a9, a10, a11, a12, d, a14, s, p⟩, sf, dr, tw⟩ := st
 obtain ⟨⟨g1, g2⟩, ⟨g3, g4⟩, g5, g6⟩ := hi
 dsimp only at g1 g2 g3 g4 g5 g6
 unfold wordP at h
 simp only at h
 have q : ∀ j, (w.drop j).length ≤ 300 := fun j => by rw [List.length_drop]; omega
 repeat' split at h
 all_goals try (simp only [Option.some.injEq] at h; subst h; exact ⟨⟨by dsimp only; omega, by dsimp only; omega⟩, ⟨by dsimp only; omega, by dsimp only; omega⟩, by first | exact g5 | exact q _, by first | exact g6 | exact q _⟩)
 ·cases hc : foldC (w.drop 1) (a0, a1, a2, a3, a4, a5, a6, a7, a8, a9, a10, a11, a12, d, a14, s, p) with
  | none => rw [hc] at h; cases h
  | some o2 =>
   rw [hc] at h
   simp only [Option.map_some, Option.some.injEq] at h
   subst h
   have hk := foldC_keep hc
   refine ⟨⟨by dsimp only; omega, by dsimp only; omega⟩, ⟨by dsimp only; omega, by dsimp only; omega⟩, ?_, ?_⟩
   ·dsimp only; rw [hk]; exact g5
   ·dsimp only; rw [hk]; exact g6
 ·cases h
set_option maxRecDepth 20000
set_option maxHeartbeats 1000000
def zeroO : OptsT := (false, false, false, false, false, false, false, false, false, false, false, false, false, (0 : Int), false, ([] : List UInt8), ([] : List UInt8))
def foldW : List (List UInt8) → ST → Option ST
 | [], st => some st
 | w :: r, st => (wordP w st).bind (foldW r)
def finP : ST → OptsT × Int
 | ((a0, a1, a2, a3, a4, a5, a6, a7, a8, a9, a10, a11, a12, d, a14, s, p), sf, dr, tw) =>
  if tw = true ∨ sf > 1 ∨ dr > 1 then (zeroO, 2) else
  if optsOk (a0, a1, a2, a3, a4, a5, a6, a7, a8, a9, a10, a11, a12, d, a14, (bif a14 && (sf == 0 && dr == 0) then [46, 98, 97, 107] else s), p) = true then ((a0, a1, a2, a3, a4, a5, a6, a7, a8, a9, a10, a11, a12, d, a14, (bif a14 && (sf == 0 && dr == 0) then [46, 98, 97, 107] else s), p), 0) else (zeroO, 3)
def wordsL (line : List UInt8) : List (List UInt8) := bif line == [] then [] else splitW line
def parseP (line : List UInt8) : OptsT × Int := if line.length > 300 then (zeroO, 1) else match foldW (wordsL line) (zeroO, 0, 0, false) with | none => (zeroO, 1) | some st => finP st
theorem wordsL_len {line : List UInt8} (h : line.length ≤ 300) : (wordsL line).length ≤ 301 ∧ ∀ w ∈ wordsL line, w.length ≤ 300 := by
 unfold wordsL
 cases line == []
 ·simp only [cond_false]
  have := splitW_len line
  exact ⟨by omega, fun w hw => Nat.le_trans (splitW_mem_len line w hw) h⟩
 ·simp
theorem foldW_inv : ∀ (l : List (List UInt8)) (i : Nat) (st st2 : ST), (∀ w ∈ l, w.length ≤ 300) → SInv i st → foldW l st = some st2 → SInv (i + l.length) st2
 | [], i, st, st2, _, hi, h => by simp only [foldW, Option.some.injEq] at h; subst h; exact hi
 | w :: r, i, st, st2, hw, hi, h => by
  simp only [foldW] at h
  obtain ⟨st3, q1, q2⟩ := Option.bind_eq_some_iff.1 h
  have := foldW_inv r (i + 1) st3 st2 (fun x hx => hw x (List.mem_cons_of_mem _ hx)) (wordP_inv (hw w (List.mem_cons_self ..)) hi q1) q2
  rw [List.length_cons, show i + (r.length + 1) = i + 1 + r.length by omega]; exact this
theorem inv0 : SInv 0 (zeroO, 0, 0, false) := ⟨⟨by decide, by decide⟩, ⟨by decide, by decide⟩, by simp [zeroO], by simp [zeroO]⟩
theorem impl_parse (line : List UInt8) : m_impl_ParseOpts line = some (((parseP line).1, (parseP line).2, ()), ()) := by
 unfold m_impl_ParseOpts parseP
 by_cases hL : line.length > 300
 ·rw [decide_eq_true (by omega : (line.length : Int) > 300), if_pos hL]; rfl
 rw [decide_eq_false (by omega : ¬ (line.length : Int) > 300), if_neg hL, cond_false]
 have hlen : line.length ≤ 300 := by omega
 obtain ⟨hw1, hw2⟩ := wordsL_len hlen
 refine joinC_ex (Q := fun x => match foldW (wordsL line) (zeroO, 0, 0, false) with | some st => x = Sum.inl (((), (), ()), (false, false, false, false, false, false, false, false, false, false, false, false, false, (0 : Int), false, ([] : List UInt8), ([] : List UInt8), ()), boxOf st.1 st.2.1 st.2.2.1 st.2.2.2, ()) | none => x = Sum.inr ((zeroO, (1 : Int), ()), ())) ?_ ?_
 ·by_cases he : line = []
  ·subst he; exact ⟨_, rfl, rfl⟩
  ·have hne : (line == nilOf UInt8) = false := by simpa [nilOf] using he
   have hwl : wordsL line = splitW line := by unfold wordsL; rw [show (line == []) = false by simpa using he, cond_false]
   rw [hwl] at hw1 hw2 ⊢
   rw [hne, Bool.not_false, cond_true, split_eqW line (by omega), Option.bind_some]
   dsimp only
   generalize splitW line = W at hw1 hw2 ⊢
   refine joinC_some (Q := fun x => match foldW W (zeroO, 0, 0, false) with | some st => x = Sum.inl (((), (), ()), (false, false, false, false, false, false, false, false, false, false, false, false, false, (0 : Int), false, ([] : List UInt8), ([] : List UInt8), ()), boxOf st.1 st.2.1 st.2.2.1 st.2.2.2, ()) | none => x = Sum.inr (Sum.inr ((zeroO, (1 : Int), ()), ()))) (
    loopC_some' _ (fun m t => ∃ (i : Nat) (st : ST), i ≤ W.length ∧ m = W.length - i ∧ SInv i st ∧ foldW (W.drop i) st = foldW W (zeroO, 0, 0, false) ∧ t = (((), (), W, (W.length : Int), (i : Int), ()), (false, false, false, false, false, false, false, false, false, false, false, false, false, (0 : Int), false, ([] : List UInt8), ([] : List UInt8), ()), boxOf st.1 st.2.1 st.2.2.1 st.2.2.2, ()))
     (fun x => match foldW W (zeroO, 0, 0, false) with | some st => x = Sum.inl (((), (), ()), (false, false, false, false, false, false, false, false, false, false, false, false, false, (0 : Int), false, ([] : List UInt8), ([] : List UInt8), ()), boxOf st.1 st.2.1 st.2.2.1 st.2.2.2, ()) | none => x = Sum.inr (Sum.inr ((zeroO, (1 : Int), ()), ()))) ?step _ W.length _ ⟨0, (zeroO, 0, 0, false), by omega, by omega, inv0, rfl, rfl⟩ (by omega)) ?fin
   case step =>
    rintro m t k ⟨i, st, hi, rfl, hv, hf, rfl⟩ hk
    dsimp only
    by_cases hlt : i < W.length
    ·have hd : decide ((i : Int) < (W.length : Int)) = true := by simpa using hlt
     rw [hd, cond_true, if_pos ⟨by omega, by omega⟩, wr1 _ (by omega)]
     simp only [Int.toNat_natCast]
     have hm : (W.getD i (nilOf UInt8)).length ≤ 300 := hw2 _ (getD_mem (nilOf UInt8) hlt)
     rw [drop_getD (nilOf UInt8) hlt] at hf
     simp only [foldW] at hf
     generalize W.getD i (nilOf UInt8) = w at hm hf
     obtain ⟨o, sf, dr, tw⟩ := st
     obtain ⟨⟨g1, g2⟩, ⟨g3, g4⟩, _⟩ := id hv
     dsimp only at g1 g2 g3 g4
     obtain ⟨r, q1, q2⟩ := word_eq w hm o sf dr tw ⟨g1, by omega⟩ ⟨g3, by omega⟩
     dsimp only
     rw [q1, Option.bind_some]
     cases hwp : wordP w (o, sf, dr, tw) with
     | none =>
      rw [hwp] at q2 hf
      dsimp only at q2
      rw [q2, ← hf]
      exact ⟨_, rfl, rfl⟩
     | some st2 =>
      rw [hwp] at q2 hf
      dsimp only at q2
      rw [q2]
      exact hk _ _ (by omega) ⟨i + 1, st2, by omega, rfl, wordP_inv hm hv hwp, hf, rfl⟩
    ·have hd : decide ((i : Int) < (W.length : Int)) = false := by simpa using Nat.le_of_not_lt hlt
     have : W.drop i = [] := List.drop_eq_nil_of_le (by omega)
     rw [this] at hf
     rw [hd, cond_false, ← hf]
     exact ⟨_, rfl, rfl⟩
   case fin =>
    intro x hx
    cases hff : foldW W (zeroO, 0, 0, false) with
    | none => rw [hff] at hx; dsimp only at hx; subst hx; exact ⟨_, rfl, rfl⟩
    | some st => rw [hff] at hx; dsimp only at hx; subst hx; exact ⟨_, rfl, rfl⟩
 ·intro x hx
  cases hff : foldW (wordsL line) (zeroO, 0, 0, false) with
  | none => rw [hff] at hx; dsimp only at hx; subst hx; rfl
  | some st =>
   rw [hff] at hx; dsimp only at hx; subst hx
   have hv := foldW_inv _ 0 _ st hw2 inv0 hff
   obtain ⟨⟨a0, a1, a2, a3, a4, a5, a6, a7, a8, a9, a10, a11, a12, d, a14, s, p⟩, sf, dr, tw⟩ := st
   obtain ⟨⟨g1, g2⟩, ⟨g3, g4⟩, g5, g6⟩ := hv
   dsimp only at g1 g2 g3 g4 g5 g6
   dsimp only [boxOf, joinC]
   unfold finP
   dsimp only
   refine bind_eq (x := (((), (), (tw || (decide (sf > 1) || decide (dr > 1))), ()), (false, false, false, false, false, false, false, false, false, false, false, false, false, (0 : Int), false, ([] : List UInt8), ([] : List UInt8), ()), (a0, a1, a2, a3, a4, a5, a6, a7, a8, a9, a10, a11, a12, d, a14, s, p, sf, dr, tw, ()), ())) ?_ ?_
   ·cases hs : decide (sf > 1) <;> cases hdr : decide (dr > 1) <;> cases tw <;> rfl
   dsimp only
   by_cases ht : tw = true ∨ sf > 1 ∨ dr > 1
   ·have : (tw || (decide (sf > 1) || decide (dr > 1))) = true := by simpa using ht
    rw [this, if_pos ht]; rfl
   have : (tw || (decide (sf > 1) || decide (dr > 1))) = false := by
    cases hq : (tw || (decide (sf > 1) || decide (dr > 1)))
    ·rfl
    ·exact absurd (by simpa using hq) ht
   rw [this, if_neg ht, cond_false]
   refine bind_eq (x := (((), (), (a14 && (sf == 0 && dr == 0)), ()), (false, false, false, false, false, false, false, false, false, false, false, false, false, (0 : Int), false, ([] : List UInt8), ([] : List UInt8), ()), (a0, a1, a2, a3, a4, a5, a6, a7, a8, a9, a10, a11, a12, d, a14, s, p, sf, dr, tw, ()), ())) ?_ ?_
   ·cases a14
    ·rfl
    ·cases sf == 0 <;> rfl
   dsimp only
   generalize hs2 : (bif a14 && (sf == 0 && dr == 0) then [46, 98, 97, 107] else s) = s2
   have hs2l : s2.length ≤ 300 := by rw [← hs2]; cases a14 && (sf == 0 && dr == 0) <;> simp [g5]
   refine bind_eq (x := (((), (), ()), (false, false, false, false, false, false, false, false, false, false, false, false, false, (0 : Int), false, ([] : List UInt8), ([] : List UInt8), ()), (a0, a1, a2, a3, a4, a5, a6, a7, a8, a9, a10, a11, a12, d, a14, s2, p, sf, dr, tw, ()), ())) ?_ ?_
   ·rw [← hs2]; cases a14 && (sf == 0 && dr == 0) <;> rfl
   dsimp only
   rw [impl_optsOk _ (by dsimp only; omega) (by dsimp only; omega), Option.bind_some]
   dsimp only
   cases optsOk (a0, a1, a2, a3, a4, a5, a6, a7, a8, a9, a10, a11, a12, d, a14, s2, p) <;> rfl
set_option maxRecDepth 20000
set_option maxHeartbeats 1000000
abbrev B17T := Bool × Bool × Bool × Bool × Bool × Bool × Bool × Bool × Bool × Bool × Bool × Bool × Bool × Int × Bool × List UInt8 × List UInt8 × Unit
def box17 : OptsT → B17T
 | (a0, a1, a2, a3, a4, a5, a6, a7, a8, a9, a10, a11, a12, d, a14, s, p) => (a0, a1, a2, a3, a4, a5, a6, a7, a8, a9, a10, a11, a12, d, a14, s, p, ())
theorem spec_parse (line : List UInt8) : m_spec_ParseOpts line = some (((parseP line).1, (parseP line).2, ()), ()) := by
 unfold m_spec_ParseOpts parseP
 by_cases hL : line.length > 300
 ·rw [decide_eq_true (by omega : (line.length : Int) > 300), if_pos hL]; rfl
 rw [decide_eq_false (by omega : ¬ (line.length : Int) > 300), if_neg hL, cond_false]
 have hlen : line.length ≤ 300 := by omega
 obtain ⟨hw1, hw2⟩ := wordsL_len hlen
 rw [spec_splitW line (by omega), Option.bind_some]
 refine bind_eq (x := (((), (), wordsL line, ()), (false, false, false, false, false, false, false, false, false, false, false, false, false, (0 : Int), false, ([] : List UInt8), ([] : List UInt8), ()), (false, false, false, false, false, false, false, false, false, false, false, false, false, (0 : Int), false, ([] : List UInt8), ([] : List UInt8), ()), ())) (by unfold wordsL; cases h : line == [] <;> simp [nilOf, h]) ?_
 dsimp only
 generalize wordsL line = W at hw1 hw2 ⊢
 refine joinC_ex (Q := fun x => match foldW W (zeroO, 0, 0, false) with | some st => x = Sum.inl (((), (), st.2.1, st.2.2.1, st.2.2.2, ()), (false, false, false, false, false, false, false, false, false, false, false, false, false, (0 : Int), false, ([] : List UInt8), ([] : List UInt8), ()), box17 st.1, ()) | none => x = Sum.inr ((zeroO, (1 : Int), ()), ())) (
  loopC_some' _ (fun m t => ∃ (i : Nat) (st : ST), i ≤ W.length ∧ m = W.length - i ∧ SInv i st ∧ foldW (W.drop i) st = foldW W (zeroO, 0, 0, false) ∧ t = (((), (), W, st.2.1, st.2.2.1, st.2.2.2, (i : Int), ()), (false, false, false, false, false, false, false, false, false, false, false, false, false, (0 : Int), false, ([] : List UInt8), ([] : List UInt8), ()), box17 st.1, ()))
   (fun x => match foldW W (zeroO, 0, 0, false) with | some st => x = Sum.inl (((), (), st.2.1, st.2.2.1, st.2.2.2, ()), (false, false, false, false, false, false, false, false, false, false, false, false, false, (0 : Int), false, ([] : List UInt8), ([] : List UInt8), ()), box17 st.1, ()) | none => x = Sum.inr ((zeroO, (1 : Int), ()), ())) ?step _ W.length _ ⟨0, (zeroO, 0, 0, false), by omega, by omega, inv0, rfl, rfl⟩ (by omega)) ?fin
 case step =>
  rintro m t k ⟨i, st, hi, rfl, hv, hf, rfl⟩ hk
  obtain ⟨o, sf, dr, tw⟩ := st
  dsimp only
  by_cases hnl : ¬ i < W.length
  ·have hd : decide ((i : Int) < (W.length : Int)) = false := by simpa using Nat.le_of_not_lt hnl
   have : W.drop i = [] := List.drop_eq_nil_of_le (by omega)
   rw [this] at hf
   rw [hd, cond_false, ← hf]
   exact ⟨_, rfl, rfl⟩
  have hlt : i < W.length := Classical.not_not.1 hnl
  have hd : decide ((i : Int) < (W.length : Int)) = true := by simpa using hlt
  rw [hd, cond_true, if_pos ⟨by omega, by omega⟩]
  simp only [Int.toNat_natCast]
  have hm : (W.getD i (nilOf UInt8)).length ≤ 300 := hw2 _ (getD_mem (nilOf UInt8) hlt)
  rw [drop_getD (nilOf UInt8) hlt] at hf
  simp only [foldW] at hf
  generalize W.getD i (nilOf UInt8) = w at hm hf ⊢
  refine joinC_some (Q := fun x => match wordP w (o, sf, dr, tw) with | some st2 => x = Sum.inl ((((), (), W, st2.2.1, st2.2.2.1, st2.2.2.2, (i : Int), ()), (false, false, false, false, false, false, false, false, false, false, false, false, false, (0 : Int), false, ([] : List UInt8), ([] : List UInt8), ()), box17 st2.1, ())) | none => x = Sum.inr (Sum.inr ((zeroO, (1 : Int), ()), ()))) ?body ?next
  case next =>
   intro x hx
   cases hwp : wordP w (o, sf, dr, tw) with
   | none =>
    rw [hwp] at hx hf; dsimp only at hx; subst hx
    rw [← hf]
    exact ⟨_, rfl, rfl⟩
   | some st2 =>
    rw [hwp] at hx hf; dsimp only at hx; subst hx
    dsimp only [joinC]
    rw [wr1 _ (by omega)]
    exact hk _ _ (by omega) ⟨i + 1, st2, by omega, rfl, wordP_inv hm hv hwp, hf, rfl⟩
  clear hk hf
  obtain ⟨⟨g1, g2⟩, ⟨g3, g4⟩, _⟩ := hv
  dsimp only at g1 g2 g3 g4
  obtain ⟨a0, a1, a2, a3, a4, a5, a6, a7, a8, a9, a10, a11, a12, d, a14, s, p⟩ := o
  by_cases e1 : w = [45, 45, 115, 105, 122, 101, 45, 111, 110, 108, 121]
  ·subst e1; exact ⟨_, rfl, rfl⟩
  rw [show (w == [45, 45, 115, 105, 122, 101, 45, 111, 110, 108, 121]) = false by simpa using e1, cond_false]
  by_cases e2 : w = [45, 45, 101, 120, 105, 115, 116, 105, 110, 103]
  ·subst e2; exact ⟨_, rfl, rfl⟩
  rw [show (w == [45, 45, 101, 120, 105, 115, 116, 105, 110, 103]) = false by simpa using e2, cond_false]
  by_cases e3 : w = [45, 45, 105, 103, 110, 111, 114, 101, 45, 101, 120, 105, 115, 116, 105, 110, 103]
  ·subst e3; exact ⟨_, rfl, rfl⟩
  rw [show (w == [45, 45, 105, 103, 110, 111, 114, 101, 45, 101, 120, 105, 115, 116, 105, 110, 103]) = false by simpa using e3, cond_false]
  by_cases e5 : w = [45, 45, 100, 101, 108, 101, 116, 101]
  ·subst e5
   exact ⟨_, bind_eq (x := (((), (), W, sf, dr, tw, (i : Int), [45, 45, 100, 101, 108, 101, 116, 101], (2 : Int), ()), (false, false, false, false, false, false, false, false, false, false, false, false, false, (0 : Int), false, ([] : List UInt8), ([] : List UInt8), ()), (a0, a1, a2, a3, a4, a5, a6, a7, a8, a9, a10, a11, a12, d, a14, s, p, ()), ())) rfl (bind_eq (x := (((), (), W, sf, dr, tw, (i : Int), (2 : Int), (d != 0 && d != 2), ()), (false, false, false, false, false, false, false, false, false, false, false, false, false, (0 : Int), false, ([] : List UInt8), ([] : List UInt8), ()), (a0, a1, a2, a3, a4, a5, a6, a7, a8, a9, a10, a11, a12, d, a14, s, p, ()), ())) (by dsimp only [box17]; cases (d != 0) <;> rfl) (bind_eq (x := (((), (), W, sf, dr, tw || (d != 0 && d != 2), (i : Int), (2 : Int), ()), (false, false, false, false, false, false, false, false, false, false, false, false, false, (0 : Int), false, ([] : List UInt8), ([] : List UInt8), ()), (a0, a1, a2, a3, a4, a5, a6, a7, a8, a9, a10, a11, a12, d, a14, s, p, ()), ())) (by cases tw <;> cases (d != 0 && d != 2) <;> rfl) rfl)), rfl⟩
  by_cases e4 : w = [45, 45, 100, 101, 108, 101, 116, 101, 45, 98, 101, 102, 111, 114, 101]
  ·subst e4
   exact ⟨_, bind_eq (x := (((), (), W, sf, dr, tw, (i : Int), [45, 45, 100, 101, 108, 101, 116, 101, 45, 98, 101, 102, 111, 114, 101], (1 : Int), ()), (false, false, false, false, false, false, false, false, false, false, false, false, false, (0 : Int), false, ([] : List UInt8), ([] : List UInt8), ()), (a0, a1, a2, a3, a4, a5, a6, a7, a8, a9, a10, a11, a12, d, a14, s, p, ()), ())) rfl (bind_eq (x := (((), (), W, sf, dr, tw, (i : Int), (1 : Int), (d != 0 && d != 1), ()), (false, false, false, false, false, false, false, false, false, false, false, false, false, (0 : Int), false, ([] : List UInt8), ([] : List UInt8), ()), (a0, a1, a2, a3, a4, a5, a6, a7, a8, a9, a10, a11, a12, d, a14, s, p, ()), ())) (by dsimp only [box17]; cases (d != 0) <;> rfl) (bind_eq (x := (((), (), W, sf, dr, tw || (d != 0 && d != 1), (i : Int), (1 : Int), ()), (false, false, false, false, false, false, false, false, false, false, false, false, false, (0 : Int), false, ([] : List UInt8), ([] : List UInt8), ()), (a0, a1, a2, a3, a4, a5, a6, a7, a8, a9, a10, a11, a12, d, a14, s, p, ()), ())) (by cases tw <;> cases (d != 0 && d != 1) <;> rfl) rfl)), rfl⟩
  by_cases e6 : w = [45, 45, 100, 101, 108, 101, 116, 101, 45, 97, 102, 116, 101, 114]
  ·subst e6
   exact ⟨_, bind_eq (x := (((), (), W, sf, dr, tw, (i : Int), [45, 45, 100, 101, 108, 101, 116, 101, 45, 97, 102, 116, 101, 114], (3 : Int), ()), (false, false, false, false, false, false, false, false, false, false, false, false, false, (0 : Int), false, ([] : List UInt8), ([] : List UInt8), ()), (a0, a1, a2, a3, a4, a5, a6, a7, a8, a9, a10, a11, a12, d, a14, s, p, ()), ())) rfl (bind_eq (x := (((), (), W, sf, dr, tw, (i : Int), (3 : Int), (d != 0 && d != 3), ()), (false, false, false, false, false, false, false, false, false, false, false, false, false, (0 : Int), false, ([] : List UInt8), ([] : List UInt8), ()), (a0, a1, a2, a3, a4, a5, a6, a7, a8, a9, a10, a11, a12, d, a14, s, p, ()), ())) (by dsimp only [box17]; cases (d != 0) <;> rfl) (bind_eq (x := (((), (), W, sf, dr, tw || (d != 0 && d != 3), (i : Int), (3 : Int), ()), (false, false, false, false, false, false, false, false, false, false, false, false, false, (0 : Int), false, ([] : List UInt8), ([] : List UInt8), ()), (a0, a1, a2, a3, a4, a5, a6, a7, a8, a9, a10, a11, a12, d, a14, s, p, ()), ())) (by cases tw <;> cases (d != 0 && d != 3) <;> rfl) rfl)), rfl⟩
  refine bind_some' (Q := fun x => x = (((), (), W, sf, dr, tw, (i : Int), w, (0 : Int), ()), (false, false, false, false, false, false, false, false, false, false, false, false, false, (0 : Int), false, ([] : List UInt8), ([] : List UInt8), ()), (a0, a1, a2, a3, a4, a5, a6, a7, a8, a9, a10, a11, a12, d, a14, s, p, ()), ())) ⟨_, by
   rw [show (w == [45, 45, 100, 101, 108, 101, 116, 101]) = false by simpa using e5, show (w == [45, 45, 100, 101, 108, 101, 116, 101, 45, 98, 101, 102, 111, 114, 101]) = false by simpa using e4, show (w == [45, 45, 100, 101, 108, 101, 116, 101, 45, 97, 102, 116, 101, 114]) = false by simpa using e6]; rfl, rfl⟩ ?_
  rintro _ rfl
  dsimp only
  rw [show ((0 : Int) != 0) = false from rfl, cond_false, after_eq, Option.bind_some]
  dsimp only
  cases hS : pfx w [45, 45, 115, 117, 102, 102, 105, 120, 61]
  case true =>
   refine ⟨_, rfl, ?_⟩
   simp only [wordP, hS, if_true, box17, cond_true]
   rw [wr _ (by omega)]; rfl
  rw [cond_false, after_eq, Option.bind_some]
  dsimp only
  cases hD : pfx w [45, 45, 98, 97, 99, 107, 117, 112, 45, 100, 105, 114, 61]
  case true =>
   refine ⟨_, rfl, ?_⟩
   simp only [wordP, hS, hD, if_true, box17, cond_true, Bool.false_eq_true, if_false]
   rw [wr _ (by omega)]; rfl
  rw [cond_false]
  have hwp : wordP w ((a0, a1, a2, a3, a4, a5, a6, a7, a8, a9, a10, a11, a12, d, a14, s, p), sf, dr, tw) = if (pfx w [45] && !(w.drop 1 == [])) = true then (foldC (w.drop 1) (a0, a1, a2, a3, a4, a5, a6, a7, a8, a9, a10, a11, a12, d, a14, s, p)).map fun o => (o, sf, dr, tw) else none := by
   simp only [wordP, hS, hD, e1, e2, e3, e4, e5, e6, if_false, Bool.false_eq_true]
  rw [hwp]
  generalize hcb : (pfx w [45] && !(w.drop 1 == [])) = cb
  refine bind_some' (Q := fun x => x = (((), (), W, sf, dr, tw, (i : Int), w, !cb, ()), (false, false, false, false, false, false, false, false, false, false, false, false, false, (0 : Int), false, ([] : List UInt8), ([] : List UInt8), ()), (a0, a1, a2, a3, a4, a5, a6, a7, a8, a9, a10, a11, a12, d, a14, s, p, ()), ())) ?_ ?_
  ·refine ⟨_, ?_, rfl⟩
   match w, hcb with
   | [], h => subst h; rfl
   | [c], h =>
    have : cb = false := by rw [← h]; simp
    subst this; rfl
   | c :: c2 :: r, h =>
    have h2 : decide (((c :: c2 :: r).length : Int) < 2) = false := by simp; omega
    rw [h2, cond_false, if_pos (by simp; omega)]
    have : ((c.toNat : Int) != 45) = !cb := by
     rw [← h]
     have e : (c == 45) = ((c.toNat : Int) == 45) := by
      by_cases q : c = 45
      ·subst q; rfl
      ·have q2 : ¬ (c.toNat : Int) = 45 := fun h => q (UInt8.toNat_inj.1 (by simpa using Int.ofNat.inj h))
       rw [show (c == 45) = false by simpa using q, show ((c.toNat : Int) == 45) = false by simpa using q2]
     simp only [pfx, bne, List.take_succ_cons, List.take_zero, List.length_cons, List.length_nil, List.drop_succ_cons, List.drop_zero, ← e]
     cases hc : c == 45 <;> simp_all
    rw [← this]; rfl
  rintro _ rfl
  dsimp only
  cases cb
  ·exact ⟨_, rfl, rfl⟩
  rw [Bool.not_true, cond_false]
  simp only [if_true]
  have hwne : 1 ≤ w.length := by
   cases w with
   | nil => simp at hcb
   | cons c r => simp
  refine joinC_some (Q := fun x => match foldC (w.drop 1) (a0, a1, a2, a3, a4, a5, a6, a7, a8, a9, a10, a11, a12, d, a14, s, p) with | some o2 => x = Sum.inl (((), (), W, sf, dr, tw, (i : Int), ()), (false, false, false, false, false, false, false, false, false, false, false, false, false, (0 : Int), false, ([] : List UInt8), ([] : List UInt8), ()), box17 o2, ()) | none => x = Sum.inr (Sum.inr (Sum.inr ((zeroO, (1 : Int), ()), ())))) (
   loopC_some' _ (fun m t => ∃ (j : Nat) (oj : OptsT), 1 ≤ j ∧ j ≤ w.length ∧ m = w.length - j ∧ foldC (w.drop j) oj = foldC (w.drop 1) (a0, a1, a2, a3, a4, a5, a6, a7, a8, a9, a10, a11, a12, d, a14, s, p) ∧ t = (((), (), W, sf, dr, tw, (i : Int), w, (j : Int), ()), (false, false, false, false, false, false, false, false, false, false, false, false, false, (0 : Int), false, ([] : List UInt8), ([] : List UInt8), ()), box17 oj, ()))
    (fun x => match foldC (w.drop 1) (a0, a1, a2, a3, a4, a5, a6, a7, a8, a9, a10, a11, a12, d, a14, s, p) with | some o2 => x = Sum.inl (((), (), W, sf, dr, tw, (i : Int), ()), (false, false, false, false, false, false, false, false, false, false, false, false, false, (0 : Int), false, ([] : List UInt8), ([] : List UInt8), ()), box17 o2, ()) | none => x = Sum.inr (Sum.inr (Sum.inr ((zeroO, (1 : Int), ()), ())))) ?lstep _ (w.length - 1) _ ⟨1, (a0, a1, a2, a3, a4, a5, a6, a7, a8, a9, a10, a11, a12, d, a14, s, p), by omega, hwne, rfl, rfl, rfl⟩ (by omega)) ?lfin
  case lstep =>
   rintro m t k ⟨j, oj, hj1, hj2, rfl, hf, rfl⟩ hk
   dsimp only
   by_cases hlt : j < w.length
   ·have hd : decide ((j : Int) < (w.length : Int)) = true := by simpa using hlt
    rw [hd, cond_true, if_pos ⟨by omega, by omega⟩, wr1 _ (by omega)]
    simp only [Int.toNat_natCast]
    rw [drop_getD (0 : UInt8) hlt] at hf
    simp only [foldC] at hf
    generalize ((w.getD j 0).toNat : Int) = n at hf ⊢
    refine bind_some' (Q := fun x => x = (((setC n oj).getD oj, (setC n oj).isSome, ()), ())) ⟨_, spec_letter oj n, rfl⟩ ?_
    rintro _ rfl
    dsimp only
    cases hc : setC n oj with
    | none =>
     rw [hc] at hf
     rw [← hf]
     exact ⟨_, rfl, rfl⟩
    | some o3 =>
     rw [hc] at hf
     exact hk _ _ (by omega) ⟨j + 1, o3, by omega, by omega, rfl, hf, rfl⟩
   ·have hd : decide ((j : Int) < (w.length : Int)) = false := by simpa using Nat.le_of_not_lt hlt
    have : w.drop j = [] := List.drop_eq_nil_of_le (by omega)
    rw [this] at hf
    rw [hd, cond_false, ← hf]
    exact ⟨_, rfl, rfl⟩
  case lfin =>
   intro x hx
   cases hc : foldC (w.drop 1) (a0, a1, a2, a3, a4, a5, a6, a7, a8, a9, a10, a11, a12, d, a14, s, p) with
   | none => rw [hc] at hx; dsimp only at hx; subst hx; exact ⟨_, rfl, rfl⟩
   | some o2 => rw [hc] at hx; dsimp only at hx; subst hx; exact ⟨_, rfl, rfl⟩
 case fin =>
  intro x hx
  cases hff : foldW W (zeroO, 0, 0, false) with
  | none => rw [hff] at hx; dsimp only at hx; subst hx; rfl
  | some st =>
   rw [hff] at hx; dsimp only at hx; subst hx
   have hv := foldW_inv _ 0 _ st hw2 inv0 hff
   obtain ⟨⟨a0, a1, a2, a3, a4, a5, a6, a7, a8, a9, a10, a11, a12, d, a14, s, p⟩, sf, dr, tw⟩ := st
   obtain ⟨⟨g1, g2⟩, ⟨g3, g4⟩, g5, g6⟩ := hv
   dsimp only at g1 g2 g3 g4 g5 g6
   dsimp only [box17, joinC]
   unfold finP
   dsimp only
   refine bind_eq (x := (((), (), sf, dr, (tw || (decide (sf > 1) || decide (dr > 1))), ()), (false, false, false, false, false, false, false, false, false, false, false, false, false, (0 : Int), false, ([] : List UInt8), ([] : List UInt8), ()), (a0, a1, a2, a3, a4, a5, a6, a7, a8, a9, a10, a11, a12, d, a14, s, p, ()), ())) ?_ ?_
   ·cases hs : decide (sf > 1) <;> cases hdr : decide (dr > 1) <;> cases tw <;> rfl
   dsimp only
   by_cases ht : tw = true ∨ sf > 1 ∨ dr > 1
   ·have : (tw || (decide (sf > 1) || decide (dr > 1))) = true := by simpa using ht
    rw [this, if_pos ht]; rfl
   have : (tw || (decide (sf > 1) || decide (dr > 1))) = false := by
    cases hq : (tw || (decide (sf > 1) || decide (dr > 1)))
    ·rfl
    ·exact absurd (by simpa using hq) ht
   rw [this, if_neg ht, cond_false]
   refine bind_eq (x := (((), (), (a14 && (sf == 0 && dr == 0)), ()), (false, false, false, false, false, false, false, false, false, false, false, false, false, (0 : Int), false, ([] : List UInt8), ([] : List UInt8), ()), (a0, a1, a2, a3, a4, a5, a6, a7, a8, a9, a10, a11, a12, d, a14, s, p, ()), ())) ?_ ?_
   ·cases a14
    ·rfl
    ·cases sf == 0 <;> rfl
   dsimp only
   generalize hs2 : (bif a14 && (sf == 0 && dr == 0) then [46, 98, 97, 107] else s) = s2
   have hs2l : s2.length ≤ 300 := by rw [← hs2]; cases a14 && (sf == 0 && dr == 0) <;> simp [g5]
   refine bind_eq (x := (((), (), ()), (false, false, false, false, false, false, false, false, false, false, false, false, false, (0 : Int), false, ([] : List UInt8), ([] : List UInt8), ()), (a0, a1, a2, a3, a4, a5, a6, a7, a8, a9, a10, a11, a12, d, a14, s2, p, ()), ())) ?_ ?_
   ·rw [← hs2]; cases a14 && (sf == 0 && dr == 0) <;> rfl
   dsimp only
   rw [spec_optsOk _ (by dsimp only; omega) (by dsimp only; omega), Option.bind_some]
   dsimp only
   cases optsOk (a0, a1, a2, a3, a4, a5, a6, a7, a8, a9, a10, a11, a12, d, a14, s2, p) <;> rfl
set_option maxRecDepth 20000
set_option maxHeartbeats 1000000
theorem stp0 (b : Bool) (r : List (UInt8 × Bool)) (c1 c2 c3 c4 c5 c6 c7 c8 c9 c10 c11 c12 c14 : Bool) (c13 : Int) (c15 c16 : List UInt8) : foldC (picks ((114, b) :: r)) (false, c1, c2, c3, c4, c5, c6, c7, c8, c9, c10, c11, c12, c13, c14, c15, c16) = foldC (picks r) (b, c1, c2, c3, c4, c5, c6, c7, c8, c9, c10, c11, c12, c13, c14, c15, c16) := by cases b <;> rfl
theorem stp1 (b : Bool) (r : List (UInt8 × Bool)) (c0 c2 c3 c4 c5 c6 c7 c8 c9 c10 c11 c12 c14 : Bool) (c13 : Int) (c15 c16 : List UInt8) : foldC (picks ((108, b) :: r)) (c0, false, c2, c3, c4, c5, c6, c7, c8, c9, c10, c11, c12, c13, c14, c15, c16) = foldC (picks r) (c0, b, c2, c3, c4, c5, c6, c7, c8, c9, c10, c11, c12, c13, c14, c15, c16) := by cases b <;> rfl
theorem stp2 (b : Bool) (r : List (UInt8 × Bool)) (c0 c1 c3 c4 c5 c6 c7 c8 c9 c10 c11 c12 c14 : Bool) (c13 : Int) (c15 c16 : List UInt8) : foldC (picks ((112, b) :: r)) (c0, c1, false, c3, c4, c5, c6, c7, c8, c9, c10, c11, c12, c13, c14, c15, c16) = foldC (picks r) (c0, c1, b, c3, c4, c5, c6, c7, c8, c9, c10, c11, c12, c13, c14, c15, c16) := by cases b <;> rfl
theorem stp3 (b : Bool) (r : List (UInt8 × Bool)) (c0 c1 c2 c4 c5 c6 c7 c8 c9 c10 c11 c12 c14 : Bool) (c13 : Int) (c15 c16 : List UInt8) : foldC (picks ((116, b) :: r)) (c0, c1, c2, false, c4, c5, c6, c7, c8, c9, c10, c11, c12, c13, c14, c15, c16) = foldC (picks r) (c0, c1, c2, b, c4, c5, c6, c7, c8, c9, c10, c11, c12, c13, c14, c15, c16) := by cases b <;> rfl
theorem stp4 (b : Bool) (r : List (UInt8 × Bool)) (c0 c1 c2 c3 c5 c6 c7 c8 c9 c10 c11 c12 c14 : Bool) (c13 : Int) (c15 c16 : List UInt8) : foldC (picks ((72, b) :: r)) (c0, c1, c2, c3, false, c5, c6, c7, c8, c9, c10, c11, c12, c13, c14, c15, c16) = foldC (picks r) (c0, c1, c2, c3, b, c5, c6, c7, c8, c9, c10, c11, c12, c13, c14, c15, c16) := by cases b <;> rfl
theorem stp5 (b : Bool) (r : List (UInt8 × Bool)) (c0 c1 c2 c3 c4 c6 c7 c8 c9 c10 c11 c12 c14 : Bool) (c13 : Int) (c15 c16 : List UInt8) : foldC (picks ((99, b) :: r)) (c0, c1, c2, c3, c4, false, c6, c7, c8, c9, c10, c11, c12, c13, c14, c15, c16) = foldC (picks r) (c0, c1, c2, c3, c4, b, c6, c7, c8, c9, c10, c11, c12, c13, c14, c15, c16) := by cases b <;> rfl
theorem stp6 (b : Bool) (r : List (UInt8 × Bool)) (c0 c1 c2 c3 c4 c5 c6 c8 c9 c10 c11 c12 c14 : Bool) (c13 : Int) (c15 c16 : List UInt8) : foldC (picks ((110, b) :: r)) (c0, c1, c2, c3, c4, c5, c6, false, c8, c9, c10, c11, c12, c13, c14, c15, c16) = foldC (picks r) (c0, c1, c2, c3, c4, c5, c6, b, c8, c9, c10, c11, c12, c13, c14, c15, c16) := by cases b <;> rfl
theorem stp7 (b : Bool) (r : List (UInt8 × Bool)) (c0 c1 c2 c3 c4 c5 c6 c7 c9 c10 c11 c12 c14 : Bool) (c13 : Int) (c15 c16 : List UInt8) : foldC (picks ((87, b) :: r)) (c0, c1, c2, c3, c4, c5, c6, c7, false, c9, c10, c11, c12, c13, c14, c15, c16) = foldC (picks r) (c0, c1, c2, c3, c4, c5, c6, c7, b, c9, c10, c11, c12, c13, c14, c15, c16) := by cases b <;> rfl
theorem stp8 (b : Bool) (r : List (UInt8 × Bool)) (c0 c1 c2 c3 c4 c5 c6 c7 c8 c10 c11 c12 c14 : Bool) (c13 : Int) (c15 c16 : List UInt8) : foldC (picks ((117, b) :: r)) (c0, c1, c2, c3, c4, c5, c6, c7, c8, false, c10, c11, c12, c13, c14, c15, c16) = foldC (picks r) (c0, c1, c2, c3, c4, c5, c6, c7, c8, b, c10, c11, c12, c13, c14, c15, c16) := by cases b <;> rfl
theorem stp9 (b : Bool) (r : List (UInt8 × Bool)) (c0 c1 c2 c3 c4 c5 c6 c7 c8 c9 c10 c11 c14 : Bool) (c13 : Int) (c15 c16 : List UInt8) : foldC (picks ((121, b) :: r)) (c0, c1, c2, c3, c4, c5, c6, c7, c8, c9, c10, c11, false, c13, c14, c15, c16) = foldC (picks r) (c0, c1, c2, c3, c4, c5, c6, c7, c8, c9, c10, c11, b, c13, c14, c15, c16) := by cases b <;> rfl
theorem stp10 (b : Bool) (r : List (UInt8 × Bool)) (c0 c1 c2 c3 c4 c5 c6 c7 c8 c9 c10 c11 c12 : Bool) (c13 : Int) (c15 c16 : List UInt8) : foldC (picks ((98, b) :: r)) (c0, c1, c2, c3, c4, c5, c6, c7, c8, c9, c10, c11, c12, c13, false, c15, c16) = foldC (picks r) (c0, c1, c2, c3, c4, c5, c6, c7, c8, c9, c10, c11, c12, c13, b, c15, c16) := by cases b <;> rfl
theorem fold_letters (a0 a1 a2 a3 a4 a5 a6 a7 a8 a9 a10 a11 a12 a14 : Bool) (d : Int) (s p : List UInt8) : foldC (lettersOf (a0, a1, a2, a3, a4, a5, a6, a7, a8, a9, a10, a11, a12, d, a14, s, p)) zeroO = some (a0, a1, a2, a3, a4, a5, false, a7, a8, a9, false, false, a12, (0 : Int), a14, [], []) := by
 unfold lettersOf zeroO
 cases hall : (a0 && (a1 && (a2 && a3)))
 ·simp only [hall, cond_false, flagsOf]
  rw [stp0, stp1, stp2, stp3, stp4, stp5, stp6, stp7, stp8, stp9, stp10]; rfl
 ·simp only [hall, cond_true, flagsOf, List.drop_succ_cons, List.drop_zero]
  simp only [Bool.and_eq_true] at hall
  obtain ⟨rfl, rfl, rfl, rfl⟩ := hall
  show foldC (picks _) (true, true, true, true, false, false, false, false, false, false, false, false, false, (0 : Int), false, [], []) = _
  rw [stp4, stp5, stp6, stp7, stp8, stp9, stp10]; rfl
theorem letters_ne {o : OptsT} {x : UInt8} (h : x ∈ lettersOf o) : x ≠ 45 ∧ x ≠ 32 := by
 obtain ⟨a0, a1, a2, a3, a4, a5, a6, a7, a8, a9, a10, a11, a12, d, a14, s, p⟩ := o
 have hm : x ∈ (97 : UInt8) :: (flagsOf (a0, a1, a2, a3, a4, a5, a6, a7, a8, a9, a10, a11, a12, d, a14, s, p)).map (·.1) := by
  unfold lettersOf at h
  cases hall : (a0 && (a1 && (a2 && a3)))
  ·simp only [hall, cond_false] at h
   unfold picks at h
   obtain ⟨y, hy, rfl⟩ := List.mem_map.1 h
   exact List.mem_cons_of_mem _ (List.mem_map_of_mem ((List.mem_filter.1 hy).1))
  ·simp only [hall, cond_true] at h
   rcases List.mem_cons.1 h with rfl | h
   ·exact List.mem_cons_self ..
   ·unfold picks at h
    obtain ⟨y, hy, rfl⟩ := List.mem_map.1 h
    exact List.mem_cons_of_mem _ (List.mem_map_of_mem (List.mem_of_mem_drop (List.mem_filter.1 hy).1))
 simp only [flagsOf, List.map_cons, List.map_nil, List.mem_cons, List.not_mem_nil, or_false] at hm
 rcases hm with rfl | rfl | rfl | rfl | rfl | rfl | rfl | rfl | rfl | rfl | rfl | rfl <;> decide
theorem word_letters (c : UInt8) (r : List UInt8) (hc : c ≠ 45) (o : OptsT) (sf dr : Int) (tw : Bool) : wordP (45 :: c :: r) (o, sf, dr, tw) = (foldC (c :: r) o).map fun o => (o, sf, dr, tw) := by
 obtain ⟨a0, a1, a2, a3, a4, a5, a6, a7, a8, a9, a10, a11, a12, d, a14, s, p⟩ := o
 have np : ∀ q : List UInt8, pfx (45 :: c :: r) (45 :: 45 :: q) = false := fun q => by
  unfold pfx
  simp [hc]
 have ne : ∀ q : List UInt8, 45 :: c :: r ≠ 45 :: 45 :: q := fun q h => hc (by simp at h; exact h.1)
 have hp : (pfx (45 :: c :: r) [45] && !((45 :: c :: r).drop 1 == [])) = true := by simp [pfx]
 unfold wordP
 dsimp only
 rw [np, np, if_neg (by simp), if_neg (by simp), if_neg (ne _), if_neg (ne _), if_neg (ne _), if_neg (ne _), if_neg (ne _), if_neg (ne _), if_pos hp]
 rfl
theorem foldW_add (b : Bool) (w : List UInt8) (l : List (List UInt8)) (st st2 : ST) (h : foldW l st = some st2) : foldW (addW b w l) st = bif b then wordP w st2 else some st2 := by
 cases b
 ·exact h
 ·unfold addW
  simp only [cond_true]
  induction l generalizing st with
  | nil => simp only [foldW, Option.some.injEq] at h; subst h; simp [foldW]
  | cons a r ih =>
   simp only [foldW] at h
   obtain ⟨st3, q1, q2⟩ := Option.bind_eq_some_iff.1 h
   simp only [List.cons_append, foldW, q1, Option.bind_some]
   exact ih st3 q2
theorem pfx_app (pre s : List UInt8) : pfx (pre ++ s) pre = true := by simp [pfx]
theorem optsOk_suf {a0 a1 a2 a3 a4 a5 a6 a7 a8 a9 a10 a11 a12 a14 : Bool} {d : Int} {s p : List UInt8} (h : optsOk (a0, a1, a2, a3, a4, a5, a6, a7, a8, a9, a10, a11, a12, d, a14, s, p) = true) :
    (a14 = false → s = [] ∧ p = []) ∧ (a14 = true → ¬ (s = [] ∧ p = [])) := by
 unfold optsOk at h
 simp only [Bool.and_eq_true] at h
 obtain ⟨_, _, _, h5⟩ := h
 constructor
 ·intro e; subst e
  simp only [cond_false, Bool.and_eq_true, beq_iff_eq] at h5; exact h5
 ·intro e; subst e
  simp only [cond_true, Bool.and_eq_true, Bool.not_eq_true', Bool.and_eq_false_iff] at h5
  rintro ⟨rfl, rfl⟩
  simp at h5
theorem words_back (o : OptsT) (h : optsOk o = true) : ∃ st, foldW (wordsOf o) (zeroO, 0, 0, false) = some st ∧ finP st = (o, 0) := by
 obtain ⟨a0, a1, a2, a3, a4, a5, a6, a7, a8, a9, a10, a11, a12, d, a14, s, p⟩ := o
 obtain ⟨⟨hd0, hd3⟩, _, _⟩ := optsOk_del h
 obtain ⟨hs1, hs2⟩ := optsOk_suf h
 unfold wordsOf
 dsimp only
 have h1 : foldW (addW (!lettersOf (a0, a1, a2, a3, a4, a5, a6, a7, a8, a9, a10, a11, a12, d, a14, s, p) == []) (45 :: lettersOf (a0, a1, a2, a3, a4, a5, a6, a7, a8, a9, a10, a11, a12, d, a14, s, p)) []) (zeroO, 0, 0, false) = some ((a0, a1, a2, a3, a4, a5, false, a7, a8, a9, false, false, a12, (0 : Int), a14, [], []), 0, 0, false) := by
  rw [foldW_add _ _ _ _ _ rfl]
  have hf := fold_letters a0 a1 a2 a3 a4 a5 a6 a7 a8 a9 a10 a11 a12 a14 d s p
  cases hl : lettersOf (a0, a1, a2, a3, a4, a5, a6, a7, a8, a9, a10, a11, a12, d, a14, s, p) with
  | nil =>
   rw [hl] at hf
   simp only [foldC, Option.some.injEq] at hf
   rw [← hf]; rfl
  | cons c r =>
   have hc := (letters_ne (o := (a0, a1, a2, a3, a4, a5, a6, a7, a8, a9, a10, a11, a12, d, a14, s, p)) (x := c) (by rw [hl]; exact List.mem_cons_self ..)).1
   rw [hl] at hf
   rw [show (!(c :: r) == []) = true from rfl, cond_true, word_letters c r hc, hf]; rfl
 have h2 := foldW_add a6 [45, 45, 115, 105, 122, 101, 45, 111, 110, 108, 121] _ _ _ h1
 have h2' : (bif a6 then wordP [45, 45, 115, 105, 122, 101, 45, 111, 110, 108, 121] ((a0, a1, a2, a3, a4, a5, false, a7, a8, a9, false, false, a12, (0 : Int), a14, [], []), 0, 0, false) else some ((a0, a1, a2, a3, a4, a5, false, a7, a8, a9, false, false, a12, (0 : Int), a14, [], []), 0, 0, false)) = some ((a0, a1, a2, a3, a4, a5, a6, a7, a8, a9, false, false, a12, (0 : Int), a14, [], []), 0, 0, false) := by cases a6 <;> rfl
 rw [h2'] at h2
 have h3 := foldW_add a10 [45, 45, 101, 120, 105, 115, 116, 105, 110, 103] _ _ _ h2
 have h3' : (bif a10 then wordP [45, 45, 101, 120, 105, 115, 116, 105, 110, 103] ((a0, a1, a2, a3, a4, a5, a6, a7, a8, a9, false, false, a12, (0 : Int), a14, [], []), 0, 0, false) else some ((a0, a1, a2, a3, a4, a5, a6, a7, a8, a9, false, false, a12, (0 : Int), a14, [], []), 0, 0, false)) = some ((a0, a1, a2, a3, a4, a5, a6, a7, a8, a9, a10, false, a12, (0 : Int), a14, [], []), 0, 0, false) := by cases a10 <;> rfl
 rw [h3'] at h3
 have h4 := foldW_add a11 [45, 45, 105, 103, 110, 111, 114, 101, 45, 101, 120, 105, 115, 116, 105, 110, 103] _ _ _ h3
 have h4' : (bif a11 then wordP [45, 45, 105, 103, 110, 111, 114, 101, 45, 101, 120, 105, 115, 116, 105, 110, 103] ((a0, a1, a2, a3, a4, a5, a6, a7, a8, a9, a10, false, a12, (0 : Int), a14, [], []), 0, 0, false) else some ((a0, a1, a2, a3, a4, a5, a6, a7, a8, a9, a10, false, a12, (0 : Int), a14, [], []), 0, 0, false)) = some ((a0, a1, a2, a3, a4, a5, a6, a7, a8, a9, a10, a11, a12, (0 : Int), a14, [], []), 0, 0, false) := by cases a11 <;> rfl
 rw [h4'] at h4
 have h5 := foldW_add (d != 0) (delW d) _ _ _ h4
 have h5' : (bif (d != 0) then wordP (delW d) ((a0, a1, a2, a3, a4, a5, a6, a7, a8, a9, a10, a11, a12, (0 : Int), a14, [], []), 0, 0, false) else some ((a0, a1, a2, a3, a4, a5, a6, a7, a8, a9, a10, a11, a12, (0 : Int), a14, [], []), 0, 0, false)) = some ((a0, a1, a2, a3, a4, a5, a6, a7, a8, a9, a10, a11, a12, d, a14, [], []), 0, 0, false) := by
  rcases (by omega : d = 0 ∨ d = 1 ∨ d = 2 ∨ d = 3) with rfl | rfl | rfl | rfl <;> rfl
 rw [h5'] at h5
 have h6 := foldW_add (!s == [] && !(s == [46, 98, 97, 107] && p == [])) ([45, 45, 115, 117, 102, 102, 105, 120, 61] ++ s) _ _ _ h5
 generalize hcs : (!s == [] && !(s == [46, 98, 97, 107] && p == [])) = cs at h6
 have h6' : (bif cs then wordP ([45, 45, 115, 117, 102, 102, 105, 120, 61] ++ s) ((a0, a1, a2, a3, a4, a5, a6, a7, a8, a9, a10, a11, a12, d, a14, [], []), 0, 0, false) else some ((a0, a1, a2, a3, a4, a5, a6, a7, a8, a9, a10, a11, a12, d, a14, [], []), 0, 0, false)) = some ((a0, a1, a2, a3, a4, a5, a6, a7, a8, a9, a10, a11, a12, d, a14, (bif cs then s else []), []), (bif cs then 1 else 0), 0, false) := by
  cases cs
  ·rfl
  ·simp only [cond_true]
   unfold wordP
   dsimp only
   rw [if_pos (pfx_app _ _)]; rfl
 rw [h6'] at h6
 have h7 := foldW_add (!p == []) ([45, 45, 98, 97, 99, 107, 117, 112, 45, 100, 105, 114, 61] ++ p) _ _ _ h6
 have h7' : (bif (!p == []) then wordP ([45, 45, 98, 97, 99, 107, 117, 112, 45, 100, 105, 114, 61] ++ p) ((a0, a1, a2, a3, a4, a5, a6, a7, a8, a9, a10, a11, a12, d, a14, (bif cs then s else []), []), (bif cs then 1 else 0), 0, false) else some ((a0, a1, a2, a3, a4, a5, a6, a7, a8, a9, a10, a11, a12, d, a14, (bif cs then s else []), []), (bif cs then 1 else 0), 0, false)) = some ((a0, a1, a2, a3, a4, a5, a6, a7, a8, a9, a10, a11, a12, d, a14, (bif cs then s else []), p), (bif cs then 1 else 0), (bif (!p == []) then 1 else 0), false) := by
  cases hp : p == []
  ·simp only [Bool.not_false, cond_true]
   unfold wordP
   dsimp only
   have hnp : pfx ([45, 45, 98, 97, 99, 107, 117, 112, 45, 100, 105, 114, 61] ++ p) [45, 45, 115, 117, 102, 102, 105, 120, 61] = false := by simp [pfx]
   rw [hnp, if_neg (by simp), if_pos (pfx_app _ _)]; rfl
  ·have : p = [] := by simpa using hp
   subst this; rfl
 rw [h7'] at h7
 refine ⟨_, h7, ?_⟩
 unfold finP
 dsimp only
 rw [if_neg (by cases cs <;> cases (!p == []) <;> simp)]
 have hfin : (bif a14 && ((bif cs then (1 : Int) else 0) == 0 && (bif (!p == []) then (1 : Int) else 0) == 0) then [46, 98, 97, 107] else (bif cs then s else [])) = s := by
  cases a14
  ·obtain ⟨rfl, rfl⟩ := hs1 rfl
   subst hcs; rfl
  ·have hn := hs2 rfl
   cases q1 : s == []
   ·cases q2 : s == [46, 98, 97, 107]
    ·rw [q1, q2] at hcs; subst hcs; rfl
    ·have : s = [46, 98, 97, 107] := by simpa using q2
     cases q3 : p == []
     ·rw [q1, q2, q3] at hcs; subst hcs; rfl
     ·rw [q1, q2, q3] at hcs; subst hcs; exact this.symm
   ·have e : s = [] := by simpa using q1
    subst e
    have hp : (p == []) = false := by
     cases q : p == []
     ·rfl
     ·exact absurd ⟨rfl, by simpa using q⟩ hn
    rw [hp]
    subst hcs; rfl
 rw [hfin, h, if_pos rfl]
set_option maxRecDepth 20000
set_option maxHeartbeats 1000000
theorem splitW_no : ∀ {a : List UInt8}, (∀ x ∈ a, x ≠ 32) → splitW a = [a]
 | [], _ => by simp [splitW]
 | c :: r, h => by
  rw [splitW_other (h c (List.mem_cons_self ..)), splitW_no (fun x hx => h x (List.mem_cons_of_mem _ hx))]; rfl
theorem splitW_app : ∀ {a : List UInt8} (b : List UInt8), (∀ x ∈ a, x ≠ 32) → splitW (a ++ 32 :: b) = a :: splitW b
 | [], b, _ => by rw [List.nil_append, splitW_sp rfl]
 | c :: r, b, h => by
  rw [List.cons_append, splitW_other (h c (List.mem_cons_self ..)), splitW_app b (fun x hx => h x (List.mem_cons_of_mem _ hx))]; rfl
theorem splitW_join : ∀ (a : List UInt8) (r : List (List UInt8)), (∀ w ∈ a :: r, ∀ x ∈ w, x ≠ 32) → splitW (joinB (a :: r)) = a :: r
 | a, [], h => by simp only [joinB]; exact splitW_no (h a (by simp))
 | a, b :: r, h => by
  simp only [joinB]
  rw [splitW_app _ (h a (by simp)), splitW_join b r (fun w hw => h w (by simp at hw ⊢; exact .inr hw))]
def tot (l : List (List UInt8)) : Nat := (l.map fun w => w.length + 1).sum
theorem joinB_tot : ∀ l : List (List UInt8), (joinB l).length ≤ tot l
 | [] => by simp [joinB, tot]
 | [a] => by simp [joinB, tot]
 | a :: b :: r => by
  have := joinB_tot (b :: r)
  simp only [joinB, tot, List.map_cons, List.sum_cons, List.length_append, List.length_cons] at this ⊢
  omega
theorem tot_add (b : Bool) (w : List UInt8) (l : List (List UInt8)) (m n : Nat) (hl : tot l ≤ n) (hw : w.length + 1 ≤ m) : tot (addW b w l) ≤ n + m := by
 cases b
 ·simp only [addW, cond_false]; omega
 ·simp only [addW, cond_true, tot, List.map_append, List.sum_append, List.map_cons, List.map_nil, List.sum_cons, List.sum_nil] at hl ⊢; omega
theorem add_ok (b : Bool) (w : List UInt8) (l : List (List UInt8)) (hw : b = true → w ≠ [] ∧ ∀ x ∈ w, x ≠ 32) (hl : ∀ v ∈ l, v ≠ [] ∧ ∀ x ∈ v, x ≠ 32) : ∀ v ∈ addW b w l, v ≠ [] ∧ ∀ x ∈ v, x ≠ 32 := by
 cases b
 ·exact hl
 ·intro v hv
  simp only [addW, cond_true, List.mem_append, List.mem_singleton] at hv
  rcases hv with hv | rfl
  ·exact hl v hv
  ·exact hw rfl
theorem okB_sp {x : UInt8} (h : okB x = true) : x ≠ 32 := by rintro rfl; revert h; decide
theorem name_sp {w : List UInt8} (h : nameOk w = true) : ∀ x ∈ w, x ≠ 32 := by
 unfold nameOk at h
 simp only [Bool.and_eq_true] at h
 exact fun x hx => okB_sp (List.all_eq_true.1 h.2.2.2 x hx)
theorem mem_split : ∀ (s : List UInt8) (x : UInt8), x ∈ s → x = 47 ∨ ∃ w ∈ split s, x ∈ w
 | [], x, h => by simp at h
 | c :: r, x, h => by
  by_cases hc : c = 47
  ·rcases List.mem_cons.1 h with rfl | h
   ·exact .inl hc
   ·rcases mem_split r x h with h | ⟨w, h1, h2⟩
    ·exact .inl h
    ·exact .inr ⟨w, by rw [split_slash hc]; exact List.mem_cons_of_mem _ h1, h2⟩
  ·rw [split_other hc]
   have hne := split_ne r
   cases hs : split r with
   | nil => exact absurd hs hne
   | cons a q =>
    simp only [prep]
    rcases List.mem_cons.1 h with rfl | h
    ·exact .inr ⟨_, List.mem_cons_self .., by simp⟩
    ·rcases mem_split r x h with h | ⟨w, h1, h2⟩
     ·exact .inl h
     ·rw [hs] at h1
      rcases List.mem_cons.1 h1 with rfl | h1
      ·exact .inr ⟨_, List.mem_cons_self .., by simp [h2]⟩
      ·exact .inr ⟨w, List.mem_cons_of_mem _ h1, h2⟩
theorem path_sp {p : List UInt8} (h : pathOk p = true) : ∀ x ∈ p, x ≠ 32 := by
 unfold pathOk at h
 simp only [Bool.and_eq_true] at h
 intro x hx
 rcases mem_split p x hx with rfl | ⟨w, h1, h2⟩
 ·decide
 ·exact name_sp (List.all_eq_true.1 h.2.2 w h1) x h2
theorem optsOk_sp {a0 a1 a2 a3 a4 a5 a6 a7 a8 a9 a10 a11 a12 a14 : Bool} {d : Int} {s p : List UInt8} (h : optsOk (a0, a1, a2, a3, a4, a5, a6, a7, a8, a9, a10, a11, a12, d, a14, s, p) = true) : (∀ x ∈ s, x ≠ 32) ∧ (∀ x ∈ p, x ≠ 32) := by
 unfold optsOk at h
 simp only [Bool.and_eq_true] at h
 obtain ⟨_, _, _, h5⟩ := h
 cases a14
 ·simp only [cond_false, Bool.and_eq_true, beq_iff_eq] at h5
  rw [h5.1, h5.2]; exact ⟨by simp, by simp⟩
 ·simp only [cond_true, Bool.and_eq_true, Bool.or_eq_true, beq_iff_eq] at h5
  obtain ⟨q1, q2, _⟩ := h5
  unfold sufOk at q1
  simp only [Bool.or_eq_true, beq_iff_eq, Bool.and_eq_true, decide_eq_true_eq] at q1
  refine ⟨?_, ?_⟩
  ·rcases q1 with rfl | q1
   ·simp
   ·exact fun x hx => name_sp q1.2 x (by simp [hx])
  ·rcases q2 with rfl | q2
   ·simp
   ·exact path_sp q2
theorem delW_ok (d : Int) : (delW d).length ≤ 15 ∧ delW d ≠ [] ∧ ∀ x ∈ delW d, x ≠ 32 := by
 unfold delW
 (split <;> try split) <;> exact ⟨by decide, by decide, by decide⟩
theorem words_ok (o : OptsT) (h : optsOk o = true) : tot (wordsOf o) ≤ 300 ∧ ∀ v ∈ wordsOf o, v ≠ [] ∧ ∀ x ∈ v, x ≠ 32 := by
 obtain ⟨a0, a1, a2, a3, a4, a5, a6, a7, a8, a9, a10, a11, a12, d, a14, s, p⟩ := o
 obtain ⟨_, hs8, hp⟩ := optsOk_del h
 obtain ⟨hs, hpp⟩ := optsOk_sp h
 have hl := letters_len (a0, a1, a2, a3, a4, a5, a6, a7, a8, a9, a10, a11, a12, d, a14, s, p)
 have hd := delW_ok d
 unfold wordsOf
 dsimp only
 refine ⟨?_, ?_⟩
 ·refine Nat.le_trans (tot_add _ _ _ 182 118 (tot_add _ _ _ 18 100 (tot_add _ _ _ 16 84 (tot_add _ _ _ 18 66 (tot_add _ _ _ 11 55 (tot_add _ _ _ 12 43 (tot_add _ _ _ 14 29 (by simp [tot]) ?_) ?_) ?_) ?_) ?_) ?_) ?_) (by omega)
  all_goals first | (simp; omega) | simp | omega
 ·refine add_ok _ _ _ ?_ (add_ok _ _ _ ?_ (add_ok _ _ _ ?_ (add_ok _ _ _ ?_ (add_ok _ _ _ ?_ (add_ok _ _ _ ?_ (add_ok _ _ _ ?_ (by simp)))))))
  ·intro _
   have hk : ∀ x ∈ ([45, 45, 98, 97, 99, 107, 117, 112, 45, 100, 105, 114, 61] : List UInt8), x ≠ 32 := by decide
   refine ⟨by simp, fun x hx => ?_⟩
   rcases List.mem_append.1 hx with hx | hx
   ·exact hk x hx
   ·exact hpp x hx
  ·intro _
   have hk : ∀ x ∈ ([45, 45, 115, 117, 102, 102, 105, 120, 61] : List UInt8), x ≠ 32 := by decide
   refine ⟨by simp, fun x hx => ?_⟩
   rcases List.mem_append.1 hx with hx | hx
   ·exact hk x hx
   ·exact hs x hx
  ·intro _; exact hd.2
  ·intro _; exact ⟨by simp, by decide⟩
  ·intro _; exact ⟨by simp, by decide⟩
  ·intro _; exact ⟨by simp, by decide⟩
  ·intro _
   refine ⟨by simp, fun x hx => ?_⟩
   rcases List.mem_cons.1 hx with rfl | hx
   ·decide
   ·exact (letters_ne hx).2
theorem show_parse (o : OptsT) (h : optsOk o = true) : parseP (showP o) = (o, 0) := by
 obtain ⟨h1, h2⟩ := words_ok o h
 obtain ⟨st, h3, h4⟩ := words_back o h
 unfold showP parseP
 rw [if_pos h, joinB_eq]
 have hlen := joinB_tot (wordsOf o)
 rw [if_neg (by omega)]
 have hw : wordsL (joinB (wordsOf o)) = wordsOf o := by
  unfold wordsL
  cases hW : wordsOf o with
  | nil => rfl
  | cons a r =>
   rw [hW] at h2
   have ha := (h2 a (List.mem_cons_self ..)).1
   have hne : (joinB (a :: r) == []) = false := by
    rw [joinB_cons]
    cases a with
    | nil => exact absurd rfl ha
    | cons c q => rfl
   rw [hne, cond_false]
   exact splitW_join a r (fun w hw => (h2 w hw).2)
 rw [hw, h3]
 exact h4
theorem show_len (o : OptsT) : (showP o).length ≤ 300 := by
 unfold showP
 by_cases h : optsOk o = true
 ·rw [if_pos h, joinB_eq]
  exact Nat.le_trans (joinB_tot _) (words_ok o h).1
 ·rw [if_neg h]; simp
section
variable {α : Type}
end
abbrev NodeT := List UInt8 × (Int × (Int × (Int × (List UInt8 × (List UInt8 × Int)))))
def inI (x a b : Int) : Bool := decide (x ≥ a) && decide (x ≤ b)
def nodeKind (k m : Int) (data target : List UInt8) (g : Int) : Bool :=
 cond (k == 0) (data == [] && (target == [] && g == 0)) (cond (k == 1) (decide ((data.length : Int) ≤ 20000) && (target == [] && inI g 0 200))
  (cond (k == 2) ((data == [] && (m == 0 && (g == 0 && inI (target.length : Int) 1 60))) && !(target.any (· == 10))) false))
def nodeOk (x : NodeT) : Bool := (pathOk x.1 && (inI x.2.2.1 0 511 && inI x.2.2.2.1 0 1000000000)) && nodeKind x.2.1 x.2.2.1 x.2.2.2.2.1 x.2.2.2.2.2.1 x.2.2.2.2.2.2
def joinS : List (List UInt8) → List UInt8
 | [] => []
 | [a] => a
 | a :: b :: r => a ++ 47 :: joinS (b :: r)
def parent (s : List UInt8) : List UInt8 := joinS (names s).dropLast
def dN : NodeT := (nilOf UInt8, Int.ofNat (nat_lit 0), Int.ofNat (nat_lit 0), Int.ofNat (nat_lit 0), nilOf UInt8, nilOf UInt8, Int.ofNat (nat_lit 0))
def pth (l : List NodeT) (i : Nat) : List UInt8 := (l.getD i dN).1
def Sorted (l : List NodeT) : Prop := ∀ i, i + 1 < l.length → Op.bytesLess (pth l i) (pth l (i + 1)) = true
def alike (a b : NodeT) : Bool := a.2.2.1 == b.2.2.1 && (a.2.2.2.1 == b.2.2.2.1 && a.2.2.2.2.1 == b.2.2.2.2.1)
def Cur (s : List Int × Int × Int × Unit) : Prop := 0 ≤ s.2.1 ∧ s.2.1 ≤ (s.1.length : Int) ∧ s.1.length ≤ 1048576
theorem and255 (x : Int) : 0 ≤ bitsOf .and .i64 x 255 ∧ bitsOf .and .i64 x 255 ≤ 255 := by
 have h : (BitVec.ofInt 64 x &&& BitVec.ofInt 64 255).toNat ≤ 255 := by rw [BitVec.toNat_and]; exact Nat.and_le_right
 show 0 ≤ IntKind.wrap .i64 ((BitVec.ofInt 64 x &&& BitVec.ofInt 64 255).toNat : Int) ∧ IntKind.wrap .i64 ((BitVec.ofInt 64 x &&& BitVec.ofInt 64 255).toNat : Int) ≤ 255
 rw [wr _ (by omega)]; omega
theorem byte_some (s : List Int × Int × Int × Unit) (h : Cur s) : ∃ b s', m_spec_l01Byte s = some (b, s', ()) ∧ 0 ≤ b ∧ b ≤ 255 ∧ Cur s' := by
 obtain ⟨c, i, x, u⟩ := s
 obtain ⟨h1, h2, h3⟩ := h
 simp only at h1 h2 h3
 unfold m_spec_l01Byte
 rw [if_pos (by decide), if_pos (by decide)]
 dsimp only
 by_cases hl : i < (c.length : Int)
 ·rw [decide_eq_true hl, cond_true, if_pos ⟨h1, hl⟩]
  refine ⟨_, _, rfl, (and255 _).1, (and255 _).2, ?_⟩
  refine ⟨?_, ?_, h3⟩
  ·show 0 ≤ IntKind.wrap .i64 (i + 1); rw [wr _ (by omega)]; omega
  ·show IntKind.wrap .i64 (i + 1) ≤ _; rw [wr _ (by omega)]; show i + 1 ≤ (c.length : Int); omega
 ·rw [decide_eq_false hl, cond_false]
  exact ⟨_, _, rfl, (and255 _).1, (and255 _).2, h1, h2, h3⟩
theorem below_some (n : Int) (hn : 0 < n) (s : List Int × Int × Int × Unit) (h : Cur s) : ∃ b s', m_spec_l01Below n s = some (b, s', ()) ∧ (n ≤ 256 → 0 ≤ b ∧ b < n) ∧ Cur s' := by
 obtain ⟨c, i, x, u⟩ := s
 unfold m_spec_l01Below
 rw [decide_eq_false (show ¬ n ≤ 0 by omega), cond_false]
 by_cases h256 : n ≤ 256
 ·rw [decide_eq_true h256, cond_true]
  obtain ⟨b, s', e, hb1, hb2, hc⟩ := byte_some (c, i, x, ()) h
  obtain ⟨c', i', x', u'⟩ := s'
  simp only
  rw [e, Option.bind_some]
  simp only
  rw [if_pos (by omega)]
  exact ⟨_, _, rfl, fun _ => ⟨Int.tmod_nonneg _ hb1, Int.tmod_lt_of_pos _ hn⟩, hc⟩
 ·rw [decide_eq_false h256, cond_false]
  obtain ⟨b, s1, e, _, _, hc⟩ := byte_some (c, i, x, ()) h
  obtain ⟨c1, i1, x1, u1⟩ := s1
  simp only
  rw [e, Option.bind_some]
  simp only
  obtain ⟨b2, s2, e2, _, _, hc2⟩ := byte_some (c1, i1, x1, ()) hc
  obtain ⟨c2, i2, x2, u2⟩ := s2
  rw [e2, Option.bind_some]
  simp only
  obtain ⟨b3, s3, e3, _, _, hc3⟩ := byte_some (c2, i2, x2, ()) hc2
  obtain ⟨c3, i3, x3, u3⟩ := s3
  rw [e3, Option.bind_some]
  simp only
  obtain ⟨b4, s4, e4, _, _, hc4⟩ := byte_some (c3, i3, x3, ()) hc3
  obtain ⟨c4, i4, x4, u4⟩ := s4
  rw [e4, Option.bind_some]
  simp only
  rw [if_pos (by omega)]
  exact ⟨_, _, rfl, fun h => absurd h h256, hc4⟩
theorem once_some (n : Int) (hn : 0 < n) (s : List Int × Int × Int × Unit) (h : Cur s) : ∃ b s', m_spec_l01Once n s = some (b, s', ()) ∧ Cur s' := by
 obtain ⟨c, i, x, u⟩ := s
 unfold m_spec_l01Once
 obtain ⟨b, s1, e, _, hc⟩ := below_some n hn (c, i, x, ()) h
 obtain ⟨c1, i1, x1, u1⟩ := s1
 simp only
 rw [e, Option.bind_some]
 exact ⟨_, _, rfl, hc⟩
theorem pick_some (l : List (List UInt8)) (hl : 0 < l.length) (hl2 : l.length ≤ 256) (m : Nat) (hm : ∀ x ∈ l, x.length ≤ m) (s : List Int × Int × Int × Unit) (h : Cur s) : ∃ t s', m_spec_l01Pick l s = some (t, s', ()) ∧ t.length ≤ m ∧ Cur s' := by
 obtain ⟨c, i, x, u⟩ := s
 unfold m_spec_l01Pick
 obtain ⟨b, s1, e, hb, hc⟩ := below_some (l.length : Int) (by omega) (c, i, x, ()) h
 obtain ⟨c1, i1, x1, u1⟩ := s1
 obtain ⟨hb1, hb2⟩ := hb (by omega)
 simp only
 rw [e, Option.bind_some]
 simp only
 rw [if_pos ⟨hb1, hb2⟩]
 refine ⟨_, _, rfl, ?_, hc⟩
 have hlt : b.toNat < l.length := by omega
 rw [List.getD_eq_getElem?_getD, List.getElem?_eq_getElem hlt]
 exact hm _ (List.getElem_mem hlt)
theorem new_some (c : List Int) (hc : c.length ≤ 1048576) : ∃ r, m_spec_l01New c = some r ∧ Cur r.2.1 := by
 unfold m_spec_l01New
 refine bind_some' (Q := fun r => r.1.1 = c) (loopC_some' _ (fun n s => ∃ (x : Int) (i : Nat), s = ((c, x, (i : Int), ()), ()) ∧ i ≤ c.length ∧ n = c.length - i) _ ?_ _ c.length _ ⟨_, 0, rfl, by omega, rfl⟩ (by omega)) ?_
 ·rintro n s k ⟨x, i, rfl, hi, rfl⟩ hk
  dsimp only
  by_cases hl : i < c.length
  ·rw [decide_eq_true (show (i : Int) < (c.length : Int) by omega), cond_true, Option.bind_some]
   dsimp only
   cases decide ((i : Int) < 4000) with
   | true =>
    rw [cond_true, if_pos (by omega)]
    exact hk (c.length - (i + 1)) _ (by omega) ⟨_, i + 1, by rw [wr _ (show -9223372036854775808 ≤ (i : Int) + 1 ∧ (i : Int) + 1 ≤ 9223372036854775807 by omega)]; rfl, by omega, rfl⟩
   | false => rw [cond_false]; exact ⟨_, rfl, rfl⟩
  ·rw [decide_eq_false (by omega), cond_false, Option.bind_some]
   exact ⟨_, rfl, rfl⟩
 ·rintro ⟨⟨c', x, u⟩, u2⟩ hq
  have hq' : c' = c := hq
  subst hq'
  exact ⟨_, rfl, by show (0 : Int) ≤ 0; omega, by show (0 : Int) ≤ _; omega, hc⟩
theorem pick_some' (l : List (List UInt8)) (m : Nat) (s : List Int × Int × Int × Unit) (hl : 0 < l.length ∧ l.length ≤ 256 ∧ ∀ x ∈ l, x.length ≤ m) (h : Cur s) : ∃ r, m_spec_l01Pick l s = some r ∧ r.1.length ≤ m ∧ Cur r.2.1 := by
 obtain ⟨t, s', e, ht, hc⟩ := pick_some l hl.1 hl.2.1 m hl.2.2 s h
 exact ⟨_, e, ht, hc⟩
abbrev CurT := List Int × Int × Int × Unit
theorem pick_mem (l : List (List UInt8)) (Q : List UInt8 → Prop) (s : CurT) (hl : 0 < l.length ∧ l.length ≤ 256 ∧ ∀ x ∈ l, Q x) (h : Cur s) : ∃ r, m_spec_l01Pick l s = some r ∧ Q r.1 ∧ Cur r.2.1 := by
 obtain ⟨c, i, x, u⟩ := s
 unfold m_spec_l01Pick
 obtain ⟨b, s1, e, hb, hc⟩ := below_some (l.length : Int) (by omega) (c, i, x, ()) h
 obtain ⟨c1, i1, x1, u1⟩ := s1
 obtain ⟨hb1, hb2⟩ := hb (by omega)
 simp only
 rw [e, Option.bind_some]
 simp only
 rw [if_pos ⟨hb1, hb2⟩]
 refine ⟨_, rfl, ?_, hc⟩
 exact hl.2.2 _ (getD_mem _ (by omega))
theorem pickInt_some (l : List Int) (s : CurT) (hl : 0 < l.length ∧ l.length ≤ 256) (h : Cur s) : ∃ r, m_spec_l01PickInt l s = some r ∧ Cur r.2.1 := by
 obtain ⟨c, i, x, u⟩ := s
 unfold m_spec_l01PickInt
 obtain ⟨b, s1, e, hb, hc⟩ := below_some (l.length : Int) (by omega) (c, i, x, ()) h
 obtain ⟨hb1, hb2⟩ := hb (by omega)
 rw [e, Option.bind_some]
 simp only
 rw [if_pos ⟨hb1, hb2⟩]
 exact ⟨_, rfl, hc⟩
theorem once_some' (n : Int) (hn : 0 < n) (s : CurT) (h : Cur s) : ∃ r, m_spec_l01Once n s = some r ∧ Cur r.2.1 := by
 obtain ⟨b, s', e, hc⟩ := once_some n hn s h
 exact ⟨_, e, hc⟩
theorem below_some' (n : Int) (hn : 0 < n) (hn2 : n ≤ 256) (s : CurT) (h : Cur s) : ∃ r, m_spec_l01Below n s = some r ∧ (0 ≤ r.1 ∧ r.1 < n) ∧ Cur r.2.1 := by
 obtain ⟨b, s', e, hb, hc⟩ := below_some n hn s h
 exact ⟨_, e, hb hn2, hc⟩
def gr (x : NodeT) : Int := x.2.2.2.2.2.2
structure RightQ (l : List NodeT) : Prop where
 ok : ∀ x ∈ l, nodeOk x = true
 sorted : Sorted l
 up : ∀ x ∈ l, parent x.1 = [] ∨ ∃ y ∈ l, y.1 = parent x.1 ∧ y.2.1 = 0
 like : ∀ x ∈ l, ∀ y ∈ l, gr x ≠ 0 → gr y = gr x → alike y x = true
/-- Nodes without groups. -/
structure RightZ (l : List NodeT) : Prop where
 ok : ∀ x ∈ l, nodeOk x = true
 sorted : Sorted l
 up : ∀ x ∈ l, parent x.1 = [] ∨ ∃ y ∈ l, y.1 = parent x.1 ∧ y.2.1 = 0
 zero : ∀ x ∈ l, gr x = 0
theorem RightZ.q {l : List NodeT} (h : RightZ l) : RightQ l := ⟨h.ok, h.sorted, h.up, fun x hx y hy h0 => absurd (h.zero x hx) h0⟩
def zB : (Bool × Bool × Bool × Bool × Bool × Bool × Bool × Bool × Bool × Bool × Bool × Bool × Bool × Int × Bool × List UInt8 × List UInt8 × Unit) := (false, false, false, false, false, false, false, false, false, false, false, false, false, 0, false, [], [], ())
def oB (a b c d e ck so x f g h i j : Bool) (del : Int) (bk : Bool) (suf dir : List UInt8) : (Bool × Bool × Bool × Bool × Bool × Bool × Bool × Bool × Bool × Bool × Bool × Bool × Bool × Int × Bool × List UInt8 × List UInt8 × Unit) := (a, b, c, d, e, ck, so, x, f, g, h, i, j, del, bk, suf, dir, ())
theorem opts_right (s : CurT) (h : Cur s) : ∃ r, m_spec_l11Opts s = some r ∧ optsOk r.1 = true ∧ (r.1.2.2.2.2.2.2.2.2.2.2.2.2.2.2.2.1.length ≤ 100 ∧ r.1.2.2.2.2.2.2.2.2.2.2.2.2.2.2.2.2.length ≤ 100) ∧ Cur r.2.1 := by
 unfold m_spec_l11Opts
 refine bind_some' (once_some' 6 (by omega) s h) ?_
 rintro ⟨f0, s0, u0⟩ h0
 refine bind_some' (once_some' 4 (by omega) s0 h0) ?_
 rintro ⟨f1, s1, u1⟩ h1
 refine bind_some' (once_some' 3 (by omega) s1 h1) ?_
 rintro ⟨f2, s2, u2⟩ h2
 refine bind_some' (once_some' 3 (by omega) s2 h2) ?_
 rintro ⟨f3, s3, u3⟩ h3
 refine bind_some' (once_some' 3 (by omega) s3 h3) ?_
 rintro ⟨f4, s4, u4⟩ h4
 refine bind_some' (once_some' 4 (by omega) s4 h4) ?_
 rintro ⟨f5, s5, u5⟩ h5
 refine bind_some' (once_some' 6 (by omega) s5 h5) ?_
 rintro ⟨f6, s6, u6⟩ h6
 refine bind_some' (once_some' 10 (by omega) s6 h6) ?_
 rintro ⟨f7, s7, u7⟩ h7
 refine bind_some' (once_some' 12 (by omega) s7 h7) ?_
 rintro ⟨f8, s8, u8⟩ h8
 refine bind_some' (once_some' 3 (by omega) s8 h8) ?_
 rintro ⟨f9, s9, u9⟩ h9
 refine bind_some' (below_some' 5 (by omega) (by omega) s9 h9) ?_
 rintro ⟨q, s10, u10⟩ ⟨_, h10⟩
 dsimp only
 refine bind_some' (Q := fun t => ∃ (ck so : Bool), t = (((), (), (), ()), s10, zB, oB (!f0) (!f1) (!f2) (!f3) f4 ck so false f5 f6 f7 f8 f9 0 false [] [], ()) ∧ (ck && so) = false) ?_ ?_
 ·cases q == 0 with
  | true => exact ⟨_, rfl, true, false, rfl, rfl⟩
  | false =>
   rw [cond_false]
   cases q == 1 with
   | true => exact ⟨_, rfl, false, true, rfl, rfl⟩
   | false => exact ⟨_, rfl, false, false, rfl, rfl⟩
 rintro t ⟨ck, so, rfl, hcs⟩
 unfold oB
 dsimp only
 refine bind_some' (Q := fun t => ∃ (del : Int) (cu : CurT), t = (((), (), (), ()), cu, zB, oB (!f0) (!f1) (!f2) (!f3) f4 ck so false f5 f6 f7 f8 f9 del false [] [], ()) ∧ (0 ≤ del ∧ del ≤ 3) ∧ (!(del == 0) && !(!f0)) = false ∧ Cur cu) ?_ ?_
 ·cases hf : !f0 with
  | true =>
   rw [cond_true]
   refine bind_some' (below_some' 4 (by omega) (by omega) s10 h10) ?_
   rintro ⟨del, s11, u11⟩ ⟨hd, h11⟩
   have hd : 0 ≤ del ∧ del < 4 := hd
   exact ⟨_, rfl, del, s11, rfl, by omega, by simp, h11⟩
  | false => exact ⟨_, rfl, 0, s10, rfl, by omega, rfl, h10⟩
 rintro t ⟨del, cu, rfl, hdel, hrec, hcu⟩
 unfold oB
 dsimp only
 refine bind_some' (once_some' 4 (by omega) cu hcu) ?_
 rintro ⟨fb, s12, u12⟩ h12
 dsimp only
 have base : ∀ (bk : Bool) (suf dir : List UInt8), cond bk (sufOk suf && ((dir == [] || pathOk dir) && !(suf == [] && dir == []))) (suf == [] && dir == []) = true → optsOk ((!f0), (!f1), (!f2), (!f3), f4, ck, so, false, f5, f6, f7, f8, f9, del, bk, suf, dir) = true := fun bk suf dir hb => by
  unfold optsOk
  dsimp only
  rw [decide_eq_true (show del ≥ 0 from hdel.1), decide_eq_true hdel.2, hrec, hcs, hb]; rfl
 refine bind_some' (Q := fun t => ∃ (bk : Bool) (suf dir : List UInt8) (c2 : CurT), t = (((), (), ()), c2, zB, oB (!f0) (!f1) (!f2) (!f3) f4 ck so false f5 f6 f7 f8 f9 del bk suf dir, ()) ∧ cond bk (sufOk suf && ((dir == [] || pathOk dir) && !(suf == [] && dir == []))) (suf == [] && dir == []) = true ∧ suf.length ≤ 100 ∧ dir.length ≤ 100 ∧ Cur c2) ?_ ?_
 ·cases fb with
  | false => exact ⟨_, rfl, false, [], [], s12, rfl, rfl, Nat.zero_le _, Nat.zero_le _, h12⟩
  | true =>
   rw [cond_true]
   refine bind_some' (pick_mem _ (fun x => x = [46, 98, 97, 107] ∨ x = [46, 111, 108, 100] ∨ x = []) s12 (by decide) h12) ?_
   rintro ⟨suf, s13, u13⟩ ⟨hsuf, h13⟩
   have hsuf : suf = [46, 98, 97, 107] ∨ suf = [46, 111, 108, 100] ∨ suf = [] := hsuf
   have hs1 : sufOk suf = true := by rcases hsuf with rfl | rfl | rfl <;> decide
   have hs2 : suf.length ≤ 100 := by rcases hsuf with rfl | rfl | rfl <;> decide
   dsimp only
   refine bind_some' (Q := fun t => ∃ (f : Bool) (c2 : CurT), t = (((), (), (), f, ()), c2, zB, oB (!f0) (!f1) (!f2) (!f3) f4 ck so false f5 f6 f7 f8 f9 del true suf [], ()) ∧ (f = false → (suf == []) = false) ∧ Cur c2) ?_ ?_
   ·show ∃ r, (bif suf == [] then _ else _) = some r ∧ _
    cases hsn : suf == [] with
    | true => exact ⟨_, rfl, true, s13, rfl, (fun e => by cases e), h13⟩
    | false =>
     rw [cond_false]
     refine bind_some' (once_some' 2 (by omega) s13 h13) ?_
     rintro ⟨f, s14, u14⟩ h14
     exact ⟨_, rfl, f, s14, rfl, fun _ => rfl, h14⟩
   rintro t ⟨f, c2, rfl, hf, hc2⟩
   unfold oB
   dsimp only
   refine bind_some' (Q := fun t => ∃ (dir : List UInt8) (c3 : CurT), t = (((), (), ()), c3, zB, oB (!f0) (!f1) (!f2) (!f3) f4 ck so false f5 f6 f7 f8 f9 del true suf dir, ()) ∧ ((dir == [] || pathOk dir) && !(suf == [] && dir == [])) = true ∧ dir.length ≤ 100 ∧ Cur c3) ?_ ?_
   ·cases f with
    | false => exact ⟨_, rfl, [], c2, rfl, by rw [hf rfl]; rfl, Nat.zero_le _, hc2⟩
    | true =>
     rw [cond_true]
     refine bind_some' (pick_mem _ (fun x => pathOk x = true ∧ (x == []) = false ∧ x.length ≤ 100) c2 (by decide) hc2) ?_
     rintro ⟨dir, s15, u15⟩ ⟨⟨hd1, hd2, hd3⟩, h15⟩
     have hd1 : pathOk dir = true := hd1
     have hd2 : (dir == []) = false := hd2
     exact ⟨_, rfl, dir, s15, rfl, by rw [hd1, hd2, Bool.and_false]; rfl, hd3, h15⟩
   rintro t ⟨dir, c3, rfl, hd, hd2, hc3⟩
   exact ⟨_, rfl, true, suf, dir, c3, rfl, by rw [cond_true, hs1, hd]; rfl, hs2, hd2, hc3⟩
 rintro t ⟨bk, suf, dir, c2, rfl, hb, g1, g2, hc2⟩
 exact ⟨_, rfl, base bk suf dir hb, ⟨g1, g2⟩, hc2⟩
set_option maxRecDepth 20000
set_option maxHeartbeats 1000000
theorem any_some (s : CurT) (h : Cur s) : ∃ r, m_spec_l11Any s = some r ∧ (r.1.2.2.2.2.2.2.2.2.2.2.2.2.2.2.2.1.length ≤ 100 ∧ r.1.2.2.2.2.2.2.2.2.2.2.2.2.2.2.2.2.length ≤ 100) := by
 unfold m_spec_l11Any
 refine bind_some' (opts_right s h) ?_
 rintro ⟨o, s1, u1⟩ ⟨_, ⟨b1, b2⟩, h1⟩
 refine bind_some' (once_some' 4 (by omega) s1 h1) ?_
 rintro ⟨f, s2, u2⟩ h2
 refine bind_some' (below_some' 14 (by omega) (by omega) s2 h2) ?_
 rintro ⟨q, s3, u3⟩ ⟨_, h3⟩
 dsimp only at b1 b2 ⊢
 refine bind_some' (Q := fun t => t.2.2.2.1.2.2.2.2.2.2.2.2.2.2.2.2.2.2.2.1.length ≤ 100 ∧ t.2.2.2.1.2.2.2.2.2.2.2.2.2.2.2.2.2.2.2.2.1.length ≤ 100) ?_ (fun t ht => ⟨_, rfl, ht⟩)
 cases q == 0
 case true =>
  rw [cond_true]
  refine bind_some' (pickInt_some _ s3 (by simp) h3) ?_
  rintro ⟨d, s4, u4⟩ h4
  refine bind_some' (once_some' 2 (by omega) s4 h4) ?_
  rintro ⟨g, s5, u5⟩ h5
  exact ⟨_, rfl, b1, b2⟩
 rw [cond_false]
 refine bind_some' (Q := fun t => t.2.2.2.1.2.2.2.2.2.2.2.2.2.2.2.2.2.2.2.1.length ≤ 100 ∧ t.2.2.2.1.2.2.2.2.2.2.2.2.2.2.2.2.2.2.2.2.1.length ≤ 100) ?_ (fun t ht => ⟨_, rfl, ht⟩)
 cases q == 1
 case true => exact ⟨_, rfl, b1, b2⟩
 rw [cond_false]
 refine bind_some' (Q := fun t => t.2.2.2.1.2.2.2.2.2.2.2.2.2.2.2.2.2.2.2.1.length ≤ 100 ∧ t.2.2.2.1.2.2.2.2.2.2.2.2.2.2.2.2.2.2.2.2.1.length ≤ 100) ?_ (fun t ht => ⟨_, rfl, ht⟩)
 cases q == 2
 case true => exact ⟨_, rfl, b1, b2⟩
 rw [cond_false]
 refine bind_some' (Q := fun t => t.2.2.2.1.2.2.2.2.2.2.2.2.2.2.2.2.2.2.2.1.length ≤ 100 ∧ t.2.2.2.1.2.2.2.2.2.2.2.2.2.2.2.2.2.2.2.2.1.length ≤ 100) ?_ (fun t ht => ⟨_, rfl, ht⟩)
 cases q == 3
 case true =>
  rw [cond_true]
  refine bind_some' (pick_some' _ 100 s3 ⟨by simp, by simp, by simp⟩ h3) ?_
  rintro ⟨d, s4, u4⟩ ⟨b3, h4⟩
  exact ⟨_, rfl, b3, b2⟩
 rw [cond_false]
 refine bind_some' (Q := fun t => t.2.2.2.1.2.2.2.2.2.2.2.2.2.2.2.2.2.2.2.1.length ≤ 100 ∧ t.2.2.2.1.2.2.2.2.2.2.2.2.2.2.2.2.2.2.2.2.1.length ≤ 100) ?_ (fun t ht => ⟨_, rfl, ht⟩)
 cases q == 4
 case true =>
  rw [cond_true]
  refine bind_some' (pick_some' _ 100 s3 ⟨by simp, by simp, by simp⟩ h3) ?_
  rintro ⟨d, s4, u4⟩ ⟨b3, h4⟩
  exact ⟨_, rfl, b1, b3⟩
 exact ⟨_, rfl, b1, b2⟩
theorem drawShow (c : List Int) (hc : c.length ≤ 1048576) : ∃ r, m_spec_DrawShowOpts c = some r ∧ (r.1.2.2.2.2.2.2.2.2.2.2.2.2.2.2.2.1.length ≤ 100 ∧ r.1.2.2.2.2.2.2.2.2.2.2.2.2.2.2.2.2.length ≤ 100) := by
 unfold m_spec_DrawShowOpts
 refine bind_some' (new_some c hc) ?_
 rintro ⟨u0, s0, u1⟩ h0
 refine bind_some' (any_some s0 h0) ?_
 rintro ⟨o, s1, u2⟩ hb
 exact ⟨_, rfl, hb⟩
theorem drawParse (c : List Int) (hc : c.length ≤ 1048576) : ∃ r, m_spec_DrawParseOpts c = some r ∧ True := by
 unfold m_spec_DrawParseOpts
 refine bind_some' (new_some c hc) ?_
 rintro ⟨u0, s0, u1⟩ h0
 refine bind_some' (opts_right s0 h0) ?_
 rintro ⟨o, s1, u2⟩ ⟨_, ⟨b1, b2⟩, h1⟩
 dsimp only at b1 b2 ⊢
 rw [spec_showOpts o (by omega) (by omega), Option.bind_some]
 have hl := show_len o
 generalize showP o = S at hl ⊢
 refine bind_some' (below_some' 6 (by omega) (by omega) s1 h1) ?_
 rintro ⟨q, s2, u3⟩ ⟨_, h2⟩
 dsimp only
 refine bind_some' (Q := fun _ => True) ?_ (fun t _ => ⟨_, rfl, trivial⟩)
 cases q == 0
 case true =>
  rw [cond_true]
  refine bind_some' (pick_some' _ 100 s2 ⟨by simp, by simp, by simp⟩ h2) ?_
  rintro ⟨t, s3, u4⟩ ⟨b3, h3⟩
  dsimp only at b3 ⊢
  rw [if_pos (by omega)]
  exact ⟨_, rfl, trivial⟩
 rw [cond_false]
 refine bind_some' (Q := fun _ => True) ?_ (fun t _ => ⟨_, rfl, trivial⟩)
 cases q == 1
 case true =>
  rw [cond_true, if_pos (by simp; omega)]
  exact ⟨_, rfl, trivial⟩
 rw [cond_false]
 refine bind_some' (Q := fun _ => True) ?_ (fun t _ => ⟨_, rfl, trivial⟩)
 cases q == 2
 case true =>
  rw [cond_true]
  refine bind_some' (pick_some' _ 100 s2 ⟨by simp, by simp, by simp [nilOf]⟩ h2) ?_
  rintro ⟨t, s3, u4⟩ ⟨b3, h3⟩
  exact ⟨_, rfl, trivial⟩
 exact ⟨_, rfl, trivial⟩
theorem parse_cases (l : List UInt8) : ((parseP l).2 = 0 ∧ optsOk (parseP l).1 = true) ∨ ((parseP l).2 ≠ 0 ∧ (parseP l).1 = zeroO) := by
 unfold parseP
 split
 ·exact .inr ⟨by decide, rfl⟩
 split
 ·exact .inr ⟨by decide, rfl⟩
 ·rename_i st _
  obtain ⟨⟨a0, a1, a2, a3, a4, a5, a6, a7, a8, a9, a10, a11, a12, d, a14, s, p⟩, sf, dr, tw⟩ := st
  unfold finP
  dsimp only
  split
  ·exact .inr ⟨by decide, rfl⟩
  split
  ·rename_i h; exact .inl ⟨rfl, h⟩
  ·exact .inr ⟨by decide, rfl⟩
theorem law_Options (c : List Int) : m_laws_FnOptions c = some (true, ()) := by
 unfold m_laws_FnOptions
 have hbig : m_laws_big c = some (decide ((c.length : Int) > 1048576), ()) := rfl
 rw [hbig, Option.bind_some]
 by_cases hb : (c.length : Int) > 1048576
 ·rw [decide_eq_true hb]; rfl
 rw [decide_eq_false hb, cond_false]
 refine bind_ex (drawShow c (by omega)) ?_
 rintro ⟨o, u⟩ ⟨b1, b2⟩
 dsimp only at b1 b2 ⊢
 rw [impl_showOpts o (by omega) (by omega), Option.bind_some, spec_optsOk o (by omega) (by omega), Option.bind_some]
 dsimp only
 cases hok : optsOk o
 ·have hs : showP o = [] := by unfold showP; rw [hok]; rfl
  rw [hs, impl_optsOk o (by omega) (by omega), hok]
  rfl
 simp only [Bool.not_true, cond_false]
 rw [impl_parse, show_parse o hok, Option.bind_some, impl_optsOk o (by omega) (by omega), hok]
 dsimp only
 refine bind_eq (x := ((c, false, ()), ())) (by simp) ?_
 dsimp only
 rw [cond_false]
 refine bind_ex (drawParse c (by omega)) ?_
 rintro ⟨t, u2⟩ _
 dsimp only
 rw [impl_parse, Option.bind_some, spec_parse, Option.bind_some]
 dsimp only
 rw [show ((parseP t).2 == (parseP t).2) = true by simp, cond_true]
 rcases parse_cases t with ⟨q1, q2⟩ | ⟨q1, q2⟩
 ·generalize parseP t = r at q1 q2 ⊢
  obtain ⟨⟨a0, a1, a2, a3, a4, a5, a6, a7, a8, a9, a10, a11, a12, d, a14, s, p⟩, e⟩ := r
  dsimp only at q1 q2 ⊢
  subst q1
  obtain ⟨_, hs, hp⟩ := optsOk_del q2
  rw [impl_optsOk _ (by dsimp only; omega) (by dsimp only; omega), q2]
  simp only [Option.bind_some, cond_true]
  cases (!(a0 == false && _)) <;> rfl
 ·rw [q2, impl_optsOk zeroO (by decide) (by decide)]
  rw [show optsOk zeroO = true from rfl]
  simp only [Option.bind_some, cond_true]
  simp [zeroO, nilOf]
end Go.AM
