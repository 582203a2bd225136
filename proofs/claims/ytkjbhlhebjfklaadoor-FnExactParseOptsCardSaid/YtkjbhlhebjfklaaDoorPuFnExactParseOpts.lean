/- The plain law: the model of the law answers true. -/
import Derived.Test.YtkjbhlhebjfklaaDoorMoFnExactParseOpts
set_option linter.unusedVariables false
set_option linter.unusedSimpArgs false
namespace Go.AM
open Go
theorem loopC_inv {S α : Type} (F : S → (S → Option α) → Option α) (I : Nat → S → Prop) (g : S → Option α)
    (h : ∀ n s k, I n s → (∀ m s', m < n → I m s' → k s' = g s') → F s k = g s) : ∀ fuel n s, I n s → n < fuel → loopC fuel F s = g s := by
 intro fuel
 induction fuel with
 | zero => intro n s _ h0; omega
 | succ f ih => intro n s hI hn; exact h n s _ hI (fun m s' hm hI' => ih m s' hI' (by omega))
theorem wr (x : Int) (h : -9223372036854775808 ≤ x ∧ x ≤ 9223372036854775807) : IntKind.wrap .i64 x = x := by
 simp [IntKind.wrap, IntKind.signed, IntKind.bits]; omega
/-- A loop ends in some result with Q. -/
theorem loopC_some' {S α : Type} (F : S → (S → Option α) → Option α) (I : Nat → S → Prop) (Q : α → Prop)
    (h : ∀ n s k, I n s → (∀ m s', m < n → I m s' → ∃ r, k s' = some r ∧ Q r) → ∃ r, F s k = some r ∧ Q r) : ∀ fuel n s, I n s → n < fuel → ∃ r, loopC fuel F s = some r ∧ Q r := by
 intro fuel
 induction fuel with
 | zero => intro n s _ h0; omega
 | succ f ih => intro n s hI hn; exact h n s _ hI (fun m s' hm hI' => ih m s' hI' (by omega))
theorem bind_some' {α β : Type} {o : Option α} {f : α → Option β} {Q : α → Prop} {R : β → Prop} (h : ∃ r, o = some r ∧ Q r) (h2 : ∀ r, Q r → ∃ t, f r = some t ∧ R t) : ∃ t, Option.bind o f = some t ∧ R t := by
 obtain ⟨r, rfl, hq⟩ := h
 exact h2 r hq
theorem bind_eq {α β : Type} {o : Option α} {f : α → Option β} {x : α} {r : Option β} (h : o = some x) (h2 : f x = r) : Option.bind o f = r := by rw [h]; exact h2
theorem bind_ex {α β : Type} {o : Option α} {f : α → Option β} {Q : α → Prop} {r : Option β} (h : ∃ x, o = some x ∧ Q x) (h2 : ∀ x, Q x → f x = r) : Option.bind o f = r := by obtain ⟨x, rfl, hq⟩ := h; exact h2 x hq
theorem joinC_of {S α : Type} {o x : Option (S ⊕ α)} {k : S → Option α} {r : Option α} (h : o = x) (h2 : joinC x k = r) : joinC o k = r := by rw [h]; exact h2
theorem joinC_ex {S α : Type} {o : Option (S ⊕ α)} {k : S → Option α} {Q : S ⊕ α → Prop} {r : Option α} (h : ∃ x, o = some x ∧ Q x) (h2 : ∀ x, Q x → joinC (some x) k = r) : joinC o k = r := by obtain ⟨x, rfl, hq⟩ := h; exact h2 x hq
theorem wr1 (i : Nat) (h : i ≤ 4611686018427387904) : IntKind.wrap .i64 ((i : Int) + 1) = ((i + 1 : Nat) : Int) := by rw [wr _ (by omega)]; rfl
theorem joinC_inl' {S α : Type} {o : Option (S ⊕ α)} {k : S → Option α} {s : S} (h : o = some (.inl s)) : joinC o k = k s := by rw [h]; rfl
theorem joinC_inr' {S α : Type} {o : Option (S ⊕ α)} {k : S → Option α} {a : α} (h : o = some (.inr a)) : joinC o k = some a := by rw [h]; rfl
def okCh (c : Int) : Bool := (decide (c ≥ 97) && decide (c ≤ 122)) || ((decide (c ≥ 65) && decide (c ≤ 90)) || ((decide (c ≥ 48) && decide (c ≤ 57)) || (c == 46 || (c == 95 || c == 45))))
def okB (b : UInt8) : Bool := okCh (b.toNat : Int)
def nameOk (s : List UInt8) : Bool := (decide (1 ≤ s.length) && decide (s.length ≤ 20)) && (!(s == [46]) && (!(s == [46, 46]) && s.all okB))
theorem in_eq (x a b : Int) : m_spec_l01In x a b = some (decide (x ≥ a) && decide (x ≤ b), ()) := by
 unfold m_spec_l01In; cases decide (x ≥ a) <;> rfl
theorem within_eq (x a b : Int) : m_impl_within x a b = some (decide (x ≥ a) && decide (x ≤ b), ()) := by
 unfold m_impl_within; cases decide (x ≥ a) <;> rfl
theorem all_drop {α : Type} (p : α → Bool) (d : α) {s : List α} {i : Nat} (h : i < s.length) : (s.drop i).all p = (p (s.getD i d) && (s.drop (i + 1)).all p) := by
 rw [List.drop_eq_getElem_cons h, List.all_cons, List.getD_eq_getElem?_getD, List.getElem?_eq_getElem h]; rfl
theorem len_ge (s : List UInt8) : decide ((s.length : Int) ≥ 1) = decide (1 ≤ s.length) := decide_eq_decide.2 (by omega)
theorem len_le (s : List UInt8) : decide ((s.length : Int) ≤ 20) = decide (s.length ≤ 20) := decide_eq_decide.2 (by omega)
theorem spec_nameOk (s : List UInt8) (hs : s.length ≤ 1099511627776) : m_spec_NameOk s = some (nameOk s, ()) := by
 unfold m_spec_NameOk
 rw [in_eq, Option.bind_some, len_ge, len_le]
 unfold nameOk
 cases h1 : (decide (1 ≤ s.length) && decide (s.length ≤ 20)) with
 | false => rfl
 | true =>
  simp only [Bool.not_true, cond_false, Bool.true_and]
  cases h2 : (s == [46]) with
  | true => rfl
  | false =>
   simp only [cond_false, Bool.not_false, Bool.true_and]
   cases h3 : (s == [46, 46]) with
   | true => rfl
   | false =>
    simp only [Option.bind_some, cond_false, Bool.not_false, Bool.true_and]
    refine joinC_of (loopC_inv _ (fun n t => ∃ i : Nat, t = ((s, (i : Int), ()), ()) ∧ i ≤ s.length ∧ n = s.length - i)
     (fun t => some (if (s.drop t.1.2.1.toNat).all okB then .inl ((), ()) else .inr (false, ()))) ?_ _ s.length _ ⟨0, rfl, by omega, rfl⟩ (by omega)) ?_
    rotate_left
    ·show joinC (some (if (s.drop 0).all okB = true then _ else _)) _ = _
     rw [List.drop_zero]
     cases s.all okB <;> rfl
    ·rintro n t k ⟨i, rfl, hi, rfl⟩ hk
     dsimp only
     by_cases hl : i < s.length
     ·have hx : 0 ≤ (i : Int) ∧ (i : Int) < (s.length : Int) := by omega
      rw [decide_eq_true (by omega), cond_true, if_pos hx]
      refine bind_eq (x := ((s, (i : Int), !okB (s.getD i 0), ()), ())) ?_ ?_
      ·simp only [in_eq, Option.bind_some, if_pos hx, bne, okB, okCh, Int.toNat_natCast]
       have hb : (s.getD i 0).toNat < 256 := UInt8.toNat_lt _
       rw [wr _ (by omega)]
       generalize ((s.getD i 0).toNat : Int) = c
       cases decide (c ≥ 97) <;> cases decide (c ≤ 122) <;> cases decide (c ≥ 65) <;> cases decide (c ≤ 90) <;> cases decide (c ≥ 48) <;> cases decide (c ≤ 57) <;> cases c == 46 <;> cases c == 95 <;> cases c == 45 <;> rfl
      ·dsimp only
       rw [Int.toNat_natCast, all_drop okB 0 hl]
       cases okB (s.getD i 0) with
       | false => rfl
       | true =>
        show k _ = _
        rw [wr1 i (by omega)]
        exact hk (s.length - (i + 1)) _ (by omega) ⟨i + 1, rfl, by omega, rfl⟩
     ·rw [decide_eq_false (by omega), cond_false, Int.toNat_natCast, List.drop_eq_nil_of_le (by omega)]
      rfl
theorem impl_nameOk (s : List UInt8) (hs : s.length ≤ 1099511627776) : m_impl_NameOk s = some (nameOk s, ()) := by
 unfold m_impl_NameOk
 refine joinC_of (loopC_inv _ (fun n t => ∃ i : Nat, t = ((s, (s.length : Int), (i : Int), ()), ()) ∧ i ≤ s.length ∧ n = s.length - i)
         (fun t => some (if (s.drop t.1.2.2.1.toNat).all okB then .inl ((s, ()), ()) else .inr (false, ()))) ?_ _ s.length _ ⟨0, rfl, by omega, rfl⟩ (by omega)) ?_
 rotate_left
 ·show joinC (some (if (s.drop 0).all okB = true then _ else _)) _ = _
  rw [List.drop_zero]
  unfold nameOk
  cases s.all okB with
  | false => simp only [Bool.and_false]; rfl
  | true =>
   show Option.bind (Option.bind (m_impl_within _ _ _) _) _ = _
   rw [within_eq, Option.bind_some, len_ge, len_le]
   dsimp only
   cases (decide (1 ≤ s.length) && decide (s.length ≤ 20)) <;> cases s == [46] <;> cases s == [46, 46] <;> rfl
 ·rintro n t k ⟨i, rfl, hi, rfl⟩ hk
  dsimp only
  by_cases hl : i < s.length
  ·have hx : 0 ≤ (i : Int) ∧ (i : Int) < (s.length : Int) := by omega
   rw [decide_eq_true (by omega), cond_true, if_pos hx]
   refine bind_eq (x := ((s, (s.length : Int), (i : Int), !okB (s.getD i 0), ()), ())) ?_ ?_
   ·simp only [okB, okCh, Int.toNat_natCast]
    cases decide ((((s.getD i 0).toNat : Nat) : Int) ≥ 97) <;> cases decide ((((s.getD i 0).toNat : Nat) : Int) ≤ 122) <;> cases decide ((((s.getD i 0).toNat : Nat) : Int) ≥ 65) <;> cases decide ((((s.getD i 0).toNat : Nat) : Int) ≤ 90) <;> cases decide ((((s.getD i 0).toNat : Nat) : Int) ≥ 48) <;> cases decide ((((s.getD i 0).toNat : Nat) : Int) ≤ 57) <;> cases (((s.getD i 0).toNat : Nat) : Int) == 46 <;> cases (((s.getD i 0).toNat : Nat) : Int) == 95 <;> cases (((s.getD i 0).toNat : Nat) : Int) == 45 <;> rfl
   ·dsimp only
    rw [Int.toNat_natCast, all_drop okB 0 hl]
    cases okB (s.getD i 0) with
    | false => rfl
    | true =>
     show k _ = _
     rw [wr1 i (by omega)]
     exact hk (s.length - (i + 1)) _ (by omega) ⟨i + 1, rfl, by omega, rfl⟩
  ·rw [decide_eq_false (by omega), cond_false, Int.toNat_natCast, List.drop_eq_nil_of_le (by omega)]
   rfl
/-- What stands between the slashes. -/
def split : List UInt8 → List (List UInt8)
 | [] => [[]]
 | c :: r => if c = 47 then [] :: split r else match split r with
  | [] => [[c]]
  | h :: t => (c :: h) :: t
def prep (x : List UInt8) : List (List UInt8) → List (List UInt8)
 | [] => [x]
 | h :: t => (x ++ h) :: t
theorem split_ne (s : List UInt8) : split s ≠ [] := by
 cases s with
 | nil => simp [split]
 | cons c r => unfold split; split; simp; split <;> simp
theorem split_slash {c : UInt8} {r : List UInt8} (h : c = 47) : split (c :: r) = [] :: split r := by rw [split, if_pos h]
theorem split_other {c : UInt8} {r : List UInt8} (h : c ≠ 47) : split (c :: r) = prep [c] (split r) := by
 rw [split, if_neg h]; unfold prep; rcases split r with _ | ⟨h, t⟩ <;> rfl
theorem prep_prep (x y : List UInt8) (l : List (List UInt8)) (h : l ≠ []) : prep x (prep y l) = prep (x ++ y) l := by
 cases l with
 | nil => exact absurd rfl h
 | cons a t => simp [prep]
theorem split_len : ∀ s : List UInt8, (split s).length ≤ s.length + 1
 | [] => by simp [split]
 | c :: r => by
  have := split_len r
  by_cases h : c = 47
  ·rw [split_slash h]; simp; omega
  ·rw [split_other h]; unfold prep; split <;> simp_all; omega
theorem getD_cons {s : List UInt8} {i : Nat} (h : i < s.length) : s.drop i = s.getD i 0 :: s.drop (i + 1) := by
 rw [List.drop_eq_getElem_cons h, List.getD_eq_getElem?_getD, List.getElem?_eq_getElem h]; rfl
theorem take_snoc {s : List UInt8} {i f : Nat} (h : i < s.length) (hf : f ≤ i) : (s.take (i + 1)).drop f = (s.take i).drop f ++ [s.getD i 0] := by
 rw [List.take_add_one, List.drop_append_of_le_length (by simp; omega), List.getD_eq_getElem?_getD, List.getElem?_eq_getElem h]; rfl
theorem spec_names (s : List UInt8) (hs : s.length ≤ 8796093022206) : m_spec_l02Names s = some (split s, ()) := by
 unfold m_spec_l02Names
 refine bind_ex (loopC_some' _ (fun n t => ∃ (f i : Nat) (o : List (List UInt8)), t = ((s, (), (f : Int), (i : Int), ()), o, ()) ∧ f ≤ i ∧ i ≤ s.length ∧ o.length ≤ i ∧ o ++ prep ((s.take i).drop f) (split (s.drop i)) = split s ∧ n = s.length - i)
  (fun r => ∃ (f : Nat) (o : List (List UInt8)), r = ((s, (), (f : Int), ()), o, ()) ∧ f ≤ s.length ∧ o.length ≤ s.length ∧ o ++ [s.drop f] = split s) ?_ _ s.length _ ⟨0, 0, [], rfl, by omega, by omega, by simp, ?_, rfl⟩ (by omega)) ?_
 rotate_left 2
 ·rintro r ⟨f, o, rfl, h1, h2, h3⟩
  dsimp only
  rw [if_pos (by omega), if_pos (by simp only [List.length_cons, List.length_nil]; omega)]
  rw [Int.toNat_natCast, Int.toNat_natCast, List.take_length, h3]
 ·rintro n t k ⟨f, i, o, rfl, hf, hi, ho, he, rfl⟩ hk
  dsimp only
  by_cases hl : i < s.length
  ·have hx : 0 ≤ (i : Int) ∧ (i : Int) < (s.length : Int) := by omega
   rw [decide_eq_true (by omega), cond_true, if_pos hx]
   simp only [Int.toNat_natCast]
   have hd := getD_cons hl
   rw [hd] at he
   by_cases hc : s.getD i 0 = 47
   ·rw [show (((s.getD i 0).toNat : Int) == 47) = true by rw [hc]; rfl, cond_true, if_pos (by omega), if_pos (by simp only [List.length_cons, List.length_nil]; omega), Option.bind_some]
    dsimp only
    rw [wr1 i (by omega)]
    refine hk (s.length - (i + 1)) _ (by omega) ⟨i + 1, i + 1, _, rfl, by omega, by omega, by simp; omega, ?_, rfl⟩
    rw [split_slash hc] at he
    rw [← he, List.append_assoc, show (s.take (i + 1)).drop (i + 1) = [] from List.drop_eq_nil_of_le (by rw [List.length_take]; omega)]
    unfold prep
    rcases hsp : split (s.drop (i + 1)) with _ | ⟨a, b⟩
    ·exact absurd hsp (split_ne _)
    ·simp
   ·rw [show (((s.getD i 0).toNat : Int) == 47) = false by
     rw [beq_eq_false_iff_ne]; intro h; exact hc (UInt8.toNat.inj (by show _ = 47; omega)), cond_false, Option.bind_some]
    dsimp only
    rw [wr1 i (by omega)]
    refine hk (s.length - (i + 1)) _ (by omega) ⟨f, i + 1, _, rfl, by omega, by omega, by omega, ?_, rfl⟩
    rw [split_other hc, prep_prep _ _ _ (split_ne _)] at he
    rw [take_snoc hl hf]
    exact he
  ·rw [decide_eq_false (by omega), cond_false]
   refine ⟨_, rfl, f, o, rfl, by omega, by omega, ?_⟩
   rw [← he, List.drop_eq_nil_of_le (by omega : s.length ≤ i), List.take_of_length_le (by omega)]
   simp [split, prep]
 ·simp only [List.drop_zero, List.nil_append, List.take_zero, List.drop_nil]
  rcases hsp : split s with _ | ⟨a, b⟩
  ·exact absurd hsp (split_ne _)
  ·rfl
theorem index_slash (s : List UInt8) : (Go.Lib.indexByte s 47 = -1 ∧ split s = [s]) ∨ ∃ k : Nat, k < s.length ∧ Go.Lib.indexByte s 47 = k ∧ split s = s.take k :: split (s.drop (k + 1)) ∧ s.count 47 = (s.drop (k + 1)).count 47 + 1 := by
 induction s with
 | nil => exact .inl ⟨rfl, rfl⟩
 | cons c r ih =>
  by_cases hc : c = 47
  ·refine .inr ⟨0, by simp, ?_, ?_, ?_⟩
   ·rw [hc]; rfl
   ·rw [split_slash hc]; rfl
   ·rw [hc]; simp
  ·have hb : (c == 47) = false := by simp [hc]
   rcases ih with ⟨h1, h2⟩ | ⟨k, hk, h1, h2, h3⟩
   ·refine .inl ⟨?_, ?_⟩
    ·unfold Go.Lib.indexByte; rw [hb, h1]; rfl
    ·rw [split_other hc, h2]; rfl
   ·refine .inr ⟨k + 1, by simp; omega, ?_, ?_, ?_⟩
    ·unfold Go.Lib.indexByte; rw [hb, h1]
     have : ((k : Int) == -1) = false := by rw [beq_eq_false_iff_ne]; omega
     simp [this]
    ·rw [split_other hc, h2]; rfl
    ·rw [List.count_cons, hb, h3]; simp
theorem index_eq (s : List UInt8) : m_strings_Index_2 s = some (Go.Lib.indexByte s 47, ()) := by
 unfold m_strings_Index_2 m_stringslite_Index_2
 by_cases h : s = [47]
 ·subst h; rfl
 ·rw [show (([47] : List UInt8) == s) = false by rw [beq_eq_false_iff_ne]; exact fun h' => h h'.symm]
  rfl
theorem genSplit_eq (s : List UInt8) (hs : s.length ≤ 8796093022206) : m_strings_genSplit_2 s = some (split s, ()) := by
 unfold m_strings_genSplit_2
 refine bind_eq (x := (((s.count 47 : Nat) : Int), ())) rfl ?_
 have hcl : s.count 47 ≤ s.length := List.count_le_length
 dsimp only
 rw [wr ((s.length : Int) + 1) (by omega), wr (((s.count 47 : Nat) : Int) + 1) (by omega), if_neg (show ¬((s.length : Int) + 1 < ((s.count 47 : Nat) : Int) + 1) by omega), if_pos (by omega), wr (((s.count 47 : Nat) : Int) + 1 - 1) (by omega)]
 have hn : (((s.count 47 : Nat) : Int) + 1).toNat = s.count 47 + 1 := by omega
 rw [hn]
 refine bind_ex (loopC_some' _ (fun n t => ∃ (r : List UInt8) (i : Nat) (a : List (List UInt8)), t = ((r, (), (), ((s.count 47 : Nat) : Int) + 1 - 1, (), (i : Int), ()), a, ()) ∧ i + r.count 47 = s.count 47 ∧ r.length ≤ s.length ∧ a.length = s.count 47 + 1 ∧ a.take i ++ split r = split s ∧ n = r.length)
  (fun t => ∃ (r : List UInt8) (i : Nat) (a : List (List UInt8)), t = ((r, (), (i : Int), ()), a, ()) ∧ i ≤ s.count 47 ∧ a.length = s.count 47 + 1 ∧ a.take i ++ [r] = split s) ?_ _ s.length _ ⟨s, 0, _, rfl, by omega, by omega, by simp, rfl, rfl⟩ (by omega)) ?_
 ·rintro n t k ⟨r, i, a, rfl, h1, h2, h3, h4, rfl⟩ hk
  dsimp only
  by_cases hl : i < s.count 47
  ·rw [decide_eq_true (by omega), cond_true, index_eq, Option.bind_some]
   dsimp only
   rcases index_slash r with ⟨g1, g2⟩ | ⟨m, hm, g1, g2, g3⟩
   ·rw [g1, decide_eq_true (by omega), cond_true]
    exact ⟨_, rfl, r, i, a, rfl, by omega, h3, by rw [g2] at h4; exact h4⟩
   ·rw [g1, decide_eq_false (by omega), cond_false, wr ((m : Int) + 0) (by omega)]
    simp only [List.length_cons, List.length_nil]
    rw [show ((0 + 1 : Nat) : Int) = 1 from rfl, wr1 m (by omega), if_pos (by omega), if_pos (by omega), if_pos (by omega), if_pos (by omega), wr1 i (by omega)]
    refine hk (r.drop (m + 1)).length _ (by rw [List.length_drop]; omega) ⟨r.drop (m + 1), i + 1, a.set i (r.take m), ?_, by omega, by rw [List.length_drop]; omega, ?_, ?_, rfl⟩
    ·simp only [Int.toNat_natCast, List.take_length, Int.add_zero]; rfl
    ·rw [List.length_set]; exact h3
    ·rw [List.take_add_one, List.take_set_of_le (by omega), ← h4, g2]
     rw [List.getElem?_set_self (by omega)]
     simp
  ·rw [decide_eq_false (by omega), cond_false]
   refine ⟨_, rfl, r, i, a, rfl, by omega, h3, ?_⟩
   rcases index_slash r with ⟨g1, g2⟩ | ⟨m, hm, g1, g2, g3⟩
   ·rw [g2] at h4; exact h4
   ·omega
 ·rintro t ⟨r, i, a, rfl, h1, h2, h3⟩
  dsimp only
  rw [if_pos (by omega), if_pos (by omega), wr1 i (by omega), if_pos (by rw [List.length_set]; omega)]
  rw [Int.toNat_natCast, Int.toNat_natCast, List.take_add_one, List.take_set_of_le (by omega), List.getElem?_set_self (by omega)]
  show some (a.take i ++ [r], ()) = _
  rw [h3]
theorem split_eq (s : List UInt8) (hs : s.length ≤ 8796093022206) : m_strings_Split_2 s = some (split s, ()) := by
 unfold m_strings_Split_2; rw [genSplit_eq s hs]; rfl
def names (s : List UInt8) : List (List UInt8) := if s.length ≤ 168 ∧ (split s).length ≤ 8 ∧ (split s).all nameOk = true then split s else []
def pathOk (s : List UInt8) : Bool := decide (s.length ≤ 168) && (decide ((split s).length ≤ 8) && (split s).all nameOk)
theorem names_ok (s : List UInt8) : names s = if pathOk s then split s else [] := by
 unfold names pathOk
 by_cases h1 : s.length ≤ 168 <;> by_cases h2 : (split s).length ≤ 8 <;> by_cases h3 : (split s).all nameOk = true <;> simp [h1, h2, h3]
theorem split_mem_len (s : List UInt8) : ∀ x ∈ split s, x.length ≤ s.length := by
 induction s with
 | nil => intro x hx; simp [split] at hx; subst hx; simp
 | cons c r ih =>
  intro x hx
  by_cases hc : c = 47
  ·rw [split_slash hc] at hx
   rcases List.mem_cons.1 hx with rfl | hx
   ·simp
   ·have := ih x hx; simp; omega
  ·rw [split_other hc] at hx
   unfold prep at hx
   rcases hsp : split r with _ | ⟨a, b⟩
   ·exact absurd hsp (split_ne _)
   ·rw [hsp] at hx ih
    rcases List.mem_cons.1 hx with rfl | hx
    ·have := ih a (by simp); simp; omega
    ·have := ih x (by simp [hx]); simp; omega
/-- Names of at most twenty bytes, at most eight: the text is of at most 167. -/
theorem split_sum (s : List UInt8) : s.length + 1 = ((split s).map (fun x => x.length + 1)).sum := by
 induction s with
 | nil => rfl
 | cons c r ih =>
  by_cases hc : c = 47
  ·rw [split_slash hc]; simp at ih ⊢; omega
  ·rw [split_other hc]; unfold prep
   rcases hsp : split r with _ | ⟨a, b⟩
   ·exact absurd hsp (split_ne _)
   ·rw [hsp] at ih; simp at ih ⊢; omega
theorem sum_le {l : List (List UInt8)} (h : l.all nameOk = true) : (l.map (fun x => x.length + 1)).sum ≤ 21 * l.length := by
 induction l with
 | nil => simp
 | cons a t ih =>
  rw [List.all_cons, Bool.and_eq_true] at h
  have := ih h.2
  have h1 := h.1
  unfold nameOk at h1
  simp only [Bool.and_eq_true, decide_eq_true_eq] at h1
  simp; omega
theorem path_len {s : List UInt8} (h1 : (split s).length ≤ 8) (h2 : (split s).all nameOk = true) : s.length ≤ 167 := by
 have := split_sum s; have := sum_le h2; omega
theorem spec_pathOk (s : List UInt8) : m_spec_PathOk s = some (pathOk s, ()) := by
 unfold m_spec_PathOk
 by_cases hs : s.length ≤ 200
 ·rw [decide_eq_false (by omega), cond_false, spec_names s (by omega), Option.bind_some]
  have hl := split_len s
  refine joinC_of (loopC_inv _ (fun n t => ∃ i : Nat, t = ((split s, (i : Int), ()), ()) ∧ i ≤ (split s).length ∧ n = (split s).length - i)
        (fun t => some (if ((split s).drop t.1.2.1.toNat).all nameOk then .inl ((split s, ()), ()) else .inr (false, ()))) ?_ _ (split s).length _ ⟨0, rfl, by omega, rfl⟩ (by show _ < (split s).length + _ + _; omega)) ?_
  ·rintro n t k ⟨i, rfl, hi, rfl⟩ hk
   dsimp only
   by_cases hl2 : i < (split s).length
   ·rw [decide_eq_true (by omega), cond_true, if_pos (by omega), Int.toNat_natCast, all_drop nameOk (nilOf UInt8) hl2]
    have hm : ((split s).getD i (nilOf UInt8)).length ≤ s.length := by
     rw [List.getD_eq_getElem?_getD, List.getElem?_eq_getElem hl2]; exact split_mem_len s _ (List.getElem_mem hl2)
    rw [spec_nameOk _ (by omega), Option.bind_some]
    dsimp only
    cases nameOk ((split s).getD i (nilOf UInt8)) with
    | false => rfl
    | true =>
     show k _ = _
     rw [wr1 i (by omega)]
     exact hk ((split s).length - (i + 1)) _ (by omega) ⟨i + 1, rfl, by omega, rfl⟩
   ·rw [decide_eq_false (by omega), cond_false, Int.toNat_natCast, List.drop_eq_nil_of_le (by omega)]
    rfl
  ·show joinC (some (if ((split s).drop 0).all nameOk = true then _ else _)) _ = _
   rw [List.drop_zero]
   unfold pathOk
   cases h2 : (split s).all nameOk with
   | false => simp; rfl
   | true =>
    show some (decide (((split s).length : Int) ≤ 8), ()) = _
    by_cases h1 : (split s).length ≤ 8
    ·have := path_len h1 h2
     rw [decide_eq_true (by omega), decide_eq_true (by omega), decide_eq_true h1]; rfl
    ·rw [decide_eq_false (by omega), decide_eq_false h1]; simp
 ·rw [decide_eq_true (by omega), cond_true]
  unfold pathOk
  rw [decide_eq_false (by omega), Bool.false_and]
theorem impl_names (s : List UInt8) : m_impl_Names s = some (names s, ()) := by
 unfold m_impl_Names
 by_cases hs : s.length ≤ 168
 ·rw [decide_eq_false (by omega), cond_false, split_eq s (by omega), Option.bind_some]
  have hl := split_len s
  dsimp only
  by_cases h1 : (split s).length ≤ 8
  ·rw [decide_eq_false (by omega), cond_false]
   refine joinC_of (loopC_inv _ (fun n t => ∃ i : Nat, t = ((split s, split s, ((split s).length : Int), (i : Int), ()), ()) ∧ i ≤ (split s).length ∧ n = (split s).length - i)
       (fun t => some (if ((split s).drop t.1.2.2.2.1.toNat).all nameOk then .inl ((split s, ()), ()) else .inr ([], ()))) ?_ _ (split s).length _ ⟨0, rfl, by omega, rfl⟩ (by omega)) ?_
   ·rintro n t k ⟨i, rfl, hi, rfl⟩ hk
    dsimp only
    by_cases hl2 : i < (split s).length
    ·rw [decide_eq_true (by omega), cond_true, if_pos (by omega), Int.toNat_natCast, all_drop nameOk (nilOf UInt8) hl2]
     have hm : ((split s).getD i (nilOf UInt8)).length ≤ s.length := by
      rw [List.getD_eq_getElem?_getD, List.getElem?_eq_getElem hl2]; exact split_mem_len s _ (List.getElem_mem hl2)
     rw [impl_nameOk _ (by omega), Option.bind_some]
     dsimp only
     cases nameOk ((split s).getD i (nilOf UInt8)) with
     | false => rfl
     | true =>
      show k _ = _
      rw [wr1 i (by omega)]
      exact hk ((split s).length - (i + 1)) _ (by omega) ⟨i + 1, rfl, by omega, rfl⟩
    ·rw [decide_eq_false (by omega), cond_false, Int.toNat_natCast, List.drop_eq_nil_of_le (by omega)]
     rfl
   ·show joinC (some (if ((split s).drop 0).all nameOk = true then _ else _)) _ = _
    rw [List.drop_zero]
    unfold names
    cases h2 : (split s).all nameOk with
    | false => simp; rfl
    | true => rw [if_pos (show s.length ≤ 168 ∧ (split s).length ≤ 8 ∧ true = true from And.intro hs (And.intro h1 rfl))]; rfl
  ·rw [decide_eq_true (by omega), cond_true]
   unfold names
   rw [if_neg (fun h => h1 h.2.1)]
 ·rw [decide_eq_true (by omega), cond_true]
  unfold names
  rw [if_neg (fun h => hs h.1)]
theorem impl_pathOk (s : List UInt8) : m_impl_PathOk s = some (pathOk s, ()) := by
 unfold m_impl_PathOk
 rw [impl_names, Option.bind_some, names_ok]
 cases pathOk s with
 | false => rfl
 | true =>
  show some (decide (((split s).length : Int) > 0), ()) = _
  rw [decide_eq_true (by have := List.length_pos_iff.2 (split_ne s); omega)]
section
variable {α : Type}
theorem getD_mem {l : List α} {i : Nat} (d : α) (h : i < l.length) : l.getD i d ∈ l := by
 rw [List.getD_eq_getElem?_getD, List.getElem?_eq_getElem h]; exact List.getElem_mem h
theorem drop_getD {l : List α} {i : Nat} (d : α) (h : i < l.length) : l.drop i = l.getD i d :: l.drop (i + 1) := by
 rw [List.drop_eq_getElem_cons h, List.getD_eq_getElem?_getD, List.getElem?_eq_getElem h]; rfl
end
abbrev OptsT := Bool × (Bool × (Bool × (Bool × (Bool × (Bool × (Bool × (Bool × (Bool × (Bool × (Bool × (Bool × (Bool × (Int × (Bool × (List UInt8 × List UInt8)))))))))))))))
def sufOk (s : List UInt8) : Bool := s == [] || (decide (s.length ≤ 8) && nameOk ([120] ++ s))
theorem spec_suffix (s : List UInt8) (hs : s.length ≤ 1048576) : m_spec_l11Suffix s = some (sufOk s, ()) := by
 unfold m_spec_l11Suffix sufOk
 simp only [nilOf]
 cases s == [] with
 | true => rfl
 | false =>
  simp only [cond_false, Bool.false_or]
  by_cases h : s.length ≤ 8
  ·rw [decide_eq_true (by omega), decide_eq_true h, cond_true, if_pos (by show 1 + s.length < 9223372036854775808; omega), spec_nameOk _ (by simp; omega)]
   simp
  ·rw [decide_eq_false (by omega), decide_eq_false h]; rfl
theorem impl_suffix (s : List UInt8) (hs : s.length ≤ 1048576) (hn : (s == []) = false) : m_impl_isSuffix s = some (sufOk s, ()) := by
 unfold m_impl_isSuffix sufOk
 rw [within_eq, Option.bind_some, hn, Bool.false_or]
 have h0 : 1 ≤ s.length := by
  rcases s with _ | ⟨a, b⟩
  ·simp at hn
  ·simp
 dsimp only
 rw [decide_eq_true (by omega), Bool.true_and]
 by_cases h : s.length ≤ 8
 ·rw [decide_eq_true (by omega), decide_eq_true h, cond_true, if_pos (by show 1 + s.length < 9223372036854775808; omega), impl_nameOk _ (by simp; omega)]
  simp
 ·rw [decide_eq_false (by omega), decide_eq_false h]; rfl
def optsOk : OptsT → Bool
 | (r, _, _, _, _, ck, so, _, _, _, _, _, _, del, bk, suf, dir) =>
  (decide (del ≥ 0) && decide (del ≤ 3)) && (!(!(del == 0) && !r) && (!(ck && so) && (cond bk (sufOk suf && ((dir == [] || pathOk dir) && !(suf == [] && dir == []))) (suf == [] && dir == []))))
theorem app_nil (a b : List UInt8) : (a ++ b == []) = (a == [] && b == []) := by cases a <;> cases b <;> rfl
theorem spec_optsOk (o : OptsT) (h1 : o.2.2.2.2.2.2.2.2.2.2.2.2.2.2.2.1.length ≤ 1048576) (h2 : o.2.2.2.2.2.2.2.2.2.2.2.2.2.2.2.2.length ≤ 1048576) : m_spec_OptsOk o = some (optsOk o, ()) := by
 obtain ⟨r, l, p, t, hd, ck, so, dry, wh, up, ex, ig, fz, del, bk, suf, dir⟩ := o
 dsimp only at h1 h2
 unfold m_spec_OptsOk optsOk
 simp only [in_eq, Option.bind_some, bne, nilOf]
 refine bind_eq (x := (((), !((decide (del ≥ 0) && decide (del ≤ 3)) && (!(!(del == 0) && !r) && !(ck && so))), ()), (r, l, p, t, hd, ck, so, dry, wh, up, ex, ig, fz, del, bk, suf, dir, ()), ())) ?_ ?_
 ·cases (decide (del ≥ 0) && decide (del ≤ 3)) <;> cases del == 0 <;> cases r <;> cases ck <;> cases so <;> rfl
 ·dsimp only
  have e : ((decide (del ≥ 0) && decide (del ≤ 3)) && (!(!(del == 0) && !r) && (!(ck && so) && (cond bk (sufOk suf && ((dir == [] || pathOk dir) && !(suf == [] && dir == []))) (suf == [] && dir == []))))) = (((decide (del ≥ 0) && decide (del ≤ 3)) && (!(!(del == 0) && !r) && !(ck && so))) && (cond bk (sufOk suf && ((dir == [] || pathOk dir) && !(suf == [] && dir == []))) (suf == [] && dir == []))) := by
   simp only [Bool.and_assoc]
  rw [e]
  cases ((decide (del ≥ 0) && decide (del ≤ 3)) && (!(!(del == 0) && !r) && !(ck && so))) with
  | false => rfl
  | true =>
   simp only [Bool.not_true, cond_false, Bool.true_and]
   cases bk with
   | false =>
    simp only [Bool.not_false, cond_true, cond_false]
    cases suf == [] <;> rfl
   | true =>
    simp only [Bool.not_true, cond_true, cond_false]
    rw [spec_suffix _ h1, Option.bind_some]
    dsimp only
    cases sufOk suf with
    | false => rfl
    | true =>
     have hl : suf.length + dir.length < 2 ^ 63 := by show _ < 9223372036854775808; omega
     simp only [cond_true, Bool.true_and, if_pos hl, app_nil, spec_pathOk, Option.bind_some]
     cases dir == [] <;> cases pathOk dir <;> rfl
theorem impl_optsOk (o : OptsT) (h1 : o.2.2.2.2.2.2.2.2.2.2.2.2.2.2.2.1.length ≤ 1048576) (h2 : o.2.2.2.2.2.2.2.2.2.2.2.2.2.2.2.2.length ≤ 1048576) : m_impl_OptsOk o = some (optsOk o, ()) := by
 obtain ⟨r, l, p, t, hd, ck, so, dry, wh, up, ex, ig, fz, del, bk, suf, dir⟩ := o
 dsimp only at h1 h2
 unfold m_impl_OptsOk optsOk
 simp only [within_eq, Option.bind_some, bne, nilOf]
 refine bind_eq (x := (((), !((decide (del ≥ 0) && decide (del ≤ 3)) && (!(!(del == 0) && !r) && !(ck && so))), ()), (r, l, p, t, hd, ck, so, dry, wh, up, ex, ig, fz, del, bk, suf, dir, ()), ())) ?_ ?_
 ·cases (decide (del ≥ 0) && decide (del ≤ 3)) <;> cases del == 0 <;> cases r <;> cases ck <;> cases so <;> rfl
 ·dsimp only
  have e : ((decide (del ≥ 0) && decide (del ≤ 3)) && (!(!(del == 0) && !r) && (!(ck && so) && (cond bk (sufOk suf && ((dir == [] || pathOk dir) && !(suf == [] && dir == []))) (suf == [] && dir == []))))) = (((decide (del ≥ 0) && decide (del ≤ 3)) && (!(!(del == 0) && !r) && !(ck && so))) && (cond bk (sufOk suf && ((dir == [] || pathOk dir) && !(suf == [] && dir == []))) (suf == [] && dir == []))) := by
   simp only [Bool.and_assoc]
  rw [e]
  cases ((decide (del ≥ 0) && decide (del ≤ 3)) && (!(!(del == 0) && !r) && !(ck && so))) with
  | false => rfl
  | true =>
   simp only [Bool.not_true, cond_false, Bool.true_and]
   cases bk with
   | false =>
    simp only [Bool.not_false, cond_true, cond_false]
    cases suf == [] <;> rfl
   | true =>
    simp only [Bool.not_true, cond_true, cond_false, impl_pathOk, Option.bind_some]
    cases hsn : suf == [] with
    | true =>
     have : sufOk suf = true := by unfold sufOk; rw [hsn]; rfl
     rw [this]
     cases dir == [] <;> cases pathOk dir <;> rfl
    | false =>
     rw [impl_suffix _ h1 hsn]
     simp only [Option.bind_some, cond_false]
     cases sufOk suf <;> cases dir == [] <;> cases pathOk dir <;> rfl
set_option maxRecDepth 20000
set_option maxRecDepth 20000
set_option maxRecDepth 20000
set_option maxHeartbeats 400000
abbrev BoxT := Bool × Bool × Bool × Bool × Bool × Bool × Bool × Bool × Bool × Bool × Bool × Bool × Bool × Int × Bool × List UInt8 × List UInt8 × Int × Int × Bool × Unit
def boxOf : OptsT → Int → Int → Bool → BoxT
 | (a0, a1, a2, a3, a4, a5, a6, a7, a8, a9, a10, a11, a12, d, a14, s, p), sf, dr, tw => (a0, a1, a2, a3, a4, a5, a6, a7, a8, a9, a10, a11, a12, d, a14, s, p, sf, dr, tw, ())
def fnd : List Int → Int → Int → Int
 | [], _, _ => -1
 | x :: r, j, n => if x = n then j else fnd r (j + 1) n
def LETS : List Int := [114, 108, 112, 116, 72, 99, 110, 87, 117, 121, 98]
def idxL (n : Int) : Int := if n = 114 then 0 else if n = 108 then 1 else if n = 112 then 2 else if n = 116 then 3 else if n = 72 then 4 else if n = 99 then 5 else if n = 110 then 6 else if n = 87 then 7 else if n = 117 then 8 else if n = 121 then 9 else if n = 98 then 10 else -1
theorem fnd_idx (n : Int) : fnd LETS 0 n = idxL n := by
 unfold idxL LETS
 simp only [fnd]
 have f : ∀ x : Int, (x = n) = (n = x) := fun x => propext ⟨Eq.symm, Eq.symm⟩
 simp only [f]
 rfl
theorem fnd_neg : ∀ (l : List Int) (j n : Int), 0 ≤ j → fnd l j n = -1 ∨ j ≤ fnd l j n
 | [], _, _, _ => .inl rfl
 | x :: r, j, n, h => by
  unfold fnd; split
  ·exact .inr (Int.le_refl _)
  ·rcases fnd_neg r (j + 1) n (by omega) with h | h
   ·exact .inl h
   ·exact .inr (by omega)
theorem idx_eq (B : BoxT) (txt : List UInt8) (i : Nat) (hi : i < txt.length) : m_slices_IndexFunc_impl_letterOf_impl_letterOf (114, (), 108, (), 112, (), 116, (), 72, (), 99, (), 110, (), 87, (), 117, (), 121, (), 98, (), ()) B (txt, ()) ((i : Int), ()) = some (idxL ((txt.getD i 0).toNat : Int), (114, (), 108, (), 112, (), 116, (), 72, (), 99, (), 110, (), 87, (), 117, (), 121, (), 98, (), ()), B, (txt, ()), ((i : Int), ()), ()) := by
 unfold m_slices_IndexFunc_impl_letterOf_impl_letterOf
 dsimp only
 generalize hn : ((txt.getD i 0).toNat : Int) = n
 have hn2 : ((txt[i]?.getD 0).toNat : Int) = n := by rw [← hn, List.getD_eq_getElem?_getD]
 have hb : 0 ≤ (i : Int) ∧ (i : Int) < (txt.length : Int) := ⟨by omega, by omega⟩
 refine joinC_of (x := if fnd LETS 0 n < 0 then some (Sum.inl ((), (114, (), 108, (), 112, (), 116, (), 72, (), 99, (), 110, (), 87, (), 117, (), 121, (), 98, (), ()), B, (txt, ()), ((i : Int), ()), ())) else some (Sum.inr (fnd LETS 0 n, (114, (), 108, (), 112, (), 116, (), 72, (), 99, (), 110, (), 87, (), 117, (), 121, (), 98, (), ()), B, (txt, ()), ((i : Int), ()), ()))) ?_ ?_
 ·refine (loopC_inv _ (fun m t => ∃ j : Nat, j ≤ 11 ∧ m = 11 - j ∧ t = (((), (), 11, (j : Int), ()), (114, (), 108, (), 112, (), 116, (), 72, (), 99, (), 110, (), 87, (), 117, (), 121, (), 98, (), ()), B, (txt, ()), ((i : Int), ()), ()))
   (fun t => if fnd (LETS.drop t.1.2.2.2.1.toNat) t.1.2.2.2.1 n < 0 then some (Sum.inl ((), (114, (), 108, (), 112, (), 116, (), 72, (), 99, (), 110, (), 87, (), 117, (), 121, (), 98, (), ()), B, (txt, ()), ((i : Int), ()), ())) else some (Sum.inr (fnd (LETS.drop t.1.2.2.2.1.toNat) t.1.2.2.2.1 n, (114, (), 108, (), 112, (), 116, (), 72, (), 99, (), 110, (), 87, (), 117, (), 121, (), 98, (), ()), B, (txt, ()), ((i : Int), ()), ()))) ?_ _ 11 _ ⟨0, by omega, by omega, rfl⟩ (by omega)).trans (by simp only [Int.toNat_zero, List.drop_zero])
  rintro m t k ⟨j, hj, rfl, rfl⟩ hk
  have step : ∀ (q : Nat), j < q → q ≤ 11 → k (((), (), 11, (q : Int), ()), (114, (), 108, (), 112, (), 116, (), 72, (), 99, (), 110, (), 87, (), 117, (), 121, (), 98, (), ()), B, (txt, ()), ((i : Int), ()), ()) = _ := fun q h1 h2 => hk (11 - q) _ (by omega) ⟨q, h2, rfl, rfl⟩
  have hcase : j = 0 ∨ j = 1 ∨ j = 2 ∨ j = 3 ∨ j = 4 ∨ j = 5 ∨ j = 6 ∨ j = 7 ∨ j = 8 ∨ j = 9 ∨ j = 10 ∨ j = 11 := by omega
  rcases hcase with rfl | rfl | rfl | rfl | rfl | rfl | rfl | rfl | rfl | rfl | rfl | rfl
  ·by_cases q : (114 : Int) = n
   ·subst q
    simp [m_impl_Opts_setLetters_1, hb, hn, hn2, joinC, fnd, LETS]
   ·have q2 : ((114 : Int) == n) = false := by simpa using q
    refine Eq.trans ?_ ((step 1 (by omega) (by omega)).trans ?_)
    ·simp [m_impl_Opts_setLetters_1, hb, hn, hn2, q, q2, joinC, wr]
    ·simp [fnd, LETS, q]
  ·by_cases q : (108 : Int) = n
   ·subst q
    simp [m_impl_Opts_setLetters_1_2, hb, hn, hn2, joinC, fnd, LETS]
   ·have q2 : ((108 : Int) == n) = false := by simpa using q
    refine Eq.trans ?_ ((step 2 (by omega) (by omega)).trans ?_)
    ·simp [m_impl_Opts_setLetters_1_2, hb, hn, hn2, q, q2, joinC, wr]
    ·simp [fnd, LETS, q]
  ·by_cases q : (112 : Int) = n
   ·subst q
    simp [m_impl_Opts_setLetters_1_3, hb, hn, hn2, joinC, fnd, LETS]
   ·have q2 : ((112 : Int) == n) = false := by simpa using q
    refine Eq.trans ?_ ((step 3 (by omega) (by omega)).trans ?_)
    ·simp [m_impl_Opts_setLetters_1_3, hb, hn, hn2, q, q2, joinC, wr]
    ·simp [fnd, LETS, q]
  ·by_cases q : (116 : Int) = n
   ·subst q
    simp [m_impl_Opts_setLetters_1_4, hb, hn, hn2, joinC, fnd, LETS]
   ·have q2 : ((116 : Int) == n) = false := by simpa using q
    refine Eq.trans ?_ ((step 4 (by omega) (by omega)).trans ?_)
    ·simp [m_impl_Opts_setLetters_1_4, hb, hn, hn2, q, q2, joinC, wr]
    ·simp [fnd, LETS, q]
  ·by_cases q : (72 : Int) = n
   ·subst q
    simp [m_impl_Opts_setLetters_1_5, hb, hn, hn2, joinC, fnd, LETS]
   ·have q2 : ((72 : Int) == n) = false := by simpa using q
    refine Eq.trans ?_ ((step 5 (by omega) (by omega)).trans ?_)
    ·simp [m_impl_Opts_setLetters_1_5, hb, hn, hn2, q, q2, joinC, wr]
    ·simp [fnd, LETS, q]
  ·by_cases q : (99 : Int) = n
   ·subst q
    simp [m_impl_Opts_setLetters_1_6, hb, hn, hn2, joinC, fnd, LETS]
   ·have q2 : ((99 : Int) == n) = false := by simpa using q
    refine Eq.trans ?_ ((step 6 (by omega) (by omega)).trans ?_)
    ·simp [m_impl_Opts_setLetters_1_6, hb, hn, hn2, q, q2, joinC, wr]
    ·simp [fnd, LETS, q]
  ·by_cases q : (110 : Int) = n
   ·subst q
    simp [m_impl_Opts_setLetters_1_7, hb, hn, hn2, joinC, fnd, LETS]
   ·have q2 : ((110 : Int) == n) = false := by simpa using q
    refine Eq.trans ?_ ((step 7 (by omega) (by omega)).trans ?_)
    ·simp [m_impl_Opts_setLetters_1_7, hb, hn, hn2, q, q2, joinC, wr]
    ·simp [fnd, LETS, q]
  ·by_cases q : (87 : Int) = n
   ·subst q
    simp [m_impl_Opts_setLetters_1_8, hb, hn, hn2, joinC, fnd, LETS]
   ·have q2 : ((87 : Int) == n) = false := by simpa using q
    refine Eq.trans ?_ ((step 8 (by omega) (by omega)).trans ?_)
    ·simp [m_impl_Opts_setLetters_1_8, hb, hn, hn2, q, q2, joinC, wr]
    ·simp [fnd, LETS, q]
  ·by_cases q : (117 : Int) = n
   ·subst q
    simp [m_impl_Opts_setLetters_1_9, hb, hn, hn2, joinC, fnd, LETS]
   ·have q2 : ((117 : Int) == n) = false := by simpa using q
    refine Eq.trans ?_ ((step 9 (by omega) (by omega)).trans ?_)
    ·simp [m_impl_Opts_setLetters_1_9, hb, hn, hn2, q, q2, joinC, wr]
    ·simp [fnd, LETS, q]
  ·by_cases q : (121 : Int) = n
   ·subst q
    simp [m_impl_Opts_setLetters_1_10, hb, hn, hn2, joinC, fnd, LETS]
   ·have q2 : ((121 : Int) == n) = false := by simpa using q
    refine Eq.trans ?_ ((step 10 (by omega) (by omega)).trans ?_)
    ·simp [m_impl_Opts_setLetters_1_10, hb, hn, hn2, q, q2, joinC, wr]
    ·simp [fnd, LETS, q]
  ·by_cases q : (98 : Int) = n
   ·subst q
    simp [m_impl_Opts_setLetters_1_11, hb, hn, hn2, joinC, fnd, LETS]
   ·have q2 : ((98 : Int) == n) = false := by simpa using q
    refine Eq.trans ?_ ((step 11 (by omega) (by omega)).trans ?_)
    ·simp [m_impl_Opts_setLetters_1_11, hb, hn, hn2, q, q2, joinC, wr]
    ·simp [fnd, LETS, q]
  ·simp [fnd, LETS]
 ·rw [fnd_idx]
  split
  ·rename_i hneg
   rcases fnd_neg LETS 0 n (by omega) with h | h
   ·rw [fnd_idx] at h; rw [h]; rfl
   ·rw [fnd_idx] at h; omega
  ·rfl
def setC (n : Int) : OptsT → Option OptsT
 | (a0, a1, a2, a3, a4, a5, a6, a7, a8, a9, a10, a11, a12, d, a14, s, p) => if n = 97 then some (true, true, true, true, a4, a5, a6, a7, a8, a9, a10, a11, a12, d, a14, s, p) else if n = 114 then some (true, a1, a2, a3, a4, a5, a6, a7, a8, a9, a10, a11, a12, d, a14, s, p) else if n = 108 then some (a0, true, a2, a3, a4, a5, a6, a7, a8, a9, a10, a11, a12, d, a14, s, p) else if n = 112 then some (a0, a1, true, a3, a4, a5, a6, a7, a8, a9, a10, a11, a12, d, a14, s, p) else if n = 116 then some (a0, a1, a2, true, a4, a5, a6, a7, a8, a9, a10, a11, a12, d, a14, s, p) else if n = 72 then some (a0, a1, a2, a3, true, a5, a6, a7, a8, a9, a10, a11, a12, d, a14, s, p) else if n = 99 then some (a0, a1, a2, a3, a4, true, a6, a7, a8, a9, a10, a11, a12, d, a14, s, p) else if n = 110 then some (a0, a1, a2, a3, a4, a5, a6, true, a8, a9, a10, a11, a12, d, a14, s, p) else if n = 87 then some (a0, a1, a2, a3, a4, a5, a6, a7, true, a9, a10, a11, a12, d, a14, s, p) else if n = 117 then some (a0, a1, a2, a3, a4, a5, a6, a7, a8, true, a10, a11, a12, d, a14, s, p) else if n = 121 then some (a0, a1, a2, a3, a4, a5, a6, a7, a8, a9, a10, a11, true, d, a14, s, p) else if n = 98 then some (a0, a1, a2, a3, a4, a5, a6, a7, a8, a9, a10, a11, a12, d, true, s, p) else none
theorem spec_letter (o : OptsT) (n : Int) : m_spec_l11Letter o n = some (((setC n o).getD o, (setC n o).isSome, ()), ()) := by
 obtain ⟨a0, a1, a2, a3, a4, a5, a6, a7, a8, a9, a10, a11, a12, d, a14, s, p⟩ := o
 unfold m_spec_l11Letter
 by_cases h97 : n = 97
 ·subst h97; rfl
 by_cases h114 : n = 114
 ·subst h114; rfl
 by_cases h108 : n = 108
 ·subst h108; rfl
 by_cases h112 : n = 112
 ·subst h112; rfl
 by_cases h116 : n = 116
 ·subst h116; rfl
 by_cases h72 : n = 72
 ·subst h72; rfl
 by_cases h99 : n = 99
 ·subst h99; rfl
 by_cases h110 : n = 110
 ·subst h110; rfl
 by_cases h87 : n = 87
 ·subst h87; rfl
 by_cases h117 : n = 117
 ·subst h117; rfl
 by_cases h121 : n = 121
 ·subst h121; rfl
 by_cases h98 : n = 98
 ·subst h98; rfl
 have f : ∀ k : Int, n ≠ k → (n == k) = false := fun k h => by simpa using h
 simp only [setC, f _ h97, h97, f _ h114, h114, f _ h108, h108, f _ h112, h112, f _ h116, h116, f _ h72, h72, f _ h99, h99, f _ h110, h110, f _ h87, h87, f _ h117, h117, f _ h121, h121, f _ h98, h98, if_false, cond_false, joinC, Option.isSome, Option.getD]
def foldC : List UInt8 → OptsT → Option OptsT
 | [], o => some o
 | c :: r, o => (setC (c.toNat : Int) o).bind (foldC r)
set_option maxRecDepth 20000
set_option maxHeartbeats 1000000
theorem joinC_some {S α : Type} {o : Option (S ⊕ α)} {k : S → Option α} {Q : S ⊕ α → Prop} {R : α → Prop} (h : ∃ x, o = some x ∧ Q x) (h2 : ∀ x, Q x → ∃ t, joinC (some x) k = some t ∧ R t) : ∃ t, joinC o k = some t ∧ R t := by
 obtain ⟨x, rfl, hq⟩ := h; exact h2 x hq
theorem setLetters_eq (txt : List UInt8) (htx : txt.length ≤ 300) (o : OptsT) (sf dr : Int) (tw : Bool) :
    ∃ r, m_impl_Opts_setLetters txt (boxOf o sf dr tw) = some r ∧ (match foldC txt o with | some o' => r = (!(txt == []), boxOf o' sf dr tw, ()) | none => r.1 = false) := by
 unfold m_impl_Opts_setLetters
 refine bind_some' (Q := fun r => r.2 = (boxOf o sf dr tw, ((114 : Int), (), (108 : Int), (), (112 : Int), (), (116 : Int), (), (72 : Int), (), (99 : Int), (), (110 : Int), (), (87 : Int), (), (117 : Int), (), (121 : Int), (), (98 : Int), (), ()), ())) ⟨_, rfl, ?_⟩ ?_
 ·obtain ⟨a0, a1, a2, a3, a4, a5, a6, a7, a8, a9, a10, a11, a12, d, a14, s, p⟩ := o; rfl
 rintro ⟨r1, r2⟩ hr
 dsimp only at hr
 subst hr
 dsimp only
 refine joinC_some (Q := fun x => match foldC txt o with | some o' => x = Sum.inl (((), ()), boxOf o' sf dr tw, (txt, ()), ()) | none => ∃ b : BoxT, x = Sum.inr (false, b, ())) (
  loopC_some' _ (fun m t => ∃ (i : Nat) (oi : OptsT), i ≤ txt.length ∧ m = txt.length - i ∧ foldC (txt.drop i) oi = foldC txt o ∧ t = (((), (), (txt.length : Int), (i : Int), ()), boxOf oi sf dr tw, (txt, ()), ((114 : Int), (), (108 : Int), (), (112 : Int), (), (116 : Int), (), (72 : Int), (), (99 : Int), (), (110 : Int), (), (87 : Int), (), (117 : Int), (), (121 : Int), (), (98 : Int), (), ()), ()))
   (fun x => match foldC txt o with | some o' => x = Sum.inl (((), ()), boxOf o' sf dr tw, (txt, ()), ()) | none => ∃ b : BoxT, x = Sum.inr (false, b, ())) ?step _ txt.length _ ⟨0, o, by omega, by omega, rfl, rfl⟩ ?fuel) ?fin
 case fuel => simp only [Int.toNat_natCast]; omega
 case step =>
  rintro m t k ⟨i, oi, hi, rfl, hf, rfl⟩ hk
  by_cases hlt : i < txt.length
  ·have hd : decide ((i : Int) < (txt.length : Int)) = true := by simpa using hlt
   have hb : 0 ≤ (i : Int) ∧ (i : Int) < (txt.length : Int) := ⟨by omega, by omega⟩
   have hw : IntKind.wrap .i64 ((i : Int) + 1) = ((i + 1 : Nat) : Int) := wr1 _ (by omega)
   rw [drop_getD (0 : UInt8) hlt] at hf
   simp only [foldC] at hf
   have hidx := idx_eq (boxOf oi sf dr tw) txt i hlt
   generalize hn : ((txt.getD i 0).toNat : Int) = n at hf hidx
   have next : ∀ o2, setC n oi = some o2 → ∃ x, k (((), (), (txt.length : Int), ((i + 1 : Nat) : Int), ()), boxOf o2 sf dr tw, (txt, ()), ((114 : Int), (), (108 : Int), (), (112 : Int), (), (116 : Int), (), (72 : Int), (), (99 : Int), (), (110 : Int), (), (87 : Int), (), (117 : Int), (), (121 : Int), (), (98 : Int), (), ()), ()) = some x ∧ (match foldC txt o with | some o' => x = Sum.inl (((), ()), boxOf o' sf dr tw, (txt, ()), ()) | none => ∃ b : BoxT, x = Sum.inr (false, b, ())) :=
    fun o2 h => hk (txt.length - (i + 1)) _ (by omega) ⟨i + 1, o2, by omega, rfl, by rw [h] at hf; exact hf, rfl⟩
   dsimp only
   rw [hd, cond_true, if_pos hb]
   simp only [Int.toNat_natCast, hn]
   have hf0 := hf
   clear hk hf
   obtain ⟨a0, a1, a2, a3, a4, a5, a6, a7, a8, a9, a10, a11, a12, d, a14, s, p⟩ := oi
   by_cases h97 : n = 97
   ·subst h97
    obtain ⟨x, h1, h2⟩ := next (true, true, true, true, a4, a5, a6, a7, a8, a9, a10, a11, a12, d, a14, s, p) rfl
    refine ⟨x, Eq.trans ?_ h1, h2⟩
    refine (joinC_inl' (s := (((), (), (txt.length : Int), (i : Int), ()), boxOf (true, true, true, true, a4, a5, a6, a7, a8, a9, a10, a11, a12, d, a14, s, p) sf dr tw, (txt, ()), ((114 : Int), (), (108 : Int), (), (112 : Int), (), (116 : Int), (), (72 : Int), (), (99 : Int), (), (110 : Int), (), (87 : Int), (), (117 : Int), (), (121 : Int), (), (98 : Int), (), ()), ())) ?_).trans ?_
    ·rw [show ((97 : Int) == 97) = true from rfl, cond_true, if_pos (by decide)]
     refine bind_eq (x := (((), (), (txt.length : Int), (i : Int), ()), boxOf (true, true, true, true, a4, a5, a6, a7, a8, a9, a10, a11, a12, d, a14, s, p) sf dr tw, (txt, ()), ((114 : Int), (), (108 : Int), (), (112 : Int), (), (116 : Int), (), (72 : Int), (), (99 : Int), (), (110 : Int), (), (87 : Int), (), (117 : Int), (), (121 : Int), (), (98 : Int), (), ()), ())) ?_ rfl
     refine (loopC_inv _ (fun m t => ∃ (j : Nat) (b0 b1 b2 b3 : Bool), j ≤ 4 ∧ m = 4 - j ∧ (1 ≤ j → b0 = true) ∧ (2 ≤ j → b1 = true) ∧ (3 ≤ j → b2 = true) ∧ (4 ≤ j → b3 = true) ∧ t = (((), (), (txt.length : Int), (i : Int), (), 4, (j : Int), ()), (b0, b1, b2, b3, a4, a5, a6, a7, a8, a9, a10, a11, a12, d, a14, s, p, sf, dr, tw, ()), (txt, ()), ((114 : Int), (), (108 : Int), (), (112 : Int), (), (116 : Int), (), (72 : Int), (), (99 : Int), (), (110 : Int), (), (87 : Int), (), (117 : Int), (), (121 : Int), (), (98 : Int), (), ()), ()))
      (fun _ => some (((), (), (txt.length : Int), (i : Int), ()), boxOf (true, true, true, true, a4, a5, a6, a7, a8, a9, a10, a11, a12, d, a14, s, p) sf dr tw, (txt, ()), ((114 : Int), (), (108 : Int), (), (112 : Int), (), (116 : Int), (), (72 : Int), (), (99 : Int), (), (110 : Int), (), (87 : Int), (), (117 : Int), (), (121 : Int), (), (98 : Int), (), ()), ())) ?_ _ 4 _ ⟨0, a0, a1, a2, a3, by omega, by omega, by omega, by omega, by omega, by omega, rfl⟩ (by omega))
     rintro m t k' ⟨j, b0, b1, b2, b3, hj, rfl, q0, q1, q2, q3, rfl⟩ hk'
     have step : ∀ (q : Nat) (c0 c1 c2 c3 : Bool), j < q → q ≤ 4 → (1 ≤ q → c0 = true) → (2 ≤ q → c1 = true) → (3 ≤ q → c2 = true) → (4 ≤ q → c3 = true) → k' (((), (), (txt.length : Int), (i : Int), (), 4, (q : Int), ()), (c0, c1, c2, c3, a4, a5, a6, a7, a8, a9, a10, a11, a12, d, a14, s, p, sf, dr, tw, ()), (txt, ()), ((114 : Int), (), (108 : Int), (), (112 : Int), (), (116 : Int), (), (72 : Int), (), (99 : Int), (), (110 : Int), (), (87 : Int), (), (117 : Int), (), (121 : Int), (), (98 : Int), (), ()), ()) = _ :=
      fun q c0 c1 c2 c3 h1 h2 h3 h4 h5 h6 => hk' (4 - q) _ (by omega) ⟨q, c0, c1, c2, c3, h2, rfl, h3, h4, h5, h6, rfl⟩
     have hcase : j = 0 ∨ j = 1 ∨ j = 2 ∨ j = 3 ∨ j = 4 := by omega
     rcases hcase with rfl | rfl | rfl | rfl | rfl
     ·exact Eq.trans (by simp [wr]) (step 1 true b1 b2 b3 (by omega) (by omega) (fun _ => rfl) (by omega) (by omega) (by omega))
     ·exact Eq.trans (by simp [wr]) (step 2 b0 true b2 b3 (by omega) (by omega) (fun _ => q0 (by omega)) (fun _ => rfl) (by omega) (by omega))
     ·exact Eq.trans (by simp [wr]) (step 3 b0 b1 true b3 (by omega) (by omega) (fun _ => q0 (by omega)) (fun _ => q1 (by omega)) (fun _ => rfl) (by omega))
     ·exact Eq.trans (by simp [wr]) (step 4 b0 b1 b2 true (by omega) (by omega) (fun _ => q0 (by omega)) (fun _ => q1 (by omega)) (fun _ => q2 (by omega)) (fun _ => rfl))
     ·rw [q0 (by omega), q1 (by omega), q2 (by omega), q3 (by omega)]; rfl
    ·dsimp only; rw [hw]
   have f97 : (n == 97) = false := by simpa using h97
   by_cases h114 : n = 114
   ·subst h114
    obtain ⟨x, h1, h2⟩ := next (true, a1, a2, a3, a4, a5, a6, a7, a8, a9, a10, a11, a12, d, a14, s, p) rfl
    refine ⟨x, Eq.trans ?_ h1, h2⟩
    refine (joinC_inl' (s := (((), (), (txt.length : Int), (i : Int), ()), boxOf (true, a1, a2, a3, a4, a5, a6, a7, a8, a9, a10, a11, a12, d, a14, s, p) sf dr tw, (txt, ()), ((114 : Int), (), (108 : Int), (), (112 : Int), (), (116 : Int), (), (72 : Int), (), (99 : Int), (), (110 : Int), (), (87 : Int), (), (117 : Int), (), (121 : Int), (), (98 : Int), (), ()), ())) ?_).trans ?_
    ·exact bind_eq hidx rfl
    ·dsimp only; rw [hw]
   by_cases h108 : n = 108
   ·subst h108
    obtain ⟨x, h1, h2⟩ := next (a0, true, a2, a3, a4, a5, a6, a7, a8, a9, a10, a11, a12, d, a14, s, p) rfl
    refine ⟨x, Eq.trans ?_ h1, h2⟩
    refine (joinC_inl' (s := (((), (), (txt.length : Int), (i : Int), ()), boxOf (a0, true, a2, a3, a4, a5, a6, a7, a8, a9, a10, a11, a12, d, a14, s, p) sf dr tw, (txt, ()), ((114 : Int), (), (108 : Int), (), (112 : Int), (), (116 : Int), (), (72 : Int), (), (99 : Int), (), (110 : Int), (), (87 : Int), (), (117 : Int), (), (121 : Int), (), (98 : Int), (), ()), ())) ?_).trans ?_
    ·exact bind_eq hidx rfl
    ·dsimp only; rw [hw]
   by_cases h112 : n = 112
   ·subst h112
    obtain ⟨x, h1, h2⟩ := next (a0, a1, true, a3, a4, a5, a6, a7, a8, a9, a10, a11, a12, d, a14, s, p) rfl
    refine ⟨x, Eq.trans ?_ h1, h2⟩
    refine (joinC_inl' (s := (((), (), (txt.length : Int), (i : Int), ()), boxOf (a0, a1, true, a3, a4, a5, a6, a7, a8, a9, a10, a11, a12, d, a14, s, p) sf dr tw, (txt, ()), ((114 : Int), (), (108 : Int), (), (112 : Int), (), (116 : Int), (), (72 : Int), (), (99 : Int), (), (110 : Int), (), (87 : Int), (), (117 : Int), (), (121 : Int), (), (98 : Int), (), ()), ())) ?_).trans ?_
    ·exact bind_eq hidx rfl
    ·dsimp only; rw [hw]
   by_cases h116 : n = 116
   ·subst h116
    obtain ⟨x, h1, h2⟩ := next (a0, a1, a2, true, a4, a5, a6, a7, a8, a9, a10, a11, a12, d, a14, s, p) rfl
    refine ⟨x, Eq.trans ?_ h1, h2⟩
    refine (joinC_inl' (s := (((), (), (txt.length : Int), (i : Int), ()), boxOf (a0, a1, a2, true, a4, a5, a6, a7, a8, a9, a10, a11, a12, d, a14, s, p) sf dr tw, (txt, ()), ((114 : Int), (), (108 : Int), (), (112 : Int), (), (116 : Int), (), (72 : Int), (), (99 : Int), (), (110 : Int), (), (87 : Int), (), (117 : Int), (), (121 : Int), (), (98 : Int), (), ()), ())) ?_).trans ?_
    ·exact bind_eq hidx rfl
    ·dsimp only; rw [hw]
   by_cases h72 : n = 72
   ·subst h72
    obtain ⟨x, h1, h2⟩ := next (a0, a1, a2, a3, true, a5, a6, a7, a8, a9, a10, a11, a12, d, a14, s, p) rfl
    refine ⟨x, Eq.trans ?_ h1, h2⟩
    refine (joinC_inl' (s := (((), (), (txt.length : Int), (i : Int), ()), boxOf (a0, a1, a2, a3, true, a5, a6, a7, a8, a9, a10, a11, a12, d, a14, s, p) sf dr tw, (txt, ()), ((114 : Int), (), (108 : Int), (), (112 : Int), (), (116 : Int), (), (72 : Int), (), (99 : Int), (), (110 : Int), (), (87 : Int), (), (117 : Int), (), (121 : Int), (), (98 : Int), (), ()), ())) ?_).trans ?_
    ·exact bind_eq hidx rfl
    ·dsimp only; rw [hw]
   by_cases h99 : n = 99
   ·subst h99
    obtain ⟨x, h1, h2⟩ := next (a0, a1, a2, a3, a4, true, a6, a7, a8, a9, a10, a11, a12, d, a14, s, p) rfl
    refine ⟨x, Eq.trans ?_ h1, h2⟩
    refine (joinC_inl' (s := (((), (), (txt.length : Int), (i : Int), ()), boxOf (a0, a1, a2, a3, a4, true, a6, a7, a8, a9, a10, a11, a12, d, a14, s, p) sf dr tw, (txt, ()), ((114 : Int), (), (108 : Int), (), (112 : Int), (), (116 : Int), (), (72 : Int), (), (99 : Int), (), (110 : Int), (), (87 : Int), (), (117 : Int), (), (121 : Int), (), (98 : Int), (), ()), ())) ?_).trans ?_
    ·exact bind_eq hidx rfl
    ·dsimp only; rw [hw]
   by_cases h110 : n = 110
   ·subst h110
    obtain ⟨x, h1, h2⟩ := next (a0, a1, a2, a3, a4, a5, a6, true, a8, a9, a10, a11, a12, d, a14, s, p) rfl
    refine ⟨x, Eq.trans ?_ h1, h2⟩
    refine (joinC_inl' (s := (((), (), (txt.length : Int), (i : Int), ()), boxOf (a0, a1, a2, a3, a4, a5, a6, true, a8, a9, a10, a11, a12, d, a14, s, p) sf dr tw, (txt, ()), ((114 : Int), (), (108 : Int), (), (112 : Int), (), (116 : Int), (), (72 : Int), (), (99 : Int), (), (110 : Int), (), (87 : Int), (), (117 : Int), (), (121 : Int), (), (98 : Int), (), ()), ())) ?_).trans ?_
    ·exact bind_eq hidx rfl
    ·dsimp only; rw [hw]
   by_cases h87 : n = 87
   ·subst h87
    obtain ⟨x, h1, h2⟩ := next (a0, a1, a2, a3, a4, a5, a6, a7, true, a9, a10, a11, a12, d, a14, s, p) rfl
    refine ⟨x, Eq.trans ?_ h1, h2⟩
    refine (joinC_inl' (s := (((), (), (txt.length : Int), (i : Int), ()), boxOf (a0, a1, a2, a3, a4, a5, a6, a7, true, a9, a10, a11, a12, d, a14, s, p) sf dr tw, (txt, ()), ((114 : Int), (), (108 : Int), (), (112 : Int), (), (116 : Int), (), (72 : Int), (), (99 : Int), (), (110 : Int), (), (87 : Int), (), (117 : Int), (), (121 : Int), (), (98 : Int), (), ()), ())) ?_).trans ?_
    ·exact bind_eq hidx rfl
    ·dsimp only; rw [hw]
   by_cases h117 : n = 117
   ·subst h117
    obtain ⟨x, h1, h2⟩ := next (a0, a1, a2, a3, a4, a5, a6, a7, a8, true, a10, a11, a12, d, a14, s, p) rfl
    refine ⟨x, Eq.trans ?_ h1, h2⟩
    refine (joinC_inl' (s := (((), (), (txt.length : Int), (i : Int), ()), boxOf (a0, a1, a2, a3, a4, a5, a6, a7, a8, true, a10, a11, a12, d, a14, s, p) sf dr tw, (txt, ()), ((114 : Int), (), (108 : Int), (), (112 : Int), (), (116 : Int), (), (72 : Int), (), (99 : Int), (), (110 : Int), (), (87 : Int), (), (117 : Int), (), (121 : Int), (), (98 : Int), (), ()), ())) ?_).trans ?_
    ·exact bind_eq hidx rfl
    ·dsimp only; rw [hw]
   by_cases h121 : n = 121
   ·subst h121
    obtain ⟨x, h1, h2⟩ := next (a0, a1, a2, a3, a4, a5, a6, a7, a8, a9, a10, a11, true, d, a14, s, p) rfl
    refine ⟨x, Eq.trans ?_ h1, h2⟩
    refine (joinC_inl' (s := (((), (), (txt.length : Int), (i : Int), ()), boxOf (a0, a1, a2, a3, a4, a5, a6, a7, a8, a9, a10, a11, true, d, a14, s, p) sf dr tw, (txt, ()), ((114 : Int), (), (108 : Int), (), (112 : Int), (), (116 : Int), (), (72 : Int), (), (99 : Int), (), (110 : Int), (), (87 : Int), (), (117 : Int), (), (121 : Int), (), (98 : Int), (), ()), ())) ?_).trans ?_
    ·exact bind_eq hidx rfl
    ·dsimp only; rw [hw]
   by_cases h98 : n = 98
   ·subst h98
    obtain ⟨x, h1, h2⟩ := next (a0, a1, a2, a3, a4, a5, a6, a7, a8, a9, a10, a11, a12, d, true, s, p) rfl
    refine ⟨x, Eq.trans ?_ h1, h2⟩
    refine (joinC_inl' (s := (((), (), (txt.length : Int), (i : Int), ()), boxOf (a0, a1, a2, a3, a4, a5, a6, a7, a8, a9, a10, a11, a12, d, true, s, p) sf dr tw, (txt, ()), ((114 : Int), (), (108 : Int), (), (112 : Int), (), (116 : Int), (), (72 : Int), (), (99 : Int), (), (110 : Int), (), (87 : Int), (), (117 : Int), (), (121 : Int), (), (98 : Int), (), ()), ())) ?_).trans ?_
    ·exact bind_eq hidx rfl
    ·dsimp only; rw [hw]
   have hneg : idxL n = -1 := by simp only [idxL, h114, h108, h112, h116, h72, h99, h110, h87, h117, h121, h98, if_false]
   have hno : setC n (a0, a1, a2, a3, a4, a5, a6, a7, a8, a9, a10, a11, a12, d, a14, s, p) = none := by simp only [setC, h97, h114, h108, h112, h116, h72, h99, h110, h87, h117, h121, h98, if_false]
   rw [hneg] at hidx
   rw [hno] at hf0
   have hff : foldC txt o = none := hf0.symm
   rw [hff]
   refine ⟨Sum.inr (false, boxOf (a0, a1, a2, a3, a4, a5, a6, a7, a8, a9, a10, a11, a12, d, a14, s, p) sf dr tw, ()), ?_, ⟨_, rfl⟩⟩
   refine joinC_inr' ?_
   rw [f97, cond_false]
   exact bind_eq hidx rfl
  ·have hd : decide ((i : Int) < (txt.length : Int)) = false := by simpa using Nat.le_of_not_lt hlt
   have : txt.drop i = [] := List.drop_eq_nil_of_le (by omega)
   rw [this] at hf
   have hff : foldC txt o = some oi := hf.symm
   rw [hff]
   dsimp only
   rw [hd, cond_false]
   exact ⟨_, rfl, rfl⟩
 case fin =>
  intro x hx
  cases hff : foldC txt o with
  | none =>
   rw [hff] at hx
   obtain ⟨b, rfl⟩ := hx
   exact ⟨_, rfl, rfl⟩
  | some o2 =>
   rw [hff] at hx
   dsimp only at hx
   subst hx
   exact ⟨_, rfl, rfl⟩
def splitW : List UInt8 → List (List UInt8)
 | [] => [[]]
 | c :: r => if c = 32 then [] :: splitW r else match splitW r with
  | [] => [[c]]
  | h :: t => (c :: h) :: t
theorem splitW_ne (s : List UInt8) : splitW s ≠ [] := by
 cases s with
 | nil => simp [splitW]
 | cons c r => unfold splitW; split; simp; split <;> simp
theorem splitW_sp {c : UInt8} {r : List UInt8} (h : c = 32) : splitW (c :: r) = [] :: splitW r := by rw [splitW, if_pos h]
theorem splitW_other {c : UInt8} {r : List UInt8} (h : c ≠ 32) : splitW (c :: r) = prep [c] (splitW r) := by
 rw [splitW, if_neg h]; unfold prep; rcases splitW r with _ | ⟨h, t⟩ <;> rfl
theorem splitW_len : ∀ s : List UInt8, (splitW s).length ≤ s.length + 1
 | [] => by simp [splitW]
 | c :: r => by
  have := splitW_len r
  by_cases h : c = 32
  ·rw [splitW_sp h]; simp; omega
  ·rw [splitW_other h]; unfold prep; split <;> simp_all; omega
theorem spec_splitW (s : List UInt8) (hs : s.length ≤ 8796093022206) : m_spec_l01Split s = some (splitW s, ()) := by
 unfold m_spec_l01Split
 refine bind_ex (loopC_some' _ (fun n t => ∃ (f i : Nat) (o : List (List UInt8)), t = ((s, (), (f : Int), (i : Int), ()), o, ()) ∧ f ≤ i ∧ i ≤ s.length ∧ o.length ≤ i ∧ o ++ prep ((s.take i).drop f) (splitW (s.drop i)) = splitW s ∧ n = s.length - i)
  (fun r => ∃ (f : Nat) (o : List (List UInt8)), r = ((s, (), (f : Int), ()), o, ()) ∧ f ≤ s.length ∧ o.length ≤ s.length ∧ o ++ [s.drop f] = splitW s) ?_ _ s.length _ ⟨0, 0, [], rfl, by omega, by omega, by simp, ?_, rfl⟩ (by omega)) ?_
 rotate_left 2
 ·rintro r ⟨f, o, rfl, h1, h2, h3⟩
  dsimp only
  rw [if_pos (by omega), if_pos (by simp only [List.length_cons, List.length_nil]; omega)]
  rw [Int.toNat_natCast, Int.toNat_natCast, List.take_length, h3]
 ·rintro n t k ⟨f, i, o, rfl, hf, hi, ho, he, rfl⟩ hk
  dsimp only
  by_cases hl : i < s.length
  ·have hx : 0 ≤ (i : Int) ∧ (i : Int) < (s.length : Int) := by omega
   rw [decide_eq_true (by omega), cond_true, if_pos hx]
   simp only [Int.toNat_natCast]
   have hd := getD_cons hl
   rw [hd] at he
   by_cases hc : s.getD i 0 = 32
   ·rw [show (((s.getD i 0).toNat : Int) == 32) = true by rw [hc]; rfl, cond_true, if_pos (by omega), if_pos (by simp only [List.length_cons, List.length_nil]; omega), Option.bind_some]
    dsimp only
    rw [wr1 i (by omega)]
    refine hk (s.length - (i + 1)) _ (by omega) ⟨i + 1, i + 1, _, rfl, by omega, by omega, by simp; omega, ?_, rfl⟩
    rw [splitW_sp hc] at he
    rw [← he, List.append_assoc, show (s.take (i + 1)).drop (i + 1) = [] from List.drop_eq_nil_of_le (by rw [List.length_take]; omega)]
    unfold prep
    rcases hsp : splitW (s.drop (i + 1)) with _ | ⟨a, b⟩
    ·exact absurd hsp (splitW_ne _)
    ·simp
   ·rw [show (((s.getD i 0).toNat : Int) == 32) = false by
     rw [beq_eq_false_iff_ne]; intro h; exact hc (UInt8.toNat.inj (by show _ = 32; omega)), cond_false, Option.bind_some]
    dsimp only
    rw [wr1 i (by omega)]
    refine hk (s.length - (i + 1)) _ (by omega) ⟨f, i + 1, _, rfl, by omega, by omega, by omega, ?_, rfl⟩
    rw [splitW_other hc, prep_prep _ _ _ (splitW_ne _)] at he
    rw [take_snoc hl hf]
    exact he
  ·rw [decide_eq_false (by omega), cond_false]
   refine ⟨_, rfl, f, o, rfl, by omega, by omega, ?_⟩
   rw [← he, List.drop_eq_nil_of_le (by omega : s.length ≤ i), List.take_of_length_le (by omega)]
   simp [splitW, prep]
 ·simp only [List.drop_zero, List.nil_append, List.take_zero, List.drop_nil]
  rcases hsp : splitW s with _ | ⟨a, b⟩
  ·exact absurd hsp (splitW_ne _)
  ·rfl
theorem index_sp (s : List UInt8) : (Go.Lib.indexByte s 32 = -1 ∧ splitW s = [s]) ∨ ∃ k : Nat, k < s.length ∧ Go.Lib.indexByte s 32 = k ∧ splitW s = s.take k :: splitW (s.drop (k + 1)) ∧ s.count 32 = (s.drop (k + 1)).count 32 + 1 := by
 induction s with
 | nil => exact .inl ⟨rfl, rfl⟩
 | cons c r ih =>
  by_cases hc : c = 32
  ·refine .inr ⟨0, by simp, ?_, ?_, ?_⟩
   ·rw [hc]; rfl
   ·rw [splitW_sp hc]; rfl
   ·rw [hc]; simp
  ·have hb : (c == 32) = false := by simp [hc]
   rcases ih with ⟨h1, h2⟩ | ⟨k, hk, h1, h2, h3⟩
   ·refine .inl ⟨?_, ?_⟩
    ·unfold Go.Lib.indexByte; rw [hb, h1]; rfl
    ·rw [splitW_other hc, h2]; rfl
   ·refine .inr ⟨k + 1, by simp; omega, ?_, ?_, ?_⟩
    ·unfold Go.Lib.indexByte; rw [hb, h1]
     have : ((k : Int) == -1) = false := by rw [beq_eq_false_iff_ne]; omega
     simp [this]
    ·rw [splitW_other hc, h2]; rfl
    ·rw [List.count_cons, hb, h3]; simp
theorem index_eqW (s : List UInt8) : m_strings_Index s = some (Go.Lib.indexByte s 32, ()) := by
 unfold m_strings_Index m_stringslite_Index
 by_cases h : s = [32]
 ·subst h; rfl
 ·rw [show (([32] : List UInt8) == s) = false by rw [beq_eq_false_iff_ne]; exact fun h' => h h'.symm]
  rfl
theorem genSplit_eqW (s : List UInt8) (hs : s.length ≤ 8796093022206) : m_strings_genSplit s = some (splitW s, ()) := by
 unfold m_strings_genSplit
 refine bind_eq (x := (((s.count 32 : Nat) : Int), ())) rfl ?_
 have hcl : s.count 32 ≤ s.length := List.count_le_length
 dsimp only
 rw [wr ((s.length : Int) + 1) (by omega), wr (((s.count 32 : Nat) : Int) + 1) (by omega), if_neg (show ¬((s.length : Int) + 1 < ((s.count 32 : Nat) : Int) + 1) by omega), if_pos (by omega), wr (((s.count 32 : Nat) : Int) + 1 - 1) (by omega)]
 have hn : (((s.count 32 : Nat) : Int) + 1).toNat = s.count 32 + 1 := by omega
 rw [hn]
 refine bind_ex (loopC_some' _ (fun n t => ∃ (r : List UInt8) (i : Nat) (a : List (List UInt8)), t = ((r, (), (), ((s.count 32 : Nat) : Int) + 1 - 1, (), (i : Int), ()), a, ()) ∧ i + r.count 32 = s.count 32 ∧ r.length ≤ s.length ∧ a.length = s.count 32 + 1 ∧ a.take i ++ splitW r = splitW s ∧ n = r.length)
  (fun t => ∃ (r : List UInt8) (i : Nat) (a : List (List UInt8)), t = ((r, (), (i : Int), ()), a, ()) ∧ i ≤ s.count 32 ∧ a.length = s.count 32 + 1 ∧ a.take i ++ [r] = splitW s) ?_ _ s.length _ ⟨s, 0, _, rfl, by omega, by omega, by simp, rfl, rfl⟩ (by omega)) ?_
 ·rintro n t k ⟨r, i, a, rfl, h1, h2, h3, h4, rfl⟩ hk
  dsimp only
  by_cases hl : i < s.count 32
  ·rw [decide_eq_true (by omega), cond_true, index_eqW, Option.bind_some]
   dsimp only
   rcases index_sp r with ⟨g1, g2⟩ | ⟨m, hm, g1, g2, g3⟩
   ·rw [g1, decide_eq_true (by omega), cond_true]
    exact ⟨_, rfl, r, i, a, rfl, by omega, h3, by rw [g2] at h4; exact h4⟩
   ·rw [g1, decide_eq_false (by omega), cond_false, wr ((m : Int) + 0) (by omega)]
    simp only [List.length_cons, List.length_nil]
    rw [show ((0 + 1 : Nat) : Int) = 1 from rfl, wr1 m (by omega), if_pos (by omega), if_pos (by omega), if_pos (by omega), if_pos (by omega), wr1 i (by omega)]
    refine hk (r.drop (m + 1)).length _ (by rw [List.length_drop]; omega) ⟨r.drop (m + 1), i + 1, a.set i (r.take m), ?_, by omega, by rw [List.length_drop]; omega, ?_, ?_, rfl⟩
    ·simp only [Int.toNat_natCast, List.take_length, Int.add_zero]; rfl
    ·rw [List.length_set]; exact h3
    ·rw [List.take_add_one, List.take_set_of_le (by omega), ← h4, g2]
     rw [List.getElem?_set_self (by omega)]
     simp
  ·rw [decide_eq_false (by omega), cond_false]
   refine ⟨_, rfl, r, i, a, rfl, by omega, h3, ?_⟩
   rcases index_sp r with ⟨g1, g2⟩ | ⟨m, hm, g1, g2, g3⟩
   ·rw [g2] at h4; exact h4
   ·omega
 ·rintro t ⟨r, i, a, rfl, h1, h2, h3⟩
  dsimp only
  rw [if_pos (by omega), if_pos (by omega), wr1 i (by omega), if_pos (by rw [List.length_set]; omega)]
  rw [Int.toNat_natCast, Int.toNat_natCast, List.take_add_one, List.take_set_of_le (by omega), List.getElem?_set_self (by omega)]
  show some (a.take i ++ [r], ()) = _
  rw [h3]
theorem split_eqW (s : List UInt8) (hs : s.length ≤ 8796093022206) : m_strings_Split s = some (splitW s, ()) := by
 unfold m_strings_Split; rw [genSplit_eqW s hs]; rfl
theorem splitW_mem_len (s : List UInt8) : ∀ x ∈ splitW s, x.length ≤ s.length := by
 induction s with
 | nil => intro x hx; simp [splitW] at hx; subst hx; simp
 | cons c r ih =>
  intro x hx
  by_cases hc : c = 32
  ·rw [splitW_sp hc] at hx
   rcases List.mem_cons.1 hx with rfl | hx
   ·simp
   ·have := ih x hx; simp; omega
  ·rw [splitW_other hc] at hx
   unfold prep at hx
   rcases hsp : splitW r with _ | ⟨a, b⟩
   ·exact absurd hsp (splitW_ne _)
   ·rw [hsp] at hx ih
    rcases List.mem_cons.1 hx with rfl | hx
    ·have := ih a (by simp); simp; omega
    ·have := ih x (by simp [hx]); simp; omega
set_option maxRecDepth 20000
set_option maxHeartbeats 1000000
def pfx (w pre : List UInt8) : Bool := decide (pre.length ≤ w.length) && (w.take pre.length == pre)
theorem hasPrefix_eq (w pre : List UInt8) : m_stringslite_HasPrefix w pre = some (pfx w pre, ()) := by
 unfold m_stringslite_HasPrefix pfx
 by_cases h : pre.length ≤ w.length
 ·have hd : decide ((w.length : Int) ≥ (pre.length : Int)) = true := by simp; omega
  rw [hd, cond_true, if_pos ⟨by omega, by omega, by omega⟩, decide_eq_true h]
  simp
 ·have hd : decide ((w.length : Int) ≥ (pre.length : Int)) = false := by simp; omega
  rw [hd, cond_false, decide_eq_false h]; rfl
theorem cutPrefix_eq (w pre : List UInt8) : m_strings_CutPrefix w pre = some ((bif pfx w pre then w.drop pre.length else w, pfx w pre, ()), ()) := by
 unfold m_strings_CutPrefix m_stringslite_CutPrefix
 rw [hasPrefix_eq]
 cases hp : pfx w pre
 ·rfl
 ·have h : pre.length ≤ w.length := by
   unfold pfx at hp; simp only [Bool.and_eq_true, decide_eq_true_eq] at hp; exact hp.1
  simp only [Option.bind_some, Bool.not_true, cond_false, cond_true]
  rw [if_pos ⟨by omega, by omega, by omega⟩]
  simp
theorem after_eq (w pre : List UInt8) : m_spec_l11After w pre = some ((bif pfx w pre then w.drop pre.length else [], pfx w pre, ()), ()) := by
 unfold m_spec_l11After pfx
 by_cases h : pre.length ≤ w.length
 ·have hd : decide ((w.length : Int) < (pre.length : Int)) = false := by simp; omega
  rw [hd, cond_false, if_pos ⟨by omega, by omega, by omega⟩, decide_eq_true h, Option.bind_some]
  simp only [Int.toNat_natCast, Int.toNat_zero, List.drop_zero, Bool.true_and]
  cases hq : w.take pre.length == pre
  ·rfl
  ·simp only [Bool.not_true, cond_false, cond_true]
   rw [if_pos ⟨by omega, by omega, by omega⟩]
   simp
 ·have hd : decide ((w.length : Int) < (pre.length : Int)) = true := by simp; omega
  rw [hd, cond_true, decide_eq_false h]; rfl
def fndW : List (List UInt8) → Int → List UInt8 → Int
 | [], _, _ => -1
 | x :: r, j, w => if w = x then j else fndW r (j + 1) w
theorem fndW_neg : ∀ (l : List (List UInt8)) (j : Int) (w : List UInt8), 0 ≤ j → fndW l j w = -1 ∨ j ≤ fndW l j w
 | [], _, _, _ => .inl rfl
 | x :: r, j, n, h => by
  unfold fndW; split
  ·exact .inr (Int.le_refl _)
  ·rcases fndW_neg r (j + 1) n (by omega) with h | h
   ·exact .inl h
   ·exact .inr (by omega)
theorem indexS_eq (l : List (List UInt8)) (w : List UInt8) (hl : l.length ≤ 1000) : m_slices_Index_string_string l w = some (fndW l 0 w, ()) := by
 unfold m_slices_Index_string_string
 refine joinC_of (x := if fndW l 0 w < 0 then some (Sum.inl ((), ())) else some (Sum.inr (fndW l 0 w, ()))) ?_ ?_
 ·refine (loopC_inv _ (fun m t => ∃ i : Nat, i ≤ l.length ∧ m = l.length - i ∧ t = ((l, w, (l.length : Int), (i : Int), ()), ()))
   (fun t => if fndW (l.drop t.1.2.2.2.1.toNat) t.1.2.2.2.1 w < 0 then some (Sum.inl ((), ())) else some (Sum.inr (fndW (l.drop t.1.2.2.2.1.toNat) t.1.2.2.2.1 w, ()))) ?_ _ l.length _ ⟨0, by omega, by omega, rfl⟩ (by omega)).trans (by simp)
  rintro m t k ⟨i, hi, rfl, rfl⟩ hk
  dsimp only
  by_cases hlt : i < l.length
  ·have hd : decide ((i : Int) < (l.length : Int)) = true := by simpa using hlt
   rw [hd, cond_true, if_pos ⟨by omega, by omega⟩, wr1 _ (by omega)]
   simp only [Int.toNat_natCast]
   rw [drop_getD (nilOf UInt8) hlt]
   unfold fndW
   by_cases e : w = l.getD i (nilOf UInt8)
   ·rw [if_pos e, if_neg (by omega), show (w == l.getD i (nilOf UInt8)) = true by simpa using e]; rfl
   ·rw [if_neg e, show (w == l.getD i (nilOf UInt8)) = false by simpa using e, cond_false]
    exact hk _ _ (by omega) ⟨i + 1, by omega, rfl, rfl⟩
  ·have hd : decide ((i : Int) < (l.length : Int)) = false := by simpa using Nat.le_of_not_lt hlt
   have : l.drop i = [] := List.drop_eq_nil_of_le (by omega)
   rw [hd, cond_false]
   simp only [Int.toNat_natCast, this, fndW]; rfl
 ·rcases fndW_neg l 0 w (by omega) with h | h
  ·rw [h]; rfl
  ·rw [if_neg (by omega)]; rfl
abbrev ST := OptsT × Int × Int × Bool
def wordP (w : List UInt8) : ST → Option ST
 | ((a0, a1, a2, a3, a4, a5, a6, a7, a8, a9, a10, a11, a12, d, a14, s, p), sf, dr, tw) =>
  if pfx w [45, 45, 115, 117, 102, 102, 105, 120, 61] = true then some ((a0, a1, a2, a3, a4, a5, a6, a7, a8, a9, a10, a11, a12, d, a14, w.drop 9, p), sf + 1, dr, tw) else
  if pfx w [45, 45, 98, 97, 99, 107, 117, 112, 45, 100, 105, 114, 61] = true then some ((a0, a1, a2, a3, a4, a5, a6, a7, a8, a9, a10, a11, a12, d, a14, s, w.drop 13), sf, dr + 1, tw) else
  if w = [45, 45, 115, 105, 122, 101, 45, 111, 110, 108, 121] then some ((a0, a1, a2, a3, a4, a5, true, a7, a8, a9, a10, a11, a12, d, a14, s, p), sf, dr, tw) else
  if w = [45, 45, 101, 120, 105, 115, 116, 105, 110, 103] then some ((a0, a1, a2, a3, a4, a5, a6, a7, a8, a9, true, a11, a12, d, a14, s, p), sf, dr, tw) else
  if w = [45, 45, 105, 103, 110, 111, 114, 101, 45, 101, 120, 105, 115, 116, 105, 110, 103] then some ((a0, a1, a2, a3, a4, a5, a6, a7, a8, a9, a10, true, a12, d, a14, s, p), sf, dr, tw) else
  if w = [45, 45, 100, 101, 108, 101, 116, 101, 45, 98, 101, 102, 111, 114, 101] then some ((a0, a1, a2, a3, a4, a5, a6, a7, a8, a9, a10, a11, a12, 1, a14, s, p), sf, dr, tw || (d != 0 && d != 1)) else
  if w = [45, 45, 100, 101, 108, 101, 116, 101] then some ((a0, a1, a2, a3, a4, a5, a6, a7, a8, a9, a10, a11, a12, 2, a14, s, p), sf, dr, tw || (d != 0 && d != 2)) else
  if w = [45, 45, 100, 101, 108, 101, 116, 101, 45, 97, 102, 116, 101, 114] then some ((a0, a1, a2, a3, a4, a5, a6, a7, a8, a9, a10, a11, a12, 3, a14, s, p), sf, dr, tw || (d != 0 && d != 3)) else
  if (pfx w [45] && !(w.drop 1 == [])) = true then (foldC (w.drop 1) (a0, a1, a2, a3, a4, a5, a6, a7, a8, a9, a10, a11, a12, d, a14, s, p)).map fun o => (o, sf, dr, tw) else none
theorem word_eq (w : List UInt8) (hw : w.length ≤ 300) (o : OptsT) (sf dr : Int) (tw : Bool) (h1 : 0 ≤ sf ∧ sf ≤ 1000) (h2 : 0 ≤ dr ∧ dr ≤ 1000) :
    ∃ r, m_impl_parser_word w (boxOf o sf dr tw) = some r ∧ (match wordP w (o, sf, dr, tw) with | some st => r = (true, boxOf st.1 st.2.1 st.2.2.1 st.2.2.2, ()) | none => r.1 = false) := by
 obtain ⟨a0, a1, a2, a3, a4, a5, a6, a7, a8, a9, a10, a11, a12, d, a14, s, p⟩ := o
 unfold m_impl_parser_word
 rw [cutPrefix_eq, Option.bind_some]
 dsimp only
 cases hS : pfx w [45, 45, 115, 117, 102, 102, 105, 120, 61]
 case true =>
  refine ⟨_, rfl, ?_⟩
  simp only [wordP, hS, if_true, boxOf, cond_true]
  rw [wr _ (by omega)]; rfl
 rw [cond_false, cutPrefix_eq, Option.bind_some]
 dsimp only
 cases hD : pfx w [45, 45, 98, 97, 99, 107, 117, 112, 45, 100, 105, 114, 61]
 case true =>
  refine ⟨_, rfl, ?_⟩
  simp only [wordP, hS, hD, if_true, boxOf, cond_true, Bool.false_eq_true, if_false]
  rw [wr _ (by omega)]; rfl
 rw [cond_false]
 by_cases e1 : w = [45, 45, 115, 105, 122, 101, 45, 111, 110, 108, 121]
 ·subst e1; exact ⟨_, rfl, rfl⟩
 rw [show (w == [45, 45, 115, 105, 122, 101, 45, 111, 110, 108, 121]) = false by simpa using e1, cond_false]
 by_cases e2 : w = [45, 45, 101, 120, 105, 115, 116, 105, 110, 103]
 ·subst e2; exact ⟨_, rfl, rfl⟩
 rw [show (w == [45, 45, 101, 120, 105, 115, 116, 105, 110, 103]) = false by simpa using e2, cond_false]
 by_cases e3 : w = [45, 45, 105, 103, 110, 111, 114, 101, 45, 101, 120, 105, 115, 116, 105, 110, 103]
 ·subst e3; exact ⟨_, rfl, rfl⟩
 rw [show (w == [45, 45, 105, 103, 110, 111, 114, 101, 45, 101, 120, 105, 115, 116, 105, 110, 103]) = false by simpa using e3, cond_false]
 rw [show m_impl_deleteWords = some ([[], [45, 45, 100, 101, 108, 101, 116, 101, 45, 98, 101, 102, 111, 114, 101], [45, 45, 100, 101, 108, 101, 116, 101], [45, 45, 100, 101, 108, 101, 116, 101, 45, 97, 102, 116, 101, 114]], ()) from rfl, Option.bind_some]
 dsimp only
 rw [indexS_eq _ _ (by simp), Option.bind_some]
 dsimp only
 by_cases e4 : w = [45, 45, 100, 101, 108, 101, 116, 101, 45, 98, 101, 102, 111, 114, 101]
 ·subst e4
  have hx : fndW [[], [45, 45, 100, 101, 108, 101, 116, 101, 45, 98, 101, 102, 111, 114, 101], [45, 45, 100, 101, 108, 101, 116, 101], [45, 45, 100, 101, 108, 101, 116, 101, 45, 97, 102, 116, 101, 114]] 0 [45, 45, 100, 101, 108, 101, 116, 101, 45, 98, 101, 102, 111, 114, 101] = 1 := by simp [fndW]
  rw [hx]
  exact ⟨_, bind_eq (x := (((), 1, ()), (a0, a1, a2, a3, a4, a5, a6, a7, a8, a9, a10, a11, a12, d, a14, s, p, sf, dr, tw || (d != 0 && d != 1), ()), ())) (by simp only [boxOf]; cases tw <;> cases (d != 0) <;> rfl) rfl, rfl⟩
 by_cases e5 : w = [45, 45, 100, 101, 108, 101, 116, 101]
 ·subst e5
  have hx : fndW [[], [45, 45, 100, 101, 108, 101, 116, 101, 45, 98, 101, 102, 111, 114, 101], [45, 45, 100, 101, 108, 101, 116, 101], [45, 45, 100, 101, 108, 101, 116, 101, 45, 97, 102, 116, 101, 114]] 0 [45, 45, 100, 101, 108, 101, 116, 101] = 2 := by simp [fndW]
  rw [hx]
  exact ⟨_, bind_eq (x := (((), 2, ()), (a0, a1, a2, a3, a4, a5, a6, a7, a8, a9, a10, a11, a12, d, a14, s, p, sf, dr, tw || (d != 0 && d != 2), ()), ())) (by simp only [boxOf]; cases tw <;> cases (d != 0) <;> rfl) rfl, rfl⟩
 by_cases e6 : w = [45, 45, 100, 101, 108, 101, 116, 101, 45, 97, 102, 116, 101, 114]
 ·subst e6
  have hx : fndW [[], [45, 45, 100, 101, 108, 101, 116, 101, 45, 98, 101, 102, 111, 114, 101], [45, 45, 100, 101, 108, 101, 116, 101], [45, 45, 100, 101, 108, 101, 116, 101, 45, 97, 102, 116, 101, 114]] 0 [45, 45, 100, 101, 108, 101, 116, 101, 45, 97, 102, 116, 101, 114] = 3 := by simp [fndW]
  rw [hx]
  exact ⟨_, bind_eq (x := (((), 3, ()), (a0, a1, a2, a3, a4, a5, a6, a7, a8, a9, a10, a11, a12, d, a14, s, p, sf, dr, tw || (d != 0 && d != 3), ()), ())) (by simp only [boxOf]; cases tw <;> cases (d != 0) <;> rfl) rfl, rfl⟩
 have hf : decide (fndW [[], [45, 45, 100, 101, 108, 101, 116, 101, 45, 98, 101, 102, 111, 114, 101], [45, 45, 100, 101, 108, 101, 116, 101], [45, 45, 100, 101, 108, 101, 116, 101, 45, 97, 102, 116, 101, 114]] 0 w > 0) = false := by
  simp only [fndW, e4, e5, e6, if_false]
  split <;> rfl
 rw [hf, cond_false, cutPrefix_eq, Option.bind_some]
 dsimp only
 have hwp : wordP w ((a0, a1, a2, a3, a4, a5, a6, a7, a8, a9, a10, a11, a12, d, a14, s, p), sf, dr, tw) = if (pfx w [45] && !(w.drop 1 == [])) = true then (foldC (w.drop 1) (a0, a1, a2, a3, a4, a5, a6, a7, a8, a9, a10, a11, a12, d, a14, s, p)).map fun o => (o, sf, dr, tw) else none := by
  simp only [wordP, hS, hD, e1, e2, e3, e4, e5, e6, if_false, Bool.false_eq_true]
 rw [hwp]
 cases hP : pfx w [45]
 ·exact ⟨_, rfl, rfl⟩
 rw [cond_true, cond_true]
 obtain ⟨r, q1, q2⟩ := setLetters_eq (w.drop 1) (by rw [List.length_drop]; omega) (a0, a1, a2, a3, a4, a5, a6, a7, a8, a9, a10, a11, a12, d, a14, s, p) sf dr tw
 rw [show ([45] : List UInt8).length = 1 from rfl, q1]
 refine ⟨_, rfl, ?_⟩
 cases hc : foldC (w.drop 1) (a0, a1, a2, a3, a4, a5, a6, a7, a8, a9, a10, a11, a12, d, a14, s, p) with
 | none =>
  rw [hc] at q2
  cases hz : w.drop 1 == [] <;> exact q2
 | some o2 =>
  rw [hc] at q2
  subst q2
  cases hz : w.drop 1 == [] <;> rfl
theorem setC_keep {n : Int} {o o2 : OptsT} (h : setC n o = some o2) : o2.2.2.2.2.2.2.2.2.2.2.2.2.2.2.2 = o.2.2.2.2.2.2.2.2.2.2.2.2.2.2.2 := by
 obtain ⟨a0, a1, a2, a3, a4, a5, a6, a7, a8, a9, a10, a11, a12, d, a14, s, p⟩ := o
 by_cases h97 : n = 97
 ·subst h97
  have h2 : some (true, true, true, true, a4, a5, a6, a7, a8, a9, a10, a11, a12, d, a14, s, p) = some o2 := h
  rw [← Option.some.inj h2]
 by_cases h114 : n = 114
 ·subst h114
  have h2 : some (true, a1, a2, a3, a4, a5, a6, a7, a8, a9, a10, a11, a12, d, a14, s, p) = some o2 := h
  rw [← Option.some.inj h2]
 by_cases h108 : n = 108
 ·subst h108
  have h2 : some (a0, true, a2, a3, a4, a5, a6, a7, a8, a9, a10, a11, a12, d, a14, s, p) = some o2 := h
  rw [← Option.some.inj h2]
 by_cases h112 : n = 112
 ·subst h112
  have h2 : some (a0, a1, true, a3, a4, a5, a6, a7, a8, a9, a10, a11, a12, d, a14, s, p) = some o2 := h
  rw [← Option.some.inj h2]
 by_cases h116 : n = 116
 ·subst h116
  have h2 : some (a0, a1, a2, true, a4, a5, a6, a7, a8, a9, a10, a11, a12, d, a14, s, p) = some o2 := h
  rw [← Option.some.inj h2]
 by_cases h72 : n = 72
 ·subst h72
  have h2 : some (a0, a1, a2, a3, true, a5, a6, a7, a8, a9, a10, a11, a12, d, a14, s, p) = some o2 := h
  rw [← Option.some.inj h2]
 by_cases h99 : n = 99
 ·subst h99
  have h2 : some (a0, a1, a2, a3, a4, true, a6, a7, a8, a9, a10, a11, a12, d, a14, s, p) = some o2 := h
  rw [← Option.some.inj h2]
 by_cases h110 : n = 110
 ·subst h110
  have h2 : some (a0, a1, a2, a3, a4, a5, a6, true, a8, a9, a10, a11, a12, d, a14, s, p) = some o2 := h
  rw [← Option.some.inj h2]
 by_cases h87 : n = 87
 ·subst h87
  have h2 : some (a0, a1, a2, a3, a4, a5, a6, a7, true, a9, a10, a11, a12, d, a14, s, p) = some o2 := h
  rw [← Option.some.inj h2]
 by_cases h117 : n = 117
 ·subst h117
  have h2 : some (a0, a1, a2, a3, a4, a5, a6, a7, a8, true, a10, a11, a12, d, a14, s, p) = some o2 := h
  rw [← Option.some.inj h2]
 by_cases h121 : n = 121
 ·subst h121
  have h2 : some (a0, a1, a2, a3, a4, a5, a6, a7, a8, a9, a10, a11, true, d, a14, s, p) = some o2 := h
  rw [← Option.some.inj h2]
 by_cases h98 : n = 98
 ·subst h98
  have h2 : some (a0, a1, a2, a3, a4, a5, a6, a7, a8, a9, a10, a11, a12, d, true, s, p) = some o2 := h
  rw [← Option.some.inj h2]
 rw [show setC n (a0, a1, a2, a3, a4, a5, a6, a7, a8, a9, a10, a11, a12, d, a14, s, p) = none by simp only [setC, h97, h114, h108, h112, h116, h72, h99, h110, h87, h117, h121, h98, if_false]] at h
 cases h
theorem foldC_keep : ∀ {l : List UInt8} {o o2 : OptsT}, foldC l o = some o2 → o2.2.2.2.2.2.2.2.2.2.2.2.2.2.2.2 = o.2.2.2.2.2.2.2.2.2.2.2.2.2.2.2
 | [], o, o2, h => by simp only [foldC, Option.some.injEq] at h; subst h; rfl
 | c :: r, o, o2, h => by
  simp only [foldC] at h
  obtain ⟨o3, q1, q2⟩ := Option.bind_eq_some_iff.1 h
  rw [foldC_keep q2, setC_keep q1]
def SInv (i : Nat) (st : ST) : Prop := (0 ≤ st.2.1 ∧ st.2.1 ≤ i) ∧ (0 ≤ st.2.2.1 ∧ st.2.2.1 ≤ i) ∧ st.1.2.2.2.2.2.2.2.2.2.2.2.2.2.2.2.1.length ≤ 300 ∧ st.1.2.2.2.2.2.2.2.2.2.2.2.2.2.2.2.2.length ≤ 300
theorem wordP_inv {w : List UInt8} (hw : w.length ≤ 300) {i : Nat} {st st2 : ST} (hi : SInv i st) (h : wordP w st = some st2) : SInv (i + 1) st2 := by
 obtain ⟨⟨a0, a1, a2, a3, a4, a5, a6, a7, a8, a9, a10, a11, a12, d, a14, s, p⟩, sf, dr, tw⟩ := st
 obtain ⟨⟨g1, g2⟩, ⟨g3, g4⟩, g5, g6⟩ := hi
 dsimp only at g1 g2 g3 g4 g5 g6
 unfold wordP at h
 simp only at h
 have q : ∀ j, (w.drop j).length ≤ 300 := fun j => by rw [List.length_drop]; omega
 repeat' split at h
 all_goals try (simp only [Option.some.injEq] at h; subst h; exact ⟨⟨by dsimp only; omega, by dsimp only; omega⟩, ⟨by dsimp only; omega, by dsimp only; omega⟩, by first | exact g5 | exact q _, by first | exact g6 | exact q _⟩)
 ·cases hc : foldC (w.drop 1) (a0, a1, a2, a3, a4, a5, a6, a7, a8, a9, a10, a11, a12, d, a14, s, p) with
  | none => rw [hc] at h; cases h
  | some o2 =>
   rw [hc] at h
   simp only [Option.map_some, Option.some.injEq] at h
   subst h
   have hk := foldC_keep hc
   refine ⟨⟨by dsimp only; omega, by dsimp only; omega⟩, ⟨by dsimp only; omega, by dsimp only; omega⟩, ?_, ?_⟩
   ·dsimp only; rw [hk]; exact g5
   ·dsimp only; rw [hk]; exact g6
 ·cases h
set_option maxRecDepth 20000
set_option maxHeartbeats 1000000
def zeroO : OptsT := (false, false, false, false, false, false, false, false, false, false, false, false, false, (0 : Int), false, ([] : List UInt8), ([] : List UInt8))
def foldW : List (List UInt8) → ST → Option ST
 | [], st => some st
 | w :: r, st => (wordP w st).bind (foldW r)
def finP : ST → OptsT × Int
 | ((a0, a1, a2, a3, a4, a5, a6, a7, a8, a9, a10, a11, a12, d, a14, s, p), sf, dr, tw) =>
  if tw = true ∨ sf > 1 ∨ dr > 1 then (zeroO, 2) else
  if optsOk (a0, a1, a2, a3, a4, a5, a6, a7, a8, a9, a10, a11, a12, d, a14, (bif a14 && (sf == 0 && dr == 0) then [46, 98, 97, 107] else s), p) = true then ((a0, a1, a2, a3, a4, a5, a6, a7, a8, a9, a10, a11, a12, d, a14, (bif a14 && (sf == 0 && dr == 0) then [46, 98, 97, 107] else s), p), 0) else (zeroO, 3)
def wordsL (line : List UInt8) : List (List UInt8) := bif line == [] then [] else splitW line
def parseP (line : List UInt8) : OptsT × Int := if line.length > 300 then (zeroO, 1) else match foldW (wordsL line) (zeroO, 0, 0, false) with | none => (zeroO, 1) | some st => finP st
theorem wordsL_len {line : List UInt8} (h : line.length ≤ 300) : (wordsL line).length ≤ 301 ∧ ∀ w ∈ wordsL line, w.length ≤ 300 := by
 unfold wordsL
 cases line == []
 ·simp only [cond_false]
  have := splitW_len line
  exact ⟨by omega, fun w hw => Nat.le_trans (splitW_mem_len line w hw) h⟩
 ·simp
theorem foldW_inv : ∀ (l : List (List UInt8)) (i : Nat) (st st2 : ST), (∀ w ∈ l, w.length ≤ 300) → SInv i st → foldW l st = some st2 → SInv (i + l.length) st2
 | [], i, st, st2, _, hi, h => by simp only [foldW, Option.some.injEq] at h; subst h; exact hi
 | w :: r, i, st, st2, hw, hi, h => by
  simp only [foldW] at h
  obtain ⟨st3, q1, q2⟩ := Option.bind_eq_some_iff.1 h
  have := foldW_inv r (i + 1) st3 st2 (fun x hx => hw x (List.mem_cons_of_mem _ hx)) (wordP_inv (hw w (List.mem_cons_self ..)) hi q1) q2
  rw [List.length_cons, show i + (r.length + 1) = i + 1 + r.length by omega]; exact this
theorem inv0 : SInv 0 (zeroO, 0, 0, false) := ⟨⟨by decide, by decide⟩, ⟨by decide, by decide⟩, by simp [zeroO], by simp [zeroO]⟩
theorem impl_parse (line : List UInt8) : m_impl_ParseOpts line = some (((parseP line).1, (parseP line).2, ()), ()) := by
 unfold m_impl_ParseOpts parseP
 by_cases hL : line.length > 300
 ·rw [decide_eq_true (by omega : (line.length : Int) > 300), if_pos hL]; rfl
 rw [decide_eq_false (by omega : ¬ (line.length : Int) > 300), if_neg hL, cond_false]
 have hlen : line.length ≤ 300 := by omega
 obtain ⟨hw1, hw2⟩ := wordsL_len hlen
 refine joinC_ex (Q := fun x => match foldW (wordsL line) (zeroO, 0, 0, false) with | some st => x = Sum.inl (((), (), ()), (false, false, false, false, false, false, false, false, false, false, false, false, false, (0 : Int), false, ([] : List UInt8), ([] : List UInt8), ()), boxOf st.1 st.2.1 st.2.2.1 st.2.2.2, ()) | none => x = Sum.inr ((zeroO, (1 : Int), ()), ())) ?_ ?_
 ·by_cases he : line = []
  ·subst he; exact ⟨_, rfl, rfl⟩
  ·have hne : (line == nilOf UInt8) = false := by simpa [nilOf] using he
   have hwl : wordsL line = splitW line := by unfold wordsL; rw [show (line == []) = false by simpa using he, cond_false]
   rw [hwl] at hw1 hw2 ⊢
   rw [hne, Bool.not_false, cond_true, split_eqW line (by omega), Option.bind_some]
   dsimp only
   generalize splitW line = W at hw1 hw2 ⊢
   refine joinC_some (Q := fun x => match foldW W (zeroO, 0, 0, false) with | some st => x = Sum.inl (((), (), ()), (false, false, false, false, false, false, false, false, false, false, false, false, false, (0 : Int), false, ([] : List UInt8), ([] : List UInt8), ()), boxOf st.1 st.2.1 st.2.2.1 st.2.2.2, ()) | none => x = Sum.inr (Sum.inr ((zeroO, (1 : Int), ()), ()))) (
    loopC_some' _ (fun m t => ∃ (i : Nat) (st : ST), i ≤ W.length ∧ m = W.length - i ∧ SInv i st ∧ foldW (W.drop i) st = foldW W (zeroO, 0, 0, false) ∧ t = (((), (), W, (W.length : Int), (i : Int), ()), (false, false, false, false, false, false, false, false, false, false, false, false, false, (0 : Int), false, ([] : List UInt8), ([] : List UInt8), ()), boxOf st.1 st.2.1 st.2.2.1 st.2.2.2, ()))
     (fun x => match foldW W (zeroO, 0, 0, false) with | some st => x = Sum.inl (((), (), ()), (false, false, false, false, false, false, false, false, false, false, false, false, false, (0 : Int), false, ([] : List UInt8), ([] : List UInt8), ()), boxOf st.1 st.2.1 st.2.2.1 st.2.2.2, ()) | none => x = Sum.inr (Sum.inr ((zeroO, (1 : Int), ()), ()))) ?step _ W.length _ ⟨0, (zeroO, 0, 0, false), by omega, by omega, inv0, rfl, rfl⟩ (by omega)) ?fin
   case step =>
    rintro m t k ⟨i, st, hi, rfl, hv, hf, rfl⟩ hk
    dsimp only
    by_cases hlt : i < W.length
    ·have hd : decide ((i : Int) < (W.length : Int)) = true := by simpa using hlt
     rw [hd, cond_true, if_pos ⟨by omega, by omega⟩, wr1 _ (by omega)]
     simp only [Int.toNat_natCast]
     have hm : (W.getD i (nilOf UInt8)).length ≤ 300 := hw2 _ (getD_mem (nilOf UInt8) hlt)
     rw [drop_getD (nilOf UInt8) hlt] at hf
     simp only [foldW] at hf
     generalize W.getD i (nilOf UInt8) = w at hm hf
     obtain ⟨o, sf, dr, tw⟩ := st
     obtain ⟨⟨g1, g2⟩, ⟨g3, g4⟩, _⟩ := id hv
     dsimp only at g1 g2 g3 g4
     obtain ⟨r, q1, q2⟩ := word_eq w hm o sf dr tw ⟨g1, by omega⟩ ⟨g3, by omega⟩
     dsimp only
     rw [q1, Option.bind_some]
     cases hwp : wordP w (o, sf, dr, tw) with
     | none =>
      rw [hwp] at q2 hf
      dsimp only at q2
      rw [q2, ← hf]
      exact ⟨_, rfl, rfl⟩
     | some st2 =>
      rw [hwp] at q2 hf
      dsimp only at q2
      rw [q2]
      exact hk _ _ (by omega) ⟨i + 1, st2, by omega, rfl, wordP_inv hm hv hwp, hf, rfl⟩
    ·have hd : decide ((i : Int) < (W.length : Int)) = false := by simpa using Nat.le_of_not_lt hlt
     have : W.drop i = [] := List.drop_eq_nil_of_le (by omega)
     rw [this] at hf
     rw [hd, cond_false, ← hf]
     exact ⟨_, rfl, rfl⟩
   case fin =>
    intro x hx
    cases hff : foldW W (zeroO, 0, 0, false) with
    | none => rw [hff] at hx; dsimp only at hx; subst hx; exact ⟨_, rfl, rfl⟩
    | some st => rw [hff] at hx; dsimp only at hx; subst hx; exact ⟨_, rfl, rfl⟩
 ·intro x hx
  cases hff : foldW (wordsL line) (zeroO, 0, 0, false) with
  | none => rw [hff] at hx; dsimp only at hx; subst hx; rfl
  | some st =>
   rw [hff] at hx; dsimp only at hx; subst hx
   have hv := foldW_inv _ 0 _ st hw2 inv0 hff
   obtain ⟨⟨a0, a1, a2, a3, a4, a5, a6, a7, a8, a9, a10, a11, a12, d, a14, s, p⟩, sf, dr, tw⟩ := st
   obtain ⟨⟨g1, g2⟩, ⟨g3, g4⟩, g5, g6⟩ := hv
   dsimp only at g1 g2 g3 g4 g5 g6
   dsimp only [boxOf, joinC]
   unfold finP
   dsimp only
   refine bind_eq (x := (((), (), (tw || (decide (sf > 1) || decide (dr > 1))), ()), (false, false, false, false, false, false, false, false, false, false, false, false, false, (0 : Int), false, ([] : List UInt8), ([] : List UInt8), ()), (a0, a1, a2, a3, a4, a5, a6, a7, a8, a9, a10, a11, a12, d, a14, s, p, sf, dr, tw, ()), ())) ?_ ?_
   ·cases hs : decide (sf > 1) <;> cases hdr : decide (dr > 1) <;> cases tw <;> rfl
   dsimp only
   by_cases ht : tw = true ∨ sf > 1 ∨ dr > 1
   ·have : (tw || (decide (sf > 1) || decide (dr > 1))) = true := by simpa using ht
    rw [this, if_pos ht]; rfl
   have : (tw || (decide (sf > 1) || decide (dr > 1))) = false := by
    cases hq : (tw || (decide (sf > 1) || decide (dr > 1)))
    ·rfl
    ·exact absurd (by simpa using hq) ht
   rw [this, if_neg ht, cond_false]
   refine bind_eq (x := (((), (), (a14 && (sf == 0 && dr == 0)), ()), (false, false, false, false, false, false, false, false, false, false, false, false, false, (0 : Int), false, ([] : List UInt8), ([] : List UInt8), ()), (a0, a1, a2, a3, a4, a5, a6, a7, a8, a9, a10, a11, a12, d, a14, s, p, sf, dr, tw, ()), ())) ?_ ?_
   ·cases a14
    ·rfl
    ·cases sf == 0 <;> rfl
   dsimp only
   generalize hs2 : (bif a14 && (sf == 0 && dr == 0) then [46, 98, 97, 107] else s) = s2
   have hs2l : s2.length ≤ 300 := by rw [← hs2]; cases a14 && (sf == 0 && dr == 0) <;> simp [g5]
   refine bind_eq (x := (((), (), ()), (false, false, false, false, false, false, false, false, false, false, false, false, false, (0 : Int), false, ([] : List UInt8), ([] : List UInt8), ()), (a0, a1, a2, a3, a4, a5, a6, a7, a8, a9, a10, a11, a12, d, a14, s2, p, sf, dr, tw, ()), ())) ?_ ?_
   ·rw [← hs2]; cases a14 && (sf == 0 && dr == 0) <;> rfl
   dsimp only
   rw [impl_optsOk _ (by dsimp only; omega) (by dsimp only; omega), Option.bind_some]
   dsimp only
   cases optsOk (a0, a1, a2, a3, a4, a5, a6, a7, a8, a9, a10, a11, a12, d, a14, s2, p) <;> rfl
set_option maxRecDepth 20000
set_option maxHeartbeats 1000000
abbrev B17T := Bool × Bool × Bool × Bool × Bool × Bool × Bool × Bool × Bool × Bool × Bool × Bool × Bool × Int × Bool × List UInt8 × List UInt8 × Unit
def box17 : OptsT → B17T
 | (a0, a1, a2, a3, a4, a5, a6, a7, a8, a9, a10, a11, a12, d, a14, s, p) => (a0, a1, a2, a3, a4, a5, a6, a7, a8, a9, a10, a11, a12, d, a14, s, p, ())
theorem spec_parse (line : List UInt8) : m_spec_ParseOpts line = some (((parseP line).1, (parseP line).2, ()), ()) := by
 unfold m_spec_ParseOpts parseP
 by_cases hL : line.length > 300
 ·rw [decide_eq_true (by omega : (line.length : Int) > 300), if_pos hL]; rfl
 rw [decide_eq_false (by omega : ¬ (line.length : Int) > 300), if_neg hL, cond_false]
 have hlen : line.length ≤ 300 := by omega
 obtain ⟨hw1, hw2⟩ := wordsL_len hlen
 rw [spec_splitW line (by omega), Option.bind_some]
 refine bind_eq (x := (((), (), wordsL line, ()), (false, false, false, false, false, false, false, false, false, false, false, false, false, (0 : Int), false, ([] : List UInt8), ([] : List UInt8), ()), (false, false, false, false, false, false, false, false, false, false, false, false, false, (0 : Int), false, ([] : List UInt8), ([] : List UInt8), ()), ())) (by unfold wordsL; cases h : line == [] <;> simp [nilOf, h]) ?_
 dsimp only
 generalize wordsL line = W at hw1 hw2 ⊢
 refine joinC_ex (Q := fun x => match foldW W (zeroO, 0, 0, false) with | some st => x = Sum.inl (((), (), st.2.1, st.2.2.1, st.2.2.2, ()), (false, false, false, false, false, false, false, false, false, false, false, false, false, (0 : Int), false, ([] : List UInt8), ([] : List UInt8), ()), box17 st.1, ()) | none => x = Sum.inr ((zeroO, (1 : Int), ()), ())) (
  loopC_some' _ (fun m t => ∃ (i : Nat) (st : ST), i ≤ W.length ∧ m = W.length - i ∧ SInv i st ∧ foldW (W.drop i) st = foldW W (zeroO, 0, 0, false) ∧ t = (((), (), W, st.2.1, st.2.2.1, st.2.2.2, (i : Int), ()), (false, false, false, false, false, false, false, false, false, false, false, false, false, (0 : Int), false, ([] : List UInt8), ([] : List UInt8), ()), box17 st.1, ()))
   (fun x => match foldW W (zeroO, 0, 0, false) with | some st => x = Sum.inl (((), (), st.2.1, st.2.2.1, st.2.2.2, ()), (false, false, false, false, false, false, false, false, false, false, false, false, false, (0 : Int), false, ([] : List UInt8), ([] : List UInt8), ()), box17 st.1, ()) | none => x = Sum.inr ((zeroO, (1 : Int), ()), ())) ?step _ W.length _ ⟨0, (zeroO, 0, 0, false), by omega, by omega, inv0, rfl, rfl⟩ (by omega)) ?fin
 case step =>
  rintro m t k ⟨i, st, hi, rfl, hv, hf, rfl⟩ hk
  obtain ⟨o, sf, dr, tw⟩ := st
  dsimp only
  by_cases hnl : ¬ i < W.length
  ·have hd : decide ((i : Int) < (W.length : Int)) = false := by simpa using Nat.le_of_not_lt hnl
   have : W.drop i = [] := List.drop_eq_nil_of_le (by omega)
   rw [this] at hf
   rw [hd, cond_false, ← hf]
   exact ⟨_, rfl, rfl⟩
  have hlt : i < W.length := Classical.not_not.1 hnl
  have hd : decide ((i : Int) < (W.length : Int)) = true := by simpa using hlt
  rw [hd, cond_true, if_pos ⟨by omega, by omega⟩]
  simp only [Int.toNat_natCast]
  have hm : (W.getD i (nilOf UInt8)).length ≤ 300 := hw2 _ (getD_mem (nilOf UInt8) hlt)
  rw [drop_getD (nilOf UInt8) hlt] at hf
  simp only [foldW] at hf
  generalize W.getD i (nilOf UInt8) = w at hm hf ⊢
  refine joinC_some (Q := fun x => match wordP w (o, sf, dr, tw) with | some st2 => x = Sum.inl ((((), (), W, st2.2.1, st2.2.2.1, st2.2.2.2, (i : Int), ()), (false, false, false, false, false, false, false, false, false, false, false, false, false, (0 : Int), false, ([] : List UInt8), ([] : List UInt8), ()), box17 st2.1, ())) | none => x = Sum.inr (Sum.inr ((zeroO, (1 : Int), ()), ()))) ?body ?next
  case next =>
   intro x hx
   cases hwp : wordP w (o, sf, dr, tw) with
   | none =>
    rw [hwp] at hx hf; dsimp only at hx; subst hx
    rw [← hf]
    exact ⟨_, rfl, rfl⟩
   | some st2 =>
    rw [hwp] at hx hf; dsimp only at hx; subst hx
    dsimp only [joinC]
    rw [wr1 _ (by omega)]
    exact hk _ _ (by omega) ⟨i + 1, st2, by omega, rfl, wordP_inv hm hv hwp, hf, rfl⟩
  clear hk hf
  obtain ⟨⟨g1, g2⟩, ⟨g3, g4⟩, _⟩ := hv
  dsimp only at g1 g2 g3 g4
  obtain ⟨a0, a1, a2, a3, a4, a5, a6, a7, a8, a9, a10, a11, a12, d, a14, s, p⟩ := o
  by_cases e1 : w = [45, 45, 115, 105, 122, 101, 45, 111, 110, 108, 121]
  ·subst e1; exact ⟨_, rfl, rfl⟩
  rw [show (w == [45, 45, 115, 105, 122, 101, 45, 111, 110, 108, 121]) = false by simpa using e1, cond_false]
  by_cases e2 : w = [45, 45, 101, 120, 105, 115, 116, 105, 110, 103]
  ·subst e2; exact ⟨_, rfl, rfl⟩
  rw [show (w == [45, 45, 101, 120, 105, 115, 116, 105, 110, 103]) = false by simpa using e2, cond_false]
  by_cases e3 : w = [45, 45, 105, 103, 110, 111, 114, 101, 45, 101, 120, 105, 115, 116, 105, 110, 103]
  ·subst e3; exact ⟨_, rfl, rfl⟩
  rw [show (w == [45, 45, 105, 103, 110, 111, 114, 101, 45, 101, 120, 105, 115, 116, 105, 110, 103]) = false by simpa using e3, cond_false]
  by_cases e5 : w = [45, 45, 100, 101, 108, 101, 116, 101]
  ·subst e5
   exact ⟨_, bind_eq (x := (((), (), W, sf, dr, tw, (i : Int), [45, 45, 100, 101, 108, 101, 116, 101], (2 : Int), ()), (false, false, false, false, false, false, false, false, false, false, false, false, false, (0 : Int), false, ([] : List UInt8), ([] : List UInt8), ()), (a0, a1, a2, a3, a4, a5, a6, a7, a8, a9, a10, a11, a12, d, a14, s, p, ()), ())) rfl (bind_eq (x := (((), (), W, sf, dr, tw, (i : Int), (2 : Int), (d != 0 && d != 2), ()), (false, false, false, false, false, false, false, false, false, false, false, false, false, (0 : Int), false, ([] : List UInt8), ([] : List UInt8), ()), (a0, a1, a2, a3, a4, a5, a6, a7, a8, a9, a10, a11, a12, d, a14, s, p, ()), ())) (by dsimp only [box17]; cases (d != 0) <;> rfl) (bind_eq (x := (((), (), W, sf, dr, tw || (d != 0 && d != 2), (i : Int), (2 : Int), ()), (false, false, false, false, false, false, false, false, false, false, false, false, false, (0 : Int), false, ([] : List UInt8), ([] : List UInt8), ()), (a0, a1, a2, a3, a4, a5, a6, a7, a8, a9, a10, a11, a12, d, a14, s, p, ()), ())) (by cases tw <;> cases (d != 0 && d != 2) <;> rfl) rfl)), rfl⟩
  by_cases e4 : w = [45, 45, 100, 101, 108, 101, 116, 101, 45, 98, 101, 102, 111, 114, 101]
  ·subst e4
   exact ⟨_, bind_eq (x := (((), (), W, sf, dr, tw, (i : Int), [45, 45, 100, 101, 108, 101, 116, 101, 45, 98, 101, 102, 111, 114, 101], (1 : Int), ()), (false, false, false, false, false, false, false, false, false, false, false, false, false, (0 : Int), false, ([] : List UInt8), ([] : List UInt8), ()), (a0, a1, a2, a3, a4, a5, a6, a7, a8, a9, a10, a11, a12, d, a14, s, p, ()), ())) rfl (bind_eq (x := (((), (), W, sf, dr, tw, (i : Int), (1 : Int), (d != 0 && d != 1), ()), (false, false, false, false, false, false, false, false, false, false, false, false, false, (0 : Int), false, ([] : List UInt8), ([] : List UInt8), ()), (a0, a1, a2, a3, a4, a5, a6, a7, a8, a9, a10, a11, a12, d, a14, s, p, ()), ())) (by dsimp only [box17]; cases (d != 0) <;> rfl) (bind_eq (x := (((), (), W, sf, dr, tw || (d != 0 && d != 1), (i : Int), (1 : Int), ()), (false, false, false, false, false, false, false, false, false, false, false, false, false, (0 : Int), false, ([] : List UInt8), ([] : List UInt8), ()), (a0, a1, a2, a3, a4, a5, a6, a7, a8, a9, a10, a11, a12, d, a14, s, p, ()), ())) (by cases tw <;> cases (d != 0 && d != 1) <;> rfl) rfl)), rfl⟩
  by_cases e6 : w = [45, 45, 100, 101, 108, 101, 116, 101, 45, 97, 102, 116, 101, 114]
  ·subst e6
   exact ⟨_, bind_eq (x := (((), (), W, sf, dr, tw, (i : Int), [45, 45, 100, 101, 108, 101, 116, 101, 45, 97, 102, 116, 101, 114], (3 : Int), ()), (false, false, false, false, false, false, false, false, false, false, false, false, false, (0 : Int), false, ([] : List UInt8), ([] : List UInt8), ()), (a0, a1, a2, a3, a4, a5, a6, a7, a8, a9, a10, a11, a12, d, a14, s, p, ()), ())) rfl (bind_eq (x := (((), (), W, sf, dr, tw, (i : Int), (3 : Int), (d != 0 && d != 3), ()), (false, false, false, false, false, false, false, false, false, false, false, false, false, (0 : Int), false, ([] : List UInt8), ([] : List UInt8), ()), (a0, a1, a2, a3, a4, a5, a6, a7, a8, a9, a10, a11, a12, d, a14, s, p, ()), ())) (by dsimp only [box17]; cases (d != 0) <;> rfl) (bind_eq (x := (((), (), W, sf, dr, tw || (d != 0 && d != 3), (i : Int), (3 : Int), ()), (false, false, false, false, false, false, false, false, false, false, false, false, false, (0 : Int), false, ([] : List UInt8), ([] : List UInt8), ()), (a0, a1, a2, a3, a4, a5, a6, a7, a8, a9, a10, a11, a12, d, a14, s, p, ()), ())) (by cases tw <;> cases (d != 0 && d != 3) <;> rfl) rfl)), rfl⟩
  refine bind_some' (Q := fun x => x = (((), (), W, sf, dr, tw, (i : Int), w, (0 : Int), ()), (false, false, false, false, false, false, false, false, false, false, false, false, false, (0 : Int), false, ([] : List UInt8), ([] : List UInt8), ()), (a0, a1, a2, a3, a4, a5, a6, a7, a8, a9, a10, a11, a12, d, a14, s, p, ()), ())) ⟨_, by
   rw [show (w == [45, 45, 100, 101, 108, 101, 116, 101]) = false by simpa using e5, show (w == [45, 45, 100, 101, 108, 101, 116, 101, 45, 98, 101, 102, 111, 114, 101]) = false by simpa using e4, show (w == [45, 45, 100, 101, 108, 101, 116, 101, 45, 97, 102, 116, 101, 114]) = false by simpa using e6]; rfl, rfl⟩ ?_
  rintro _ rfl
  dsimp only
  rw [show ((0 : Int) != 0) = false from rfl, cond_false, after_eq, Option.bind_some]
  dsimp only
  cases hS : pfx w [45, 45, 115, 117, 102, 102, 105, 120, 61]
  case true =>
   refine ⟨_, rfl, ?_⟩
   simp only [wordP, hS, if_true, box17, cond_true]
   rw [wr _ (by omega)]; rfl
  rw [cond_false, after_eq, Option.bind_some]
  dsimp only
  cases hD : pfx w [45, 45, 98, 97, 99, 107, 117, 112, 45, 100, 105, 114, 61]
  case true =>
   refine ⟨_, rfl, ?_⟩
   simp only [wordP, hS, hD, if_true, box17, cond_true, Bool.false_eq_true, if_false]
   rw [wr _ (by omega)]; rfl
  rw [cond_false]
  have hwp : wordP w ((a0, a1, a2, a3, a4, a5, a6, a7, a8, a9, a10, a11, a12, d, a14, s, p), sf, dr, tw) = if (pfx w [45] && !(w.drop 1 == [])) = true then (foldC (w.drop 1) (a0, a1, a2, a3, a4, a5, a6, a7, a8, a9, a10, a11, a12, d, a14, s, p)).map fun o => (o, sf, dr, tw) else none := by
   simp only [wordP, hS, hD, e1, e2, e3, e4, e5, e6, if_false, Bool.false_eq_true]
  rw [hwp]
  generalize hcb : (pfx w [45] && !(w.drop 1 == [])) = cb
  refine bind_some' (Q := fun x => x = (((), (), W, sf, dr, tw, (i : Int), w, !cb, ()), (false, false, false, false, false, false, false, false, false, false, false, false, false, (0 : Int), false, ([] : List UInt8), ([] : List UInt8), ()), (a0, a1, a2, a3, a4, a5, a6, a7, a8, a9, a10, a11, a12, d, a14, s, p, ()), ())) ?_ ?_
  ·refine ⟨_, ?_, rfl⟩
   match w, hcb with
   | [], h => subst h; rfl
   | [c], h =>
    have : cb = false := by rw [← h]; simp
    subst this; rfl
   | c :: c2 :: r, h =>
    have h2 : decide (((c :: c2 :: r).length : Int) < 2) = false := by simp; omega
    rw [h2, cond_false, if_pos (by simp; omega)]
    have : ((c.toNat : Int) != 45) = !cb := by
     rw [← h]
     have e : (c == 45) = ((c.toNat : Int) == 45) := by
      by_cases q : c = 45
      ·subst q; rfl
      ·have q2 : ¬ (c.toNat : Int) = 45 := fun h => q (UInt8.toNat_inj.1 (by simpa using Int.ofNat.inj h))
       rw [show (c == 45) = false by simpa using q, show ((c.toNat : Int) == 45) = false by simpa using q2]
     simp only [pfx, bne, List.take_succ_cons, List.take_zero, List.length_cons, List.length_nil, List.drop_succ_cons, List.drop_zero, ← e]
     cases hc : c == 45 <;> simp_all
    rw [← this]; rfl
  rintro _ rfl
  dsimp only
  cases cb
  ·exact ⟨_, rfl, rfl⟩
  rw [Bool.not_true, cond_false]
  simp only [if_true]
  have hwne : 1 ≤ w.length := by
   cases w with
   | nil => simp at hcb
   | cons c r => simp
  refine joinC_some (Q := fun x => match foldC (w.drop 1) (a0, a1, a2, a3, a4, a5, a6, a7, a8, a9, a10, a11, a12, d, a14, s, p) with | some o2 => x = Sum.inl (((), (), W, sf, dr, tw, (i : Int), ()), (false, false, false, false, false, false, false, false, false, false, false, false, false, (0 : Int), false, ([] : List UInt8), ([] : List UInt8), ()), box17 o2, ()) | none => x = Sum.inr (Sum.inr (Sum.inr ((zeroO, (1 : Int), ()), ())))) (
   loopC_some' _ (fun m t => ∃ (j : Nat) (oj : OptsT), 1 ≤ j ∧ j ≤ w.length ∧ m = w.length - j ∧ foldC (w.drop j) oj = foldC (w.drop 1) (a0, a1, a2, a3, a4, a5, a6, a7, a8, a9, a10, a11, a12, d, a14, s, p) ∧ t = (((), (), W, sf, dr, tw, (i : Int), w, (j : Int), ()), (false, false, false, false, false, false, false, false, false, false, false, false, false, (0 : Int), false, ([] : List UInt8), ([] : List UInt8), ()), box17 oj, ()))
    (fun x => match foldC (w.drop 1) (a0, a1, a2, a3, a4, a5, a6, a7, a8, a9, a10, a11, a12, d, a14, s, p) with | some o2 => x = Sum.inl (((), (), W, sf, dr, tw, (i : Int), ()), (false, false, false, false, false, false, false, false, false, false, false, false, false, (0 : Int), false, ([] : List UInt8), ([] : List UInt8), ()), box17 o2, ()) | none => x = Sum.inr (Sum.inr (Sum.inr ((zeroO, (1 : Int), ()), ())))) ?lstep _ (w.length - 1) _ ⟨1, (a0, a1, a2, a3, a4, a5, a6, a7, a8, a9, a10, a11, a12, d, a14, s, p), by omega, hwne, rfl, rfl, rfl⟩ (by omega)) ?lfin
  case lstep =>
   rintro m t k ⟨j, oj, hj1, hj2, rfl, hf, rfl⟩ hk
   dsimp only
   by_cases hlt : j < w.length
   ·have hd : decide ((j : Int) < (w.length : Int)) = true := by simpa using hlt
    rw [hd, cond_true, if_pos ⟨by omega, by omega⟩, wr1 _ (by omega)]
    simp only [Int.toNat_natCast]
    rw [drop_getD (0 : UInt8) hlt] at hf
    simp only [foldC] at hf
    generalize ((w.getD j 0).toNat : Int) = n at hf ⊢
    refine bind_some' (Q := fun x => x = (((setC n oj).getD oj, (setC n oj).isSome, ()), ())) ⟨_, spec_letter oj n, rfl⟩ ?_
    rintro _ rfl
    dsimp only
    cases hc : setC n oj with
    | none =>
     rw [hc] at hf
     rw [← hf]
     exact ⟨_, rfl, rfl⟩
    | some o3 =>
     rw [hc] at hf
     exact hk _ _ (by omega) ⟨j + 1, o3, by omega, by omega, rfl, hf, rfl⟩
   ·have hd : decide ((j : Int) < (w.length : Int)) = false := by simpa using Nat.le_of_not_lt hlt
    have : w.drop j = [] := List.drop_eq_nil_of_le (by omega)
    rw [this] at hf
    rw [hd, cond_false, ← hf]
    exact ⟨_, rfl, rfl⟩
  case lfin =>
   intro x hx
   cases hc : foldC (w.drop 1) (a0, a1, a2, a3, a4, a5, a6, a7, a8, a9, a10, a11, a12, d, a14, s, p) with
   | none => rw [hc] at hx; dsimp only at hx; subst hx; exact ⟨_, rfl, rfl⟩
   | some o2 => rw [hc] at hx; dsimp only at hx; subst hx; exact ⟨_, rfl, rfl⟩
 case fin =>
  intro x hx
  cases hff : foldW W (zeroO, 0, 0, false) with
  | none => rw [hff] at hx; dsimp only at hx; subst hx; rfl
  | some st =>
   rw [hff] at hx; dsimp only at hx; subst hx
   have hv := foldW_inv _ 0 _ st hw2 inv0 hff
   obtain ⟨⟨a0, a1, a2, a3, a4, a5, a6, a7, a8, a9, a10, a11, a12, d, a14, s, p⟩, sf, dr, tw⟩ := st
   obtain ⟨⟨g1, g2⟩, ⟨g3, g4⟩, g5, g6⟩ := hv
   dsimp only at g1 g2 g3 g4 g5 g6
   dsimp only [box17, joinC]
   unfold finP
   dsimp only
   refine bind_eq (x := (((), (), sf, dr, (tw || (decide (sf > 1) || decide (dr > 1))), ()), (false, false, false, false, false, false, false, false, false, false, false, false, false, (0 : Int), false, ([] : List UInt8), ([] : List UInt8), ()), (a0, a1, a2, a3, a4, a5, a6, a7, a8, a9, a10, a11, a12, d, a14, s, p, ()), ())) ?_ ?_
   ·cases hs : decide (sf > 1) <;> cases hdr : decide (dr > 1) <;> cases tw <;> rfl
   dsimp only
   by_cases ht : tw = true ∨ sf > 1 ∨ dr > 1
   ·have : (tw || (decide (sf > 1) || decide (dr > 1))) = true := by simpa using ht
    rw [this, if_pos ht]; rfl
   have : (tw || (decide (sf > 1) || decide (dr > 1))) = false := by
    cases hq : (tw || (decide (sf > 1) || decide (dr > 1)))
    ·rfl
    ·exact absurd (by simpa using hq) ht
   rw [this, if_neg ht, cond_false]
   refine bind_eq (x := (((), (), (a14 && (sf == 0 && dr == 0)), ()), (false, false, false, false, false, false, false, false, false, false, false, false, false, (0 : Int), false, ([] : List UInt8), ([] : List UInt8), ()), (a0, a1, a2, a3, a4, a5, a6, a7, a8, a9, a10, a11, a12, d, a14, s, p, ()), ())) ?_ ?_
   ·cases a14
    ·rfl
    ·cases sf == 0 <;> rfl
   dsimp only
   generalize hs2 : (bif a14 && (sf == 0 && dr == 0) then [46, 98, 97, 107] else s) = s2
   have hs2l : s2.length ≤ 300 := by rw [← hs2]; cases a14 && (sf == 0 && dr == 0) <;> simp [g5]
   refine bind_eq (x := (((), (), ()), (false, false, false, false, false, false, false, false, false, false, false, false, false, (0 : Int), false, ([] : List UInt8), ([] : List UInt8), ()), (a0, a1, a2, a3, a4, a5, a6, a7, a8, a9, a10, a11, a12, d, a14, s2, p, ()), ())) ?_ ?_
   ·rw [← hs2]; cases a14 && (sf == 0 && dr == 0) <;> rfl
   dsimp only
   rw [spec_optsOk _ (by dsimp only; omega) (by dsimp only; omega), Option.bind_some]
   dsimp only
   cases optsOk (a0, a1, a2, a3, a4, a5, a6, a7, a8, a9, a10, a11, a12, d, a14, s2, p) <;> rfl
theorem eqOpts_self (o : OptsT) : m_laws_eqOpts o o = some (true, ()) := by
 obtain ⟨a0, a1, a2, a3, a4, a5, a6, a7, a8, a9, a10, a11, a12, d, a14, s, p⟩ := o
 unfold m_laws_eqOpts
 simp
theorem law_ParseOpts (line : List UInt8) : m_laws_FnExactParseOpts line = some (true, ()) := by
 unfold m_laws_FnExactParseOpts
 by_cases h : (line.length : Int) > 1048576
 ·rw [decide_eq_true h]; rfl
 ·rw [decide_eq_false h, cond_false, spec_parse, impl_parse]
  simp only [Option.bind_some]
  rw [eqOpts_self]
  simp
end Go.AM
