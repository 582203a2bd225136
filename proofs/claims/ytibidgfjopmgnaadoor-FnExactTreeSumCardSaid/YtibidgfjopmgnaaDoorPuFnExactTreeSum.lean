/- The plain law: the model of the law answers true. -/
import Derived.Test.YtibidgfjopmgnaaDoorMoFnExactTreeSum
set_option linter.unusedVariables false
set_option linter.unusedSimpArgs false
namespace Go.AM
open Go
theorem loopC_inv {S α : Type} (F : S → (S → Option α) → Option α) (I : Nat → S → Prop) (g : S → Option α)
    (h : ∀ n s k, I n s → (∀ m s', m < n → I m s' → k s' = g s') → F s k = g s) : ∀ fuel n s, I n s → n < fuel → loopC fuel F s = g s := by
 intro fuel
 induction fuel with
 | zero => intro n s _ h0; omega
 | succ f ih => intro n s hI hn; exact h n s _ hI (fun m s' hm hI' => ih m s' hI' (by omega))
theorem wr (x : Int) (h : -9223372036854775808 ≤ x ∧ x ≤ 9223372036854775807) : IntKind.wrap .i64 x = x := by
 simp [IntKind.wrap, IntKind.signed, IntKind.bits]; omega
/-- A loop ends in some result with Q. -/
theorem loopC_some' {S α : Type} (F : S → (S → Option α) → Option α) (I : Nat → S → Prop) (Q : α → Prop)
    (h : ∀ n s k, I n s → (∀ m s', m < n → I m s' → ∃ r, k s' = some r ∧ Q r) → ∃ r, F s k = some r ∧ Q r) : ∀ fuel n s, I n s → n < fuel → ∃ r, loopC fuel F s = some r ∧ Q r := by
 intro fuel
 induction fuel with
 | zero => intro n s _ h0; omega
 | succ f ih => intro n s hI hn; exact h n s _ hI (fun m s' hm hI' => ih m s' hI' (by omega))
theorem bind_eq {α β : Type} {o : Option α} {f : α → Option β} {x : α} {r : Option β} (h : o = some x) (h2 : f x = r) : Option.bind o f = r := by rw [h]; exact h2
theorem bind_ex {α β : Type} {o : Option α} {f : α → Option β} {Q : α → Prop} {r : Option β} (h : ∃ x, o = some x ∧ Q x) (h2 : ∀ x, Q x → f x = r) : Option.bind o f = r := by obtain ⟨x, rfl, hq⟩ := h; exact h2 x hq
theorem joinC_of {S α : Type} {o x : Option (S ⊕ α)} {k : S → Option α} {r : Option α} (h : o = x) (h2 : joinC x k = r) : joinC o k = r := by rw [h]; exact h2
theorem joinC_ex {S α : Type} {o : Option (S ⊕ α)} {k : S → Option α} {Q : S ⊕ α → Prop} {r : Option α} (h : ∃ x, o = some x ∧ Q x) (h2 : ∀ x, Q x → joinC (some x) k = r) : joinC o k = r := by obtain ⟨x, rfl, hq⟩ := h; exact h2 x hq
theorem wr1 (i : Nat) (h : i ≤ 4611686018427387904) : IntKind.wrap .i64 ((i : Int) + 1) = ((i + 1 : Nat) : Int) := by rw [wr _ (by omega)]; rfl
theorem joinC_inl' {S α : Type} {o : Option (S ⊕ α)} {k : S → Option α} {s : S} (h : o = some (.inl s)) : joinC o k = k s := by rw [h]; rfl
def okCh (c : Int) : Bool := (decide (c ≥ 97) && decide (c ≤ 122)) || ((decide (c ≥ 65) && decide (c ≤ 90)) || ((decide (c ≥ 48) && decide (c ≤ 57)) || (c == 46 || (c == 95 || c == 45))))
def okB (b : UInt8) : Bool := okCh (b.toNat : Int)
def nameOk (s : List UInt8) : Bool := (decide (1 ≤ s.length) && decide (s.length ≤ 20)) && (!(s == [46]) && (!(s == [46, 46]) && s.all okB))
theorem in_eq (x a b : Int) : m_spec_l01In x a b = some (decide (x ≥ a) && decide (x ≤ b), ()) := by
 unfold m_spec_l01In; cases decide (x ≥ a) <;> rfl
theorem within_eq (x a b : Int) : m_impl_within x a b = some (decide (x ≥ a) && decide (x ≤ b), ()) := by
 unfold m_impl_within; cases decide (x ≥ a) <;> rfl
theorem all_drop {α : Type} (p : α → Bool) (d : α) {s : List α} {i : Nat} (h : i < s.length) : (s.drop i).all p = (p (s.getD i d) && (s.drop (i + 1)).all p) := by
 rw [List.drop_eq_getElem_cons h, List.all_cons, List.getD_eq_getElem?_getD, List.getElem?_eq_getElem h]; rfl
theorem len_ge (s : List UInt8) : decide ((s.length : Int) ≥ 1) = decide (1 ≤ s.length) := decide_eq_decide.2 (by omega)
theorem len_le (s : List UInt8) : decide ((s.length : Int) ≤ 20) = decide (s.length ≤ 20) := decide_eq_decide.2 (by omega)
theorem spec_nameOk (s : List UInt8) (hs : s.length ≤ 1099511627776) : m_spec_NameOk s = some (nameOk s, ()) := by
 unfold m_spec_NameOk
 rw [in_eq, Option.bind_some, len_ge, len_le]
 unfold nameOk
 cases h1 : (decide (1 ≤ s.length) && decide (s.length ≤ 20)) with
 | false => rfl
 | true =>
  simp only [Bool.not_true, cond_false, Bool.true_and]
  cases h2 : (s == [46]) with
  | true => rfl
  | false =>
   simp only [cond_false, Bool.not_false, Bool.true_and]
   cases h3 : (s == [46, 46]) with
   | true => rfl
   | false =>
    simp only [Option.bind_some, cond_false, Bool.not_false, Bool.true_and]
    refine joinC_of (loopC_inv _ (fun n t => ∃ i : Nat, t = ((s, (i : Int), ()), ()) ∧ i ≤ s.length ∧ n = s.length - i)
     (fun t => some (if (s.drop t.1.2.1.toNat).all okB then .inl ((), ()) else .inr (false, ()))) ?_ _ s.length _ ⟨0, rfl, by omega, rfl⟩ (by omega)) ?_
    rotate_left
    ·show joinC (some (if (s.drop 0).all okB = true then _ else _)) _ = _
     rw [List.drop_zero]
     cases s.all okB <;> rfl
    ·rintro n t k ⟨i, rfl, hi, rfl⟩ hk
     dsimp only
     by_cases hl : i < s.length
     ·have hx : 0 ≤ (i : Int) ∧ (i : Int) < (s.length : Int) := by omega
      rw [decide_eq_true (by omega), cond_true, if_pos hx]
      refine bind_eq (x := ((s, (i : Int), !okB (s.getD i 0), ()), ())) ?_ ?_
      ·simp only [in_eq, Option.bind_some, if_pos hx, bne, okB, okCh, Int.toNat_natCast]
       have hb : (s.getD i 0).toNat < 256 := UInt8.toNat_lt _
       rw [wr _ (by omega)]
       generalize ((s.getD i 0).toNat : Int) = c
       cases decide (c ≥ 97) <;> cases decide (c ≤ 122) <;> cases decide (c ≥ 65) <;> cases decide (c ≤ 90) <;> cases decide (c ≥ 48) <;> cases decide (c ≤ 57) <;> cases c == 46 <;> cases c == 95 <;> cases c == 45 <;> rfl
      ·dsimp only
       rw [Int.toNat_natCast, all_drop okB 0 hl]
       cases okB (s.getD i 0) with
       | false => rfl
       | true =>
        show k _ = _
        rw [wr1 i (by omega)]
        exact hk (s.length - (i + 1)) _ (by omega) ⟨i + 1, rfl, by omega, rfl⟩
     ·rw [decide_eq_false (by omega), cond_false, Int.toNat_natCast, List.drop_eq_nil_of_le (by omega)]
      rfl
theorem impl_nameOk (s : List UInt8) (hs : s.length ≤ 1099511627776) : m_impl_NameOk s = some (nameOk s, ()) := by
 unfold m_impl_NameOk
 refine joinC_of (loopC_inv _ (fun n t => ∃ i : Nat, t = ((s, (s.length : Int), (i : Int), ()), ()) ∧ i ≤ s.length ∧ n = s.length - i)
         (fun t => some (if (s.drop t.1.2.2.1.toNat).all okB then .inl ((s, ()), ()) else .inr (false, ()))) ?_ _ s.length _ ⟨0, rfl, by omega, rfl⟩ (by omega)) ?_
 rotate_left
 ·show joinC (some (if (s.drop 0).all okB = true then _ else _)) _ = _
  rw [List.drop_zero]
  unfold nameOk
  cases s.all okB with
  | false => simp only [Bool.and_false]; rfl
  | true =>
   show Option.bind (Option.bind (m_impl_within _ _ _) _) _ = _
   rw [within_eq, Option.bind_some, len_ge, len_le]
   dsimp only
   cases (decide (1 ≤ s.length) && decide (s.length ≤ 20)) <;> cases s == [46] <;> cases s == [46, 46] <;> rfl
 ·rintro n t k ⟨i, rfl, hi, rfl⟩ hk
  dsimp only
  by_cases hl : i < s.length
  ·have hx : 0 ≤ (i : Int) ∧ (i : Int) < (s.length : Int) := by omega
   rw [decide_eq_true (by omega), cond_true, if_pos hx]
   refine bind_eq (x := ((s, (s.length : Int), (i : Int), !okB (s.getD i 0), ()), ())) ?_ ?_
   ·simp only [okB, okCh, Int.toNat_natCast]
    cases decide ((((s.getD i 0).toNat : Nat) : Int) ≥ 97) <;> cases decide ((((s.getD i 0).toNat : Nat) : Int) ≤ 122) <;> cases decide ((((s.getD i 0).toNat : Nat) : Int) ≥ 65) <;> cases decide ((((s.getD i 0).toNat : Nat) : Int) ≤ 90) <;> cases decide ((((s.getD i 0).toNat : Nat) : Int) ≥ 48) <;> cases decide ((((s.getD i 0).toNat : Nat) : Int) ≤ 57) <;> cases (((s.getD i 0).toNat : Nat) : Int) == 46 <;> cases (((s.getD i 0).toNat : Nat) : Int) == 95 <;> cases (((s.getD i 0).toNat : Nat) : Int) == 45 <;> rfl
   ·dsimp only
    rw [Int.toNat_natCast, all_drop okB 0 hl]
    cases okB (s.getD i 0) with
    | false => rfl
    | true =>
     show k _ = _
     rw [wr1 i (by omega)]
     exact hk (s.length - (i + 1)) _ (by omega) ⟨i + 1, rfl, by omega, rfl⟩
  ·rw [decide_eq_false (by omega), cond_false, Int.toNat_natCast, List.drop_eq_nil_of_le (by omega)]
   rfl
/-- What stands between the slashes. -/
def split : List UInt8 → List (List UInt8)
 | [] => [[]]
 | c :: r => if c = 47 then [] :: split r else match split r with
  | [] => [[c]]
  | h :: t => (c :: h) :: t
def prep (x : List UInt8) : List (List UInt8) → List (List UInt8)
 | [] => [x]
 | h :: t => (x ++ h) :: t
theorem split_ne (s : List UInt8) : split s ≠ [] := by
 cases s with
 | nil => simp [split]
 | cons c r => unfold split; split; simp; split <;> simp
theorem split_slash {c : UInt8} {r : List UInt8} (h : c = 47) : split (c :: r) = [] :: split r := by rw [split, if_pos h]
theorem split_other {c : UInt8} {r : List UInt8} (h : c ≠ 47) : split (c :: r) = prep [c] (split r) := by
 rw [split, if_neg h]; unfold prep; rcases split r with _ | ⟨h, t⟩ <;> rfl
theorem prep_prep (x y : List UInt8) (l : List (List UInt8)) (h : l ≠ []) : prep x (prep y l) = prep (x ++ y) l := by
 cases l with
 | nil => exact absurd rfl h
 | cons a t => simp [prep]
theorem split_len : ∀ s : List UInt8, (split s).length ≤ s.length + 1
 | [] => by simp [split]
 | c :: r => by
  have := split_len r
  by_cases h : c = 47
  ·rw [split_slash h]; simp; omega
  ·rw [split_other h]; unfold prep; split <;> simp_all; omega
theorem getD_cons {s : List UInt8} {i : Nat} (h : i < s.length) : s.drop i = s.getD i 0 :: s.drop (i + 1) := by
 rw [List.drop_eq_getElem_cons h, List.getD_eq_getElem?_getD, List.getElem?_eq_getElem h]; rfl
theorem take_snoc {s : List UInt8} {i f : Nat} (h : i < s.length) (hf : f ≤ i) : (s.take (i + 1)).drop f = (s.take i).drop f ++ [s.getD i 0] := by
 rw [List.take_add_one, List.drop_append_of_le_length (by simp; omega), List.getD_eq_getElem?_getD, List.getElem?_eq_getElem h]; rfl
theorem spec_names (s : List UInt8) (hs : s.length ≤ 8796093022206) : m_spec_l02Names s = some (split s, ()) := by
 unfold m_spec_l02Names
 refine bind_ex (loopC_some' _ (fun n t => ∃ (f i : Nat) (o : List (List UInt8)), t = ((s, (), (f : Int), (i : Int), ()), o, ()) ∧ f ≤ i ∧ i ≤ s.length ∧ o.length ≤ i ∧ o ++ prep ((s.take i).drop f) (split (s.drop i)) = split s ∧ n = s.length - i)
  (fun r => ∃ (f : Nat) (o : List (List UInt8)), r = ((s, (), (f : Int), ()), o, ()) ∧ f ≤ s.length ∧ o.length ≤ s.length ∧ o ++ [s.drop f] = split s) ?_ _ s.length _ ⟨0, 0, [], rfl, by omega, by omega, by simp, ?_, rfl⟩ (by omega)) ?_
 rotate_left 2
 ·rintro r ⟨f, o, rfl, h1, h2, h3⟩
  dsimp only
  rw [if_pos (by omega), if_pos (by simp only [List.length_cons, List.length_nil]; omega)]
  rw [Int.toNat_natCast, Int.toNat_natCast, List.take_length, h3]
 ·rintro n t k ⟨f, i, o, rfl, hf, hi, ho, he, rfl⟩ hk
  dsimp only
  by_cases hl : i < s.length
  ·have hx : 0 ≤ (i : Int) ∧ (i : Int) < (s.length : Int) := by omega
   rw [decide_eq_true (by omega), cond_true, if_pos hx]
   simp only [Int.toNat_natCast]
   have hd := getD_cons hl
   rw [hd] at he
   by_cases hc : s.getD i 0 = 47
   ·rw [show (((s.getD i 0).toNat : Int) == 47) = true by rw [hc]; rfl, cond_true, if_pos (by omega), if_pos (by simp only [List.length_cons, List.length_nil]; omega), Option.bind_some]
    dsimp only
    rw [wr1 i (by omega)]
    refine hk (s.length - (i + 1)) _ (by omega) ⟨i + 1, i + 1, _, rfl, by omega, by omega, by simp; omega, ?_, rfl⟩
    rw [split_slash hc] at he
    rw [← he, List.append_assoc, show (s.take (i + 1)).drop (i + 1) = [] from List.drop_eq_nil_of_le (by rw [List.length_take]; omega)]
    unfold prep
    rcases hsp : split (s.drop (i + 1)) with _ | ⟨a, b⟩
    ·exact absurd hsp (split_ne _)
    ·simp
   ·rw [show (((s.getD i 0).toNat : Int) == 47) = false by
     rw [beq_eq_false_iff_ne]; intro h; exact hc (UInt8.toNat.inj (by show _ = 47; omega)), cond_false, Option.bind_some]
    dsimp only
    rw [wr1 i (by omega)]
    refine hk (s.length - (i + 1)) _ (by omega) ⟨f, i + 1, _, rfl, by omega, by omega, by omega, ?_, rfl⟩
    rw [split_other hc, prep_prep _ _ _ (split_ne _)] at he
    rw [take_snoc hl hf]
    exact he
  ·rw [decide_eq_false (by omega), cond_false]
   refine ⟨_, rfl, f, o, rfl, by omega, by omega, ?_⟩
   rw [← he, List.drop_eq_nil_of_le (by omega : s.length ≤ i), List.take_of_length_le (by omega)]
   simp [split, prep]
 ·simp only [List.drop_zero, List.nil_append, List.take_zero, List.drop_nil]
  rcases hsp : split s with _ | ⟨a, b⟩
  ·exact absurd hsp (split_ne _)
  ·rfl
theorem index_slash (s : List UInt8) : (Go.Lib.indexByte s 47 = -1 ∧ split s = [s]) ∨ ∃ k : Nat, k < s.length ∧ Go.Lib.indexByte s 47 = k ∧ split s = s.take k :: split (s.drop (k + 1)) ∧ s.count 47 = (s.drop (k + 1)).count 47 + 1 := by
 induction s with
 | nil => exact .inl ⟨rfl, rfl⟩
 | cons c r ih =>
  by_cases hc : c = 47
  ·refine .inr ⟨0, by simp, ?_, ?_, ?_⟩
   ·rw [hc]; rfl
   ·rw [split_slash hc]; rfl
   ·rw [hc]; simp
  ·have hb : (c == 47) = false := by simp [hc]
   rcases ih with ⟨h1, h2⟩ | ⟨k, hk, h1, h2, h3⟩
   ·refine .inl ⟨?_, ?_⟩
    ·unfold Go.Lib.indexByte; rw [hb, h1]; rfl
    ·rw [split_other hc, h2]; rfl
   ·refine .inr ⟨k + 1, by simp; omega, ?_, ?_, ?_⟩
    ·unfold Go.Lib.indexByte; rw [hb, h1]
     have : ((k : Int) == -1) = false := by rw [beq_eq_false_iff_ne]; omega
     simp [this]
    ·rw [split_other hc, h2]; rfl
    ·rw [List.count_cons, hb, h3]; simp
theorem index_eq (s : List UInt8) : m_strings_Index s = some (Go.Lib.indexByte s 47, ()) := by
 unfold m_strings_Index m_stringslite_Index
 by_cases h : s = [47]
 ·subst h; rfl
 ·rw [show (([47] : List UInt8) == s) = false by rw [beq_eq_false_iff_ne]; exact fun h' => h h'.symm]
  rfl
theorem genSplit_eq (s : List UInt8) (hs : s.length ≤ 8796093022206) : m_strings_genSplit s = some (split s, ()) := by
 unfold m_strings_genSplit
 refine bind_eq (x := (((s.count 47 : Nat) : Int), ())) rfl ?_
 have hcl : s.count 47 ≤ s.length := List.count_le_length
 dsimp only
 rw [wr ((s.length : Int) + 1) (by omega), wr (((s.count 47 : Nat) : Int) + 1) (by omega), if_neg (show ¬((s.length : Int) + 1 < ((s.count 47 : Nat) : Int) + 1) by omega), if_pos (by omega), wr (((s.count 47 : Nat) : Int) + 1 - 1) (by omega)]
 have hn : (((s.count 47 : Nat) : Int) + 1).toNat = s.count 47 + 1 := by omega
 rw [hn]
 refine bind_ex (loopC_some' _ (fun n t => ∃ (r : List UInt8) (i : Nat) (a : List (List UInt8)), t = ((r, (), (), ((s.count 47 : Nat) : Int) + 1 - 1, (), (i : Int), ()), a, ()) ∧ i + r.count 47 = s.count 47 ∧ r.length ≤ s.length ∧ a.length = s.count 47 + 1 ∧ a.take i ++ split r = split s ∧ n = r.length)
  (fun t => ∃ (r : List UInt8) (i : Nat) (a : List (List UInt8)), t = ((r, (), (i : Int), ()), a, ()) ∧ i ≤ s.count 47 ∧ a.length = s.count 47 + 1 ∧ a.take i ++ [r] = split s) ?_ _ s.length _ ⟨s, 0, _, rfl, by omega, by omega, by simp, rfl, rfl⟩ (by omega)) ?_
 ·rintro n t k ⟨r, i, a, rfl, h1, h2, h3, h4, rfl⟩ hk
  dsimp only
  by_cases hl : i < s.count 47
  ·rw [decide_eq_true (by omega), cond_true, index_eq, Option.bind_some]
   dsimp only
   rcases index_slash r with ⟨g1, g2⟩ | ⟨m, hm, g1, g2, g3⟩
   ·rw [g1, decide_eq_true (by omega), cond_true]
    exact ⟨_, rfl, r, i, a, rfl, by omega, h3, by rw [g2] at h4; exact h4⟩
   ·rw [g1, decide_eq_false (by omega), cond_false, wr ((m : Int) + 0) (by omega)]
    simp only [List.length_cons, List.length_nil]
    rw [show ((0 + 1 : Nat) : Int) = 1 from rfl, wr1 m (by omega), if_pos (by omega), if_pos (by omega), if_pos (by omega), if_pos (by omega), wr1 i (by omega)]
    refine hk (r.drop (m + 1)).length _ (by rw [List.length_drop]; omega) ⟨r.drop (m + 1), i + 1, a.set i (r.take m), ?_, by omega, by rw [List.length_drop]; omega, ?_, ?_, rfl⟩
    ·simp only [Int.toNat_natCast, List.take_length, Int.add_zero]; rfl
    ·rw [List.length_set]; exact h3
    ·rw [List.take_add_one, List.take_set_of_le (by omega), ← h4, g2]
     rw [List.getElem?_set_self (by omega)]
     simp
  ·rw [decide_eq_false (by omega), cond_false]
   refine ⟨_, rfl, r, i, a, rfl, by omega, h3, ?_⟩
   rcases index_slash r with ⟨g1, g2⟩ | ⟨m, hm, g1, g2, g3⟩
   ·rw [g2] at h4; exact h4
   ·omega
 ·rintro t ⟨r, i, a, rfl, h1, h2, h3⟩
  dsimp only
  rw [if_pos (by omega), if_pos (by omega), wr1 i (by omega), if_pos (by rw [List.length_set]; omega)]
  rw [Int.toNat_natCast, Int.toNat_natCast, List.take_add_one, List.take_set_of_le (by omega), List.getElem?_set_self (by omega)]
  show some (a.take i ++ [r], ()) = _
  rw [h3]
theorem split_eq (s : List UInt8) (hs : s.length ≤ 8796093022206) : m_strings_Split s = some (split s, ()) := by
 unfold m_strings_Split; rw [genSplit_eq s hs]; rfl
def names (s : List UInt8) : List (List UInt8) := if s.length ≤ 168 ∧ (split s).length ≤ 8 ∧ (split s).all nameOk = true then split s else []
def pathOk (s : List UInt8) : Bool := decide (s.length ≤ 168) && (decide ((split s).length ≤ 8) && (split s).all nameOk)
theorem names_ok (s : List UInt8) : names s = if pathOk s then split s else [] := by
 unfold names pathOk
 by_cases h1 : s.length ≤ 168 <;> by_cases h2 : (split s).length ≤ 8 <;> by_cases h3 : (split s).all nameOk = true <;> simp [h1, h2, h3]
theorem split_mem_len (s : List UInt8) : ∀ x ∈ split s, x.length ≤ s.length := by
 induction s with
 | nil => intro x hx; simp [split] at hx; subst hx; simp
 | cons c r ih =>
  intro x hx
  by_cases hc : c = 47
  ·rw [split_slash hc] at hx
   rcases List.mem_cons.1 hx with rfl | hx
   ·simp
   ·have := ih x hx; simp; omega
  ·rw [split_other hc] at hx
   unfold prep at hx
   rcases hsp : split r with _ | ⟨a, b⟩
   ·exact absurd hsp (split_ne _)
   ·rw [hsp] at hx ih
    rcases List.mem_cons.1 hx with rfl | hx
    ·have := ih a (by simp); simp; omega
    ·have := ih x (by simp [hx]); simp; omega
/-- Names of at most twenty bytes, at most eight: the text is of at most 167. -/
theorem split_sum (s : List UInt8) : s.length + 1 = ((split s).map (fun x => x.length + 1)).sum := by
 induction s with
 | nil => rfl
 | cons c r ih =>
  by_cases hc : c = 47
  ·rw [split_slash hc]; simp at ih ⊢; omega
  ·rw [split_other hc]; unfold prep
   rcases hsp : split r with _ | ⟨a, b⟩
   ·exact absurd hsp (split_ne _)
   ·rw [hsp] at ih; simp at ih ⊢; omega
theorem sum_le {l : List (List UInt8)} (h : l.all nameOk = true) : (l.map (fun x => x.length + 1)).sum ≤ 21 * l.length := by
 induction l with
 | nil => simp
 | cons a t ih =>
  rw [List.all_cons, Bool.and_eq_true] at h
  have := ih h.2
  have h1 := h.1
  unfold nameOk at h1
  simp only [Bool.and_eq_true, decide_eq_true_eq] at h1
  simp; omega
theorem path_len {s : List UInt8} (h1 : (split s).length ≤ 8) (h2 : (split s).all nameOk = true) : s.length ≤ 167 := by
 have := split_sum s; have := sum_le h2; omega
theorem spec_pathOk (s : List UInt8) : m_spec_PathOk s = some (pathOk s, ()) := by
 unfold m_spec_PathOk
 by_cases hs : s.length ≤ 200
 ·rw [decide_eq_false (by omega), cond_false, spec_names s (by omega), Option.bind_some]
  have hl := split_len s
  refine joinC_of (loopC_inv _ (fun n t => ∃ i : Nat, t = ((split s, (i : Int), ()), ()) ∧ i ≤ (split s).length ∧ n = (split s).length - i)
        (fun t => some (if ((split s).drop t.1.2.1.toNat).all nameOk then .inl ((split s, ()), ()) else .inr (false, ()))) ?_ _ (split s).length _ ⟨0, rfl, by omega, rfl⟩ (by show _ < (split s).length + _ + _; omega)) ?_
  ·rintro n t k ⟨i, rfl, hi, rfl⟩ hk
   dsimp only
   by_cases hl2 : i < (split s).length
   ·rw [decide_eq_true (by omega), cond_true, if_pos (by omega), Int.toNat_natCast, all_drop nameOk (nilOf UInt8) hl2]
    have hm : ((split s).getD i (nilOf UInt8)).length ≤ s.length := by
     rw [List.getD_eq_getElem?_getD, List.getElem?_eq_getElem hl2]; exact split_mem_len s _ (List.getElem_mem hl2)
    rw [spec_nameOk _ (by omega), Option.bind_some]
    dsimp only
    cases nameOk ((split s).getD i (nilOf UInt8)) with
    | false => rfl
    | true =>
     show k _ = _
     rw [wr1 i (by omega)]
     exact hk ((split s).length - (i + 1)) _ (by omega) ⟨i + 1, rfl, by omega, rfl⟩
   ·rw [decide_eq_false (by omega), cond_false, Int.toNat_natCast, List.drop_eq_nil_of_le (by omega)]
    rfl
  ·show joinC (some (if ((split s).drop 0).all nameOk = true then _ else _)) _ = _
   rw [List.drop_zero]
   unfold pathOk
   cases h2 : (split s).all nameOk with
   | false => simp; rfl
   | true =>
    show some (decide (((split s).length : Int) ≤ 8), ()) = _
    by_cases h1 : (split s).length ≤ 8
    ·have := path_len h1 h2
     rw [decide_eq_true (by omega), decide_eq_true (by omega), decide_eq_true h1]; rfl
    ·rw [decide_eq_false (by omega), decide_eq_false h1]; simp
 ·rw [decide_eq_true (by omega), cond_true]
  unfold pathOk
  rw [decide_eq_false (by omega), Bool.false_and]
theorem impl_names (s : List UInt8) : m_impl_Names s = some (names s, ()) := by
 unfold m_impl_Names
 by_cases hs : s.length ≤ 168
 ·rw [decide_eq_false (by omega), cond_false, split_eq s (by omega), Option.bind_some]
  have hl := split_len s
  dsimp only
  by_cases h1 : (split s).length ≤ 8
  ·rw [decide_eq_false (by omega), cond_false]
   refine joinC_of (loopC_inv _ (fun n t => ∃ i : Nat, t = ((split s, split s, ((split s).length : Int), (i : Int), ()), ()) ∧ i ≤ (split s).length ∧ n = (split s).length - i)
       (fun t => some (if ((split s).drop t.1.2.2.2.1.toNat).all nameOk then .inl ((split s, ()), ()) else .inr ([], ()))) ?_ _ (split s).length _ ⟨0, rfl, by omega, rfl⟩ (by omega)) ?_
   ·rintro n t k ⟨i, rfl, hi, rfl⟩ hk
    dsimp only
    by_cases hl2 : i < (split s).length
    ·rw [decide_eq_true (by omega), cond_true, if_pos (by omega), Int.toNat_natCast, all_drop nameOk (nilOf UInt8) hl2]
     have hm : ((split s).getD i (nilOf UInt8)).length ≤ s.length := by
      rw [List.getD_eq_getElem?_getD, List.getElem?_eq_getElem hl2]; exact split_mem_len s _ (List.getElem_mem hl2)
     rw [impl_nameOk _ (by omega), Option.bind_some]
     dsimp only
     cases nameOk ((split s).getD i (nilOf UInt8)) with
     | false => rfl
     | true =>
      show k _ = _
      rw [wr1 i (by omega)]
      exact hk ((split s).length - (i + 1)) _ (by omega) ⟨i + 1, rfl, by omega, rfl⟩
    ·rw [decide_eq_false (by omega), cond_false, Int.toNat_natCast, List.drop_eq_nil_of_le (by omega)]
     rfl
   ·show joinC (some (if ((split s).drop 0).all nameOk = true then _ else _)) _ = _
    rw [List.drop_zero]
    unfold names
    cases h2 : (split s).all nameOk with
    | false => simp; rfl
    | true => rw [if_pos (show s.length ≤ 168 ∧ (split s).length ≤ 8 ∧ true = true from And.intro hs (And.intro h1 rfl))]; rfl
  ·rw [decide_eq_true (by omega), cond_true]
   unfold names
   rw [if_neg (fun h => h1 h.2.1)]
 ·rw [decide_eq_true (by omega), cond_true]
  unfold names
  rw [if_neg (fun h => hs h.1)]
theorem impl_pathOk (s : List UInt8) : m_impl_PathOk s = some (pathOk s, ()) := by
 unfold m_impl_PathOk
 rw [impl_names, Option.bind_some, names_ok]
 cases pathOk s with
 | false => rfl
 | true =>
  show some (decide (((split s).length : Int) > 0), ()) = _
  rw [decide_eq_true (by have := List.length_pos_iff.2 (split_ne s); omega)]
section
variable {α : Type}
def szSG (f : α → Int → Option (Int × Unit)) (d : α) (l : List α) (n : Int) : Option (Int × Unit) :=
 bif decide (IntKind.wrap IntKind.i64 (n - (l.length : Int)) < 0) then some (-1, ())
 else joinC (loopC (l.length + Int.toNat (IntKind.wrap IntKind.i64 (n - (l.length : Int))) + Int.toNat (0 : Int) + 300)
  (fun (s : (List α × Int × Int × Unit) × Unit) (k : (List α × Int × Int × Unit) × Unit → Option ((Int × Unit) × Unit ⊕ Int × Unit)) =>
   bif decide (s.fst.snd.snd.fst < (↑(List.length s.fst.fst) : Int)) then
    if (0 : Int) ≤ s.fst.snd.snd.fst ∧ s.fst.snd.snd.fst < (↑(List.length s.fst.fst) : Int) then
     Option.bind (f (List.getD s.fst.fst (Int.toNat s.fst.snd.snd.fst) d) s.fst.snd.fst) fun (r : Int × Unit) =>
      bif decide (r.fst < (0 : Int)) then some (Sum.inr ((-1 : Int), ()))
      else k ((s.fst.fst, r.fst, IntKind.wrap IntKind.i64 (s.fst.snd.snd.fst + (1 : Int)), ()), ())
    else none
   else some (Sum.inl ((s.fst.snd.fst, ()), ())))
  ((l, IntKind.wrap IntKind.i64 (n - (l.length : Int)), (0 : Int), ()), ()))
  fun (s : (Int × Unit) × Unit) => some s.fst
theorem getD_mem {l : List α} {i : Nat} (d : α) (h : i < l.length) : l.getD i d ∈ l := by
 rw [List.getD_eq_getElem?_getD, List.getElem?_eq_getElem h]; exact List.getElem_mem h
theorem szS_eq (f : α → Int → Option (Int × Unit)) (d : α) (H B : α → Prop) (hf : ∀ x n, H x → 0 ≤ n → n ≤ 1048576 → ∃ m, f x n = some (m, ()) ∧ (0 ≤ m → m ≤ n ∧ B x))
    (l : List α) (hl : ∀ x ∈ l, H x) (hl2 : l.length ≤ 9223372036854775807) (n : Int) (hn : 0 ≤ n ∧ n ≤ 1048576) : ∃ m, szSG f d l n = some (m, ()) ∧ (0 ≤ m → m ≤ n - l.length ∧ ∀ x ∈ l, B x) := by
 unfold szSG
 rw [wr (n - _) (by omega)]
 by_cases q : n - (l.length : Int) < 0
 ·rw [decide_eq_true q]; exact ⟨_, rfl, fun h => by omega⟩
 ·rw [decide_eq_false q, cond_false]
  have key := loopC_some' (fun (s : (List α × Int × Int × Unit) × Unit) (k : (List α × Int × Int × Unit) × Unit → Option ((Int × Unit) × Unit ⊕ Int × Unit)) =>
   bif decide (s.fst.snd.snd.fst < (↑(List.length s.fst.fst) : Int)) then
    if (0 : Int) ≤ s.fst.snd.snd.fst ∧ s.fst.snd.snd.fst < (↑(List.length s.fst.fst) : Int) then
     Option.bind (f (List.getD s.fst.fst (Int.toNat s.fst.snd.snd.fst) d) s.fst.snd.fst) fun (r : Int × Unit) =>
      bif decide (r.fst < (0 : Int)) then some (Sum.inr ((-1 : Int), ()))
      else k ((s.fst.fst, r.fst, IntKind.wrap IntKind.i64 (s.fst.snd.snd.fst + (1 : Int)), ()), ())
    else none
   else some (Sum.inl ((s.fst.snd.fst, ()), ())))
   (fun c t => ∃ (m : Int) (i : Nat), t = ((l, m, (i : Int), ()), ()) ∧ i ≤ l.length ∧ 0 ≤ m ∧ m ≤ n - l.length ∧ (∀ x ∈ l.take i, B x) ∧ c = l.length - i)
   (fun r => r = .inr (-1, ()) ∨ ∃ m, r = .inl ((m, ()), ()) ∧ m ≤ n - l.length ∧ ∀ x ∈ l, B x)
   (by
    rintro c t k ⟨m, i, rfl, hi, h0, h1, h2, rfl⟩ hk
    dsimp only
    by_cases hlt : i < l.length
    ·rw [decide_eq_true (by omega), cond_true, if_pos (by omega), Int.toNat_natCast]
     obtain ⟨m', e, hm⟩ := hf (l.getD i d) m (hl _ (getD_mem d hlt)) h0 (by omega)
     rw [e, Option.bind_some]
     dsimp only
     by_cases q' : m' < 0
     ·rw [decide_eq_true q']; exact ⟨_, rfl, .inl rfl⟩
     ·rw [decide_eq_false q', cond_false, wr1 i (by omega)]
      obtain ⟨g1, g2⟩ := hm (by omega)
      refine hk (l.length - (i + 1)) _ (by omega) ⟨m', i + 1, rfl, by omega, by omega, by omega, fun x hx => ?_, rfl⟩
      rw [List.take_add_one, List.mem_append] at hx
      rcases hx with hx | hx
      ·exact h2 x hx
      ·rw [List.getElem?_eq_getElem hlt] at hx
       rw [List.getD_eq_getElem?_getD, List.getElem?_eq_getElem hlt] at g2
       simp at hx; subst hx; exact g2
    ·rw [decide_eq_false (by omega), cond_false]
     refine ⟨_, rfl, .inr ⟨m, rfl, h1, ?_⟩⟩
     rw [List.take_of_length_le (by omega)] at h2; exact h2)
   (l.length + Int.toNat (n - (l.length : Int)) + Int.toNat (0 : Int) + 300) l.length ((l, n - (l.length : Int), 0, ()), ()) ⟨n - l.length, 0, rfl, by omega, by omega, by omega, by simp, rfl⟩ (by omega)
  obtain ⟨r, hr, hq⟩ := key
  rw [hr]
  rcases hq with rfl | ⟨m, rfl, g1, g2⟩
  ·exact ⟨-1, rfl, fun h => by omega⟩
  ·exact ⟨m, rfl, fun _ => ⟨g1, g2⟩⟩
def toSG (f : α → Option (α × Unit)) (d : α) (b : Nat) (l : List α) : Option (List α × Unit) :=
 if (0 : Int) ≤ (↑(List.length l) : Int) ∧ (↑(List.length l) : Int) ≤ (↑(List.length l) : Int) ∧ (↑b : Int) * (↑(List.length l) : Int) ≤ (140737488355328 : Int) ∧ (↑(List.length l) : Int) < (2 : Int) ^ (62 : Nat) then
  Option.bind (loopC (l.length + Int.toNat (0 : Int) + List.length (List.replicate (Int.toNat (↑(List.length l) : Int)) d) + 300)
   (fun (s : (List α × Unit × Int × Unit) × List α × Unit) (k : (List α × Unit × Int × Unit) × List α × Unit → Option ((Unit × Unit) × List α × Unit)) =>
    bif decide (s.fst.snd.snd.fst < (↑(List.length s.fst.fst) : Int)) then
     if (0 : Int) ≤ s.fst.snd.snd.fst ∧ s.fst.snd.snd.fst < (↑(List.length s.fst.fst) : Int) then
      Option.bind (f (List.getD s.fst.fst (Int.toNat s.fst.snd.snd.fst) d)) fun (r : α × Unit) =>
       if (0 : Int) ≤ s.fst.snd.snd.fst ∧ s.fst.snd.snd.fst < (↑(List.length s.snd.fst) : Int) then
        if Int.toNat s.fst.snd.snd.fst < List.length s.snd.fst then
         k ((s.fst.fst, (), IntKind.wrap IntKind.i64 (s.fst.snd.snd.fst + (1 : Int)), ()), List.set s.snd.fst (Int.toNat s.fst.snd.snd.fst) r.fst, ())
        else none
       else none
     else none
    else some (((), ()), s.snd))
   ((l, (), (0 : Int), ()), List.replicate (Int.toNat (↑(List.length l) : Int)) d, ()))
   fun (s : (Unit × Unit) × List α × Unit) => some s.snd
 else none
theorem toS_eq (f : α → Option (α × Unit)) (d : α) (b : Nat) (hf : ∀ x, f x = some (x, ())) (l : List α) (hl : l.length ≤ 1048576) (hb : b ≤ 134217728) : toSG f d b l = some (l, ()) := by
 unfold toSG
 have h2 : (b : Int) * (l.length : Int) ≤ 140737488355328 := by
  have h3 : (b : Int) * (l.length : Int) ≤ 134217728 * 1048576 := Int.mul_le_mul (by omega) (by omega) (by omega) (by omega)
  omega
 rw [if_pos ⟨by omega, by omega, h2, by show (l.length : Int) < 4611686018427387904; omega⟩]
 refine bind_ex (loopC_some' _ (fun n t => ∃ (i : Nat) (o : List α), t = ((l, (), (i : Int), ()), o, ()) ∧ i ≤ l.length ∧ o.length = l.length ∧ o.take i = l.take i ∧ n = l.length - i)
  (fun t => t = (((), ()), l, ())) ?_ _ l.length _ ⟨0, _, rfl, by omega, by simp, by simp, rfl⟩ (by omega)) ?_
 ·rintro n t k ⟨i, o, rfl, hi, ho, he, rfl⟩ hk
  dsimp only
  by_cases hlt : i < l.length
  ·rw [decide_eq_true (by omega), cond_true, if_pos (by omega), Int.toNat_natCast, hf, Option.bind_some, if_pos (by omega), if_pos (by omega), wr1 i (by omega)]
   refine hk (l.length - (i + 1)) _ (by omega) ⟨i + 1, _, rfl, by omega, by rw [List.length_set]; exact ho, ?_, rfl⟩
   rw [List.take_add_one, List.take_add_one, List.take_set_of_le (by omega), he, List.getElem?_set_self (by omega), List.getElem?_eq_getElem hlt, List.getD_eq_getElem?_getD, List.getElem?_eq_getElem hlt]
   rfl
  ·rw [decide_eq_false (by omega), cond_false]
   refine ⟨_, rfl, ?_⟩
   rw [List.take_of_length_le (by omega), List.take_of_length_le (by omega)] at he
   rw [he]
 ·rintro t rfl; rfl
def eqSG (f : α → α → Option (Bool × Unit)) (d : α) (a b : List α) : Option (Bool × Unit) :=
 bif (↑(List.length a) : Int) != (↑(List.length b) : Int) then some (false, ())
 else joinC (loopC (a.length + b.length + Int.toNat (0 : Int) + 300)
  (fun (s : (List α × List α × Int × Unit) × Unit) (k : (List α × List α × Int × Unit) × Unit → Option (Unit × Unit ⊕ Bool × Unit)) =>
   bif decide (s.fst.snd.snd.fst < (↑(List.length s.fst.fst) : Int)) then
    if (0 : Int) ≤ s.fst.snd.snd.fst ∧ s.fst.snd.snd.fst < (↑(List.length s.fst.fst) : Int) then
     if (0 : Int) ≤ s.fst.snd.snd.fst ∧ s.fst.snd.snd.fst < (↑(List.length s.fst.snd.fst) : Int) then
      Option.bind (f (List.getD s.fst.fst (Int.toNat s.fst.snd.snd.fst) d) (List.getD s.fst.snd.fst (Int.toNat s.fst.snd.snd.fst) d)) fun (r : Bool × Unit) =>
       bif !r.fst then some (Sum.inr (false, ()))
       else k ((s.fst.fst, s.fst.snd.fst, IntKind.wrap IntKind.i64 (s.fst.snd.snd.fst + (1 : Int)), ()), ())
     else none
    else none
   else some (Sum.inl ((), ())))
  ((a, b, (0 : Int), ()), ()))
  fun (s : Unit × Unit) => some (true, ())
theorem eqS_eq (f : α → α → Option (Bool × Unit)) (d : α) (hf : ∀ x, f x x = some (true, ())) (l : List α) (hl : l.length ≤ 1099511627776) : eqSG f d l l = some (true, ()) := by
 unfold eqSG
 rw [show ((l.length : Int) != (l.length : Int)) = false by simp, cond_false]
 refine joinC_ex (loopC_some' _ (fun n t => ∃ i : Nat, t = ((l, l, (i : Int), ()), ()) ∧ i ≤ l.length ∧ n = l.length - i) (fun t => t = .inl ((), ())) ?_ _ l.length _ ⟨0, rfl, by omega, rfl⟩ (by omega)) ?_
 ·rintro n t k ⟨i, rfl, hi, rfl⟩ hk
  dsimp only
  by_cases hlt : i < l.length
  ·rw [decide_eq_true (by omega), cond_true, if_pos (by omega), if_pos (by omega), hf, Option.bind_some]
   show ∃ r, k _ = some r ∧ _
   rw [wr1 i (by omega)]
   exact hk (l.length - (i + 1)) _ (by omega) ⟨i + 1, rfl, by omega, rfl⟩
  ·rw [decide_eq_false (by omega)]; exact ⟨_, rfl, rfl⟩
 ·rintro t rfl; rfl
/-- A walk along a row that stops at the first that is not right. -/
theorem allLoop {S R : Type} (F : S → (S → Option R) → Option R) (st : Nat → S) (len : Nat) (ok : Nat → Bool) (yes no : R)
    (hstep : ∀ i k, i < len → F (st i) k = cond (ok i) (k (st (i + 1))) (some no)) (hend : ∀ k, F (st len) k = some yes) (fuel : Nat) (hf : len < fuel) :
    loopC fuel F (st 0) = some (cond ((List.range len).all ok) yes no) := by
 have key := loopC_inv F (fun n s => ∃ i, i ≤ len ∧ s = st i ∧ n = len - i ∧ ∀ j, j < i → ok j = true) (fun _ => some (cond ((List.range len).all ok) yes no)) (by
  rintro n s k ⟨i, hi, rfl, rfl, hj⟩ hk
  by_cases hlt : i < len
  ·rw [hstep i k hlt]
   cases ho : ok i with
   | false =>
    have : (List.range len).all ok = false := by
     rw [List.all_eq_false]; exact ⟨i, List.mem_range.2 hlt, by simp [ho]⟩
    rw [this]; rfl
   | true =>
    rw [cond_true]
    refine hk (len - (i + 1)) _ (by omega) ⟨i + 1, by omega, rfl, rfl, fun j hj' => ?_⟩
    by_cases h : j = i
    ·subst h; exact ho
    ·exact hj j (by omega)
  ·have : i = len := by omega
   subst this
   rw [hend]
   have : (List.range i).all ok = true := by rw [List.all_eq_true]; exact fun j hj' => hj j (List.mem_range.1 hj')
   rw [this]; rfl)
 exact key fuel len _ ⟨0, by omega, rfl, by omega, fun j hj => by omega⟩ hf
end
abbrev NodeT := List UInt8 × (Int × (Int × (Int × (List UInt8 × (List UInt8 × Int)))))
def inI (x a b : Int) : Bool := decide (x ≥ a) && decide (x ≤ b)
def nodeKind (k m : Int) (data target : List UInt8) (g : Int) : Bool :=
 cond (k == 0) (data == [] && (target == [] && g == 0)) (cond (k == 1) (decide ((data.length : Int) ≤ 20000) && (target == [] && inI g 0 200))
  (cond (k == 2) ((data == [] && (m == 0 && (g == 0 && inI (target.length : Int) 1 60))) && !(target.any (· == 10))) false))
def nodeOk (x : NodeT) : Bool := (pathOk x.1 && (inI x.2.2.1 0 511 && inI x.2.2.2.1 0 1000000000)) && nodeKind x.2.1 x.2.2.1 x.2.2.2.2.1 x.2.2.2.2.2.1 x.2.2.2.2.2.2
theorem any_index (c : UInt8) (s : List UInt8) : decide (Go.Lib.indexByte s c ≥ 0) = s.any (· == c) := by
 induction s with
 | nil => rfl
 | cons a r ih =>
  unfold Go.Lib.indexByte
  rw [List.any_cons]
  cases h : a == c with
  | true => rfl
  | false =>
   rw [Bool.false_or, ← ih, if_neg (by simp)]
   have := Go.Lib.indexByte_ge r c
   split
   ·rename_i h1; rw [beq_iff_eq] at h1; rw [h1]
   ·rename_i h1
    have : ¬(Go.Lib.indexByte r c = -1) := fun h => h1 (by rw [h]; rfl)
    exact decide_eq_decide.2 (by omega)
theorem contains_nl (s : List UInt8) : m_strings_Contains s = some (s.any (· == 10), ()) := by
 unfold m_strings_Contains m_strings_Index_2 m_stringslite_Index_2
 by_cases h : s = [10]
 ·subst h; rfl
 ·rw [show (([10] : List UInt8) == s) = false by rw [beq_eq_false_iff_ne]; exact fun h' => h h'.symm]
  show some (decide (Go.Lib.indexByte s 10 ≥ 0), ()) = _
  rw [any_index]
theorem any_drop {s : List UInt8} {i : Nat} (h : i < s.length) : (s.drop i).any (· == 10) = ((s.getD i 0 == 10) || (s.drop (i + 1)).any (· == 10)) := by
 rw [getD_cons h, List.any_cons]
theorem byte_beq (b : UInt8) (c : Nat) (hc : c < 256) : ((b.toNat : Int) == (c : Int)) = (b == c.toUInt8) := by
 have hb := UInt8.toNat_lt b
 by_cases h : b = c.toUInt8
 ·subst h
  rw [show (c.toUInt8 == c.toUInt8) = true by simp]
  rw [beq_iff_eq]
  show ((c % 256 : Nat) : Int) = _
  omega
 ·rw [show (b == c.toUInt8) = false by rw [beq_eq_false_iff_ne]; exact h, beq_eq_false_iff_ne]
  intro h'; apply h; apply UInt8.toNat.inj; show _ = c % 256; omega
theorem spec_nodeOk (x : NodeT) (h : x.2.2.2.2.2.1.length ≤ 1099511627776) : m_spec_NodeOk x = some (nodeOk x, ()) := by
 obtain ⟨p, kd, md, tm, data, target, g⟩ := x
 dsimp only at h
 unfold m_spec_NodeOk nodeOk
 refine bind_eq (x := (((), !(pathOk p && (inI md 0 511 && inI tm 0 1000000000)), ()), (p, kd, md, tm, data, target, g, ()), ())) ?_ ?_
 ·rw [spec_pathOk, Option.bind_some]
  simp only [in_eq, Option.bind_some]
  unfold inI
  cases pathOk p <;> cases (decide (md ≥ 0) && decide (md ≤ 511)) <;> rfl
 ·dsimp only
  cases (pathOk p && (inI md 0 511 && inI tm 0 1000000000)) with
  | false => rfl
  | true =>
   simp only [Bool.not_true, cond_false, Bool.true_and, nilOf]
   unfold nodeKind
   cases kd == 0 with
   | true => cases data == [] <;> cases target == [] <;> rfl
   | false =>
    simp only [cond_false]
    cases kd == 1 with
    | true =>
     simp only [cond_true, in_eq, Option.bind_some]
     cases decide ((data.length : Int) ≤ 20000) <;> cases target == [] <;> rfl
    | false =>
     simp only [cond_false]
     cases kd == 2 with
     | false => rfl
     | true =>
      simp only [cond_true, in_eq, Option.bind_some, bne]
      refine bind_eq (x := (((), !(data == [] && (md == 0 && (g == 0 && inI (target.length : Int) 1 60))), ()), (p, kd, md, tm, data, target, g, ()), ())) ?_ ?_
      ·unfold inI
       cases data == [] <;> cases md == 0 <;> cases g == 0 <;> rfl
      ·dsimp only
       cases (data == [] && (md == 0 && (g == 0 && inI (target.length : Int) 1 60))) with
       | false => rfl
       | true =>
        simp only [Bool.not_true, cond_false, Bool.true_and]
        refine joinC_of (loopC_inv _ (fun n t => ∃ i : Nat, t = (((), (i : Int), ()), (p, kd, md, tm, data, target, g, ()), ()) ∧ i ≤ target.length ∧ n = target.length - i)
         (fun t => some (if (target.drop t.1.2.1.toNat).any (· == 10) then .inr (false, ()) else .inl ((), ()))) ?_ _ target.length _ ⟨0, rfl, by omega, rfl⟩ (by omega)) ?_
        ·rintro n t k ⟨i, rfl, hi, rfl⟩ hk
         dsimp only
         by_cases hl : i < target.length
         ·rw [decide_eq_true (by omega), cond_true, if_pos (by omega), Int.toNat_natCast, any_drop hl]
          rw [show (((target.getD i 0).toNat : Int) == 10) = (target.getD i 0 == 10) from byte_beq _ 10 (by decide)]
          cases target.getD i 0 == 10 with
          | true => rfl
          | false =>
           rw [cond_false, Bool.false_or, wr1 i (by omega)]
           exact hk (target.length - (i + 1)) _ (by omega) ⟨i + 1, rfl, by omega, rfl⟩
         ·rw [decide_eq_false (by omega), cond_false, Int.toNat_natCast, List.drop_eq_nil_of_le (by omega)]
          rfl
        ·show joinC (some (if (target.drop 0).any (· == 10) = true then _ else _)) _ = _
         rw [List.drop_zero]
         cases target.any (· == 10) <;> rfl
theorem impl_nodeOk (x : NodeT) : m_impl_NodeOk x = some (nodeOk x, ()) := by
 obtain ⟨p, kd, md, tm, data, target, g⟩ := x
 unfold m_impl_NodeOk nodeOk
 refine bind_eq (x := (((), !(pathOk p && (inI md 0 511 && inI tm 0 1000000000)), ()), (p, kd, md, tm, data, target, g, ()), ())) ?_ ?_
 ·rw [impl_pathOk, Option.bind_some]
  simp only [within_eq, Option.bind_some]
  unfold inI
  cases pathOk p <;> cases (decide (md ≥ 0) && decide (md ≤ 511)) <;> rfl
 ·dsimp only
  cases (pathOk p && (inI md 0 511 && inI tm 0 1000000000)) with
  | false => rfl
  | true =>
   simp only [Bool.not_true, cond_false, Bool.true_and, nilOf]
   unfold nodeKind
   cases kd == 0 with
   | true => cases data == [] <;> cases target == [] <;> rfl
   | false =>
    simp only [cond_false]
    cases kd == 1 with
    | true =>
     simp only [cond_true, within_eq, Option.bind_some]
     cases decide ((data.length : Int) ≤ 20000) <;> cases target == [] <;> rfl
    | false =>
     simp only [cond_false]
     cases kd == 2 with
     | false => rfl
     | true =>
      simp only [cond_true, within_eq, Option.bind_some, contains_nl]
      unfold inI
      cases data == [] <;> cases md == 0 <;> cases g == 0 <;> cases (decide ((target.length : Int) ≥ 1) && decide ((target.length : Int) ≤ 60)) <;> rfl
theorem less_irrefl : ∀ a : List UInt8, Op.bytesLess a a = false
 | [] => rfl
 | x :: r => by simp [Op.bytesLess, less_irrefl r]
theorem less_trans : ∀ {a b c : List UInt8}, Op.bytesLess a b = true → Op.bytesLess b c = true → Op.bytesLess a c = true
 | _, [], _, h, _ => by cases ‹List UInt8› <;> simp [Op.bytesLess] at h
 | _, _ :: _, [], _, h => by simp [Op.bytesLess] at h
 | [], y :: b, z :: c, _, _ => rfl
 | x :: a, y :: b, z :: c, h1, h2 => by
  simp only [Op.bytesLess, Bool.or_eq_true, Bool.and_eq_true, decide_eq_true_eq, beq_iff_eq] at h1 h2 ⊢
  rcases h1 with h1 | ⟨rfl, h1⟩ <;> rcases h2 with h2 | ⟨rfl, h2⟩
  ·left; exact UInt8.lt_trans h1 h2
  ·left; exact h1
  ·left; exact h2
  ·right; exact ⟨rfl, less_trans h1 h2⟩
theorem cmp_spec : ∀ (a b : List UInt8), (Go.Lib.compareBytes a b = -1 ∧ Op.bytesLess a b = true) ∨ (Go.Lib.compareBytes a b = 0 ∧ a = b) ∨ (Go.Lib.compareBytes a b = 1 ∧ Op.bytesLess b a = true)
 | [], [] => .inr (.inl ⟨rfl, rfl⟩)
 | [], _ :: _ => .inl ⟨rfl, rfl⟩
 | _ :: _, [] => .inr (.inr ⟨rfl, rfl⟩)
 | x :: a, y :: b => by
  by_cases h1 : x < y
  ·exact .inl ⟨by simp [Go.Lib.compareBytes, h1], by simp [Op.bytesLess, h1]⟩
  ·by_cases h2 : y < x
   ·exact .inr (.inr ⟨by simp [Go.Lib.compareBytes, h1, h2], by simp [Op.bytesLess, h2]⟩)
   ·have hxy : x = y := UInt8.le_antisymm (UInt8.not_lt.1 h2) (UInt8.not_lt.1 h1)
    subst hxy
    rcases cmp_spec a b with ⟨g1, g2⟩ | ⟨g1, g2⟩ | ⟨g1, g2⟩
    ·exact .inl ⟨by simp [Go.Lib.compareBytes, g1], by simp [Op.bytesLess, g2]⟩
    ·exact .inr (.inl ⟨by simp [Go.Lib.compareBytes, g1], by rw [g2]⟩)
    ·exact .inr (.inr ⟨by simp [Go.Lib.compareBytes, g1], by simp [Op.bytesLess, g2]⟩)
theorem less_asymm {a b : List UInt8} (h : Op.bytesLess a b = true) : Op.bytesLess b a = false := by
 cases hb : Op.bytesLess b a with
 | false => rfl
 | true => have := less_trans h hb; rw [less_irrefl] at this; cases this
theorem less_ne {a b : List UInt8} (h : Op.bytesLess a b = true) : a ≠ b := by rintro rfl; rw [less_irrefl] at h; cases h
theorem less_prefix : ∀ (a : List UInt8) (c : UInt8) (r : List UInt8), Op.bytesLess a (a ++ c :: r) = true
 | [], _, _ => rfl
 | x :: a, c, r => by simp [Op.bytesLess, less_prefix a c r]
def joinS : List (List UInt8) → List UInt8
 | [] => []
 | [a] => a
 | a :: b :: r => a ++ 47 :: joinS (b :: r)
theorem join_eq : ∀ l : List (List UInt8), Go.Lib.join l [47] = joinS l
 | [] => rfl
 | [a] => by simp [Go.Lib.join, List.intercalate, joinS]
 | a :: b :: r => by
  have := join_eq (b :: r)
  simp only [Go.Lib.join, List.intercalate] at this ⊢
  rw [show List.intersperse [47] (a :: b :: r) = a :: [47] :: List.intersperse [47] (b :: r) from rfl]
  simp only [List.flatten_cons, this, joinS]
  rfl
theorem join_snoc : ∀ (l : List (List UInt8)) (x : List UInt8), l ≠ [] → joinS (l ++ [x]) = joinS l ++ 47 :: x
 | [], x, h => absurd rfl h
 | [a], x, _ => rfl
 | a :: b :: l, x, _ => by
  have := join_snoc (b :: l) x (by simp)
  simp only [List.cons_append] at this ⊢
  simp only [joinS, this, List.append_assoc, List.cons_append]
theorem join_prep (c : UInt8) (l : List (List UInt8)) (h : l ≠ []) : joinS (prep [c] l) = c :: joinS l := by
 rcases l with _ | ⟨a, _ | ⟨b, r⟩⟩
 ·exact absurd rfl h
 ·simp [prep, joinS]
 ·simp [prep, joinS]
theorem join_split : ∀ s : List UInt8, joinS (split s) = s
 | [] => rfl
 | c :: r => by
  by_cases hc : c = 47
  ·rw [split_slash hc, hc]
   rcases hsp : split r with _ | ⟨a, b⟩
   ·exact absurd hsp (split_ne _)
   ·have := join_split r
    rw [hsp] at this
    show [] ++ 47 :: joinS (a :: b) = _
    rw [this]; rfl
  ·rw [split_other hc, join_prep _ _ (split_ne _), join_split r]
theorem join_len (l : List (List UInt8)) : (joinS l).length ≤ (l.map (fun x => x.length + 1)).sum := by
 induction l with
 | nil => exact Nat.zero_le _
 | cons a r ih =>
  rcases r with _ | ⟨b, r⟩
  ·simp [joinS]
  ·simp only [joinS, List.length_append, List.map_cons, List.sum_cons, List.length_cons] at ih ⊢
   omega
def parent (s : List UInt8) : List UInt8 := joinS (names s).dropLast
theorem names_len (s : List UInt8) : (names s).length ≤ 8 := by
 unfold names
 split
 ·rename_i h; exact h.2.1
 ·exact Nat.zero_le _
theorem names_sum (s : List UInt8) : ((names s).map (fun x => x.length + 1)).sum ≤ 169 := by
 unfold names
 split
 ·rename_i h; rw [← split_sum]; omega
 ·exact Nat.zero_le _
theorem take_sum_le (l : List (List UInt8)) (i : Nat) : ((l.take i).map (fun x => x.length + 1)).sum ≤ (l.map (fun x => x.length + 1)).sum := by
 conv => rhs; rw [← List.take_append_drop i l]
 rw [List.map_append, List.sum_append]; omega
theorem joinTake_len (s : List UInt8) (i : Nat) : (joinS ((names s).take i)).length ≤ 169 :=
 Nat.le_trans (join_len _) (Nat.le_trans (take_sum_le _ _) (names_sum s))
theorem spec_names' (s : List UInt8) : m_spec_Names s = some (names s, ()) := by
 unfold m_spec_Names
 rw [spec_pathOk, Option.bind_some, names_ok]
 cases hp : pathOk s with
 | false => rfl
 | true =>
  have hl : s.length ≤ 168 := by unfold pathOk at hp; rw [Bool.and_eq_true, decide_eq_true_eq] at hp; exact hp.1
  simp only [Bool.not_true, cond_false, if_true]
  rw [spec_names s (by omega)]; rfl
theorem spec_parent (s : List UInt8) : m_spec_ParentOf s = some (parent s, ()) := by
 unfold m_spec_ParentOf parent
 rw [spec_names', Option.bind_some]
 dsimp only
 have hl := names_len s
 have key := loopC_inv (fun (t : (List (List UInt8) × List UInt8 × Int × Unit) × Unit) (k : (List (List UInt8) × List UInt8 × Int × Unit) × Unit → Option ((List UInt8 × Unit) × Unit)) =>
     bif decide (IntKind.wrap .i64 (t.fst.snd.snd.fst + 1) < (↑(List.length t.fst.fst) : Int)) then
      Option.bind
       (bif decide (t.fst.snd.snd.fst > 0) then
        if List.length t.fst.snd.fst + List.length ([47] : List UInt8) < 2 ^ 63 then some ((t.fst.fst, t.fst.snd.fst ++ [47], t.fst.snd.snd), ()) else none
       else some t)
       fun t =>
       if 0 ≤ t.fst.snd.snd.fst ∧ t.fst.snd.snd.fst < (↑(List.length t.fst.fst) : Int) then
        if List.length t.fst.snd.fst + List.length (List.getD t.fst.fst (Int.toNat t.fst.snd.snd.fst) (nilOf UInt8)) < 2 ^ 63 then
         k ((t.fst.fst, t.fst.snd.fst ++ List.getD t.fst.fst (Int.toNat t.fst.snd.snd.fst) (nilOf UInt8), IntKind.wrap .i64 (t.fst.snd.snd.fst + 1), ()), ())
        else none
       else none
     else some ((t.fst.snd.fst, ()), ()))
  (fun n t => ∃ i : Nat, t = ((names s, joinS ((names s).take i), (i : Int), ()), ()) ∧ (i ≤ (names s).length - 1 ∨ i = 0) ∧ n = (names s).length - i)
  (fun _ => some ((joinS (names s).dropLast, ()), ())) (by
  rintro n t k ⟨i, rfl, hi, rfl⟩ hk
  dsimp only
  rw [wr1 i (by omega)]
  by_cases hlt : i + 1 < (names s).length
  ·rw [decide_eq_true (by omega), cond_true]
   have hj := joinTake_len s i
   have hj1 := joinTake_len s (i + 1)
   have hget : (names s).getD i (nilOf UInt8) ∈ names s := getD_mem _ (by omega)
   have htake : (names s).take (i + 1) = (names s).take i ++ [(names s).getD i (nilOf UInt8)] := by
    rw [List.take_add_one, List.getElem?_eq_getElem (show i < (names s).length by omega), List.getD_eq_getElem?_getD, List.getElem?_eq_getElem (show i < (names s).length by omega)]
    rfl
   have step : (if (i : Int) > 0 then joinS ((names s).take i) ++ [47] else joinS ((names s).take i)) ++ (names s).getD i (nilOf UInt8) = joinS ((names s).take (i + 1)) := by
    rw [htake]
    by_cases h0 : i = 0
    ·subst h0; simp [joinS]
    ·rw [if_pos (by omega), join_snoc _ _ (by
      intro h
      have := congrArg List.length h
      rw [List.length_take] at this; have this : min i (names s).length = 0 := this; omega)]
     simp
   refine bind_eq (x := ((names s, (if (i : Int) > 0 then joinS ((names s).take i) ++ [47] else joinS ((names s).take i)), (i : Int), ()), ())) ?_ ?_
   ·by_cases h0 : (i : Int) > 0
    ·rw [decide_eq_true h0, cond_true, if_pos h0, if_pos (by simp only [List.length_cons, List.length_nil]; show _ < 9223372036854775808; omega)]
    ·rw [decide_eq_false h0, if_neg h0]; rfl
   ·dsimp only
    rw [if_pos (by omega), Int.toNat_natCast]
    rw [if_pos (by rw [← List.length_append, step]; show _ < 9223372036854775808; omega), step]
    exact hk ((names s).length - (i + 1)) _ (by omega) ⟨i + 1, by rw [wr1 i (by omega)], .inl (by omega), rfl⟩
  ·rw [decide_eq_false (by omega), cond_false]
   have : (names s).take i = (names s).dropLast := by
    rw [List.dropLast_eq_take]
    congr 1; omega
   rw [this])
  ((names s).length + 0 + 0 + 300) ((names s).length - 0) ((names s, [], 0, ()), ()) ⟨0, rfl, by omega, rfl⟩ (by omega)
 exact bind_eq key rfl
theorem impl_parent (s : List UInt8) : m_impl_ParentOf s = some (parent s, ()) := by
 unfold m_impl_ParentOf parent
 rw [impl_names, Option.bind_some]
 dsimp only
 have hl := names_len s
 cases hn : names s with
 | nil => rfl
 | cons a r =>
  rw [← hn]
  have hpos : 0 < (names s).length := by rw [hn]; simp
  have h0 : (((names s).length : Int) == 0) = false := by rw [beq_eq_false_iff_ne]; omega
  rw [h0, cond_false, wr _ (by omega), if_pos (by omega)]
  have hd : List.drop (Int.toNat 0) (List.take (Int.toNat (((names s).length : Int) - 1)) (names s)) = (names s).dropLast := by
   rw [List.dropLast_eq_take, show Int.toNat (((names s).length : Int) - 1) = (names s).length - 1 by omega]; rfl
  rw [hd]
  have hj : (joinS (names s).dropLast).length ≤ 169 := by rw [List.dropLast_eq_take]; exact joinTake_len s _
  have : m_strings_Join (names s).dropLast [47] = some (joinS (names s).dropLast, ()) := by
   unfold m_strings_Join joinM
   rw [join_eq, if_pos ⟨by rw [List.length_dropLast]; omega, by omega⟩]
  rw [this]; rfl
theorem parent_less {s : List UInt8} (h : pathOk s = true) : Op.bytesLess (parent s) s = true := by
 have hn : names s = split s := by rw [names_ok, if_pos h]
 unfold parent
 rw [hn]
 have hs := join_split s
 have hne := split_ne s
 have hd : split s = (split s).dropLast ++ [(split s).getLast hne] := (List.dropLast_concat_getLast hne).symm
 have hlast : nameOk ((split s).getLast hne) = true := by
  unfold pathOk at h
  simp only [Bool.and_eq_true] at h
  exact List.all_eq_true.1 h.2.2 _ (List.getLast_mem hne)
 have hl1 : 1 ≤ ((split s).getLast hne).length := by
  unfold nameOk at hlast
  simp only [Bool.and_eq_true, decide_eq_true_eq] at hlast
  exact hlast.1.1
 by_cases h0 : (split s).dropLast = []
 ·rw [h0]
  rw [h0] at hd
  rw [hd] at hs
  have : s ≠ [] := by
   rintro rfl
   have e : (split []).getLast hne = [] := hs
   rw [e] at hl1; simp at hl1
  cases s with
  | nil => exact absurd rfl this
  | cons c r => rfl
 ·rw [hd, join_snoc _ _ h0] at hs
  have := less_prefix (joinS (split s).dropLast) 47 ((split s).getLast hne)
  rw [hs] at this
  exact this
def dN : NodeT := (nilOf UInt8, Int.ofNat (nat_lit 0), Int.ofNat (nat_lit 0), Int.ofNat (nat_lit 0), nilOf UInt8, nilOf UInt8, Int.ofNat (nat_lit 0))
def pth (l : List NodeT) (i : Nat) : List UInt8 := (l.getD i dN).1
def Sorted (l : List NodeT) : Prop := ∀ i, i + 1 < l.length → Op.bytesLess (pth l i) (pth l (i + 1)) = true
theorem Sorted.lt {l : List NodeT} (h : Sorted l) : ∀ {j i : Nat}, i < j → j < l.length → Op.bytesLess (pth l i) (pth l j) = true
 | 0, i, hij, _ => by omega
 | j + 1, i, hij, hj => by
  by_cases e : i = j
  ·subst e; exact h i hj
  ·exact less_trans (h.lt (show i < j by omega) (by omega)) (h j hj)
theorem Sorted.take {l : List NodeT} (h : Sorted l) (n : Nat) : Sorted (l.take n) := by
 intro i hi
 rw [List.length_take] at hi
 have e : ∀ k, k < n → pth (l.take n) k = pth l k := by
  intro k hk
  unfold pth
  rw [List.getD_eq_getElem?_getD, List.getD_eq_getElem?_getD, List.getElem?_take, if_pos hk]
 rw [e i (by omega), e (i + 1) (by omega)]
 exact h i (by omega)
def found (l : List NodeT) (p : List UInt8) (i : Nat) : Bool := decide (i < l.length) && pth l i == p
theorem wrU (x : Int) (h : 0 ≤ x ∧ x ≤ 9223372036854775807) : IntKind.wrap .u64 x = x := by
 simp [IntKind.wrap, IntKind.signed, IntKind.bits]; omega
theorem mid (i j : Nat) (hi : i ≤ 1099511627776) (hj : j ≤ 1099511627776) :
    IntKind.wrap .i64 (Int.fdiv (IntKind.wrap .u64 (IntKind.wrap .i64 ((i : Int) + (j : Int)))) (2 ^ min (Int.toNat 1) (IntKind.bits .u64))) = (((i + j) / 2 : Nat) : Int) := by
 rw [wr ((i : Int) + (j : Int)) (by omega), wrU ((i : Int) + (j : Int)) (by omega)]
 have : (2 : Int) ^ min (Int.toNat 1) (IntKind.bits .u64) = 2 := rfl
 rw [this, Int.fdiv_eq_ediv_of_nonneg _ (by omega), wr _ (by omega)]
 omega
theorem place1 (n : NodeT) (p : List UInt8) : m_impl_place_1 n p = some (Go.Lib.compareBytes n.1 p, ()) := rfl
/-- The place of a path. -/
def Place (l : List NodeT) (p : List UInt8) (i : Nat) : Prop := i ≤ l.length ∧ (∀ k, k < i → Op.bytesLess (pth l k) p = true) ∧ ∀ k, i ≤ k → k < l.length → Op.bytesLess (pth l k) p = false
theorem search (l : List NodeT) (hs : Sorted l) (hl : l.length ≤ 1099511627776) (p : List UInt8) : ∃ i, Place l p i ∧ m_slices_BinarySearchFunc_impl_Node_impl_Node_string l p = some (((i : Int), found l p i, ()), ()) := by
 unfold m_slices_BinarySearchFunc_impl_Node_impl_Node_string
 have key := loopC_some' (fun (s : (List NodeT × List UInt8 × Unit × Int × Int × Int × Unit) × Unit) (k : (List NodeT × List UInt8 × Unit × Int × Int × Int × Unit) × Unit → Option ((List NodeT × List UInt8 × Unit × Int × Int × Unit) × Unit)) =>
     bif decide (s.1.2.2.2.2.1 < s.1.2.2.2.2.2.1) then if (0 : Int) ≤ 1 then if 0 ≤ IntKind.wrap .i64 (Int.fdiv (IntKind.wrap IntKind.u64 (IntKind.wrap .i64 (s.1.2.2.2.2.1 + s.1.2.2.2.2.2.1))) (2 ^ min (Int.toNat 1) (IntKind.bits IntKind.u64))) ∧ IntKind.wrap .i64 (Int.fdiv (IntKind.wrap IntKind.u64 (IntKind.wrap .i64 (s.1.2.2.2.2.1 + s.1.2.2.2.2.2.1))) (2 ^ min (Int.toNat 1) (IntKind.bits IntKind.u64))) < (↑(List.length s.1.1) : Int) then
      Option.bind (m_impl_place_1 (List.getD s.1.1 (Int.toNat (IntKind.wrap .i64 (Int.fdiv (IntKind.wrap IntKind.u64 (IntKind.wrap .i64 (s.1.2.2.2.2.1 + s.1.2.2.2.2.2.1))) (2 ^ min (Int.toNat 1) (IntKind.bits IntKind.u64))))) dN) s.1.2.1) fun r =>
      Option.bind (bif decide (r.1 < 0) then
       some ((s.1.1, s.1.2.1, (), s.1.2.2.2.1, IntKind.wrap .i64 (IntKind.wrap .i64 (Int.fdiv (IntKind.wrap IntKind.u64 (IntKind.wrap .i64 (s.1.2.2.2.2.1 + s.1.2.2.2.2.2.1))) (2 ^ min (Int.toNat 1) (IntKind.bits IntKind.u64))) + 1), s.1.2.2.2.2.2), ()) else
       some ((s.1.1, s.1.2.1, (), s.1.2.2.2.1, s.1.2.2.2.2.1, IntKind.wrap .i64 (Int.fdiv (IntKind.wrap IntKind.u64 (IntKind.wrap .i64 (s.1.2.2.2.2.1 + s.1.2.2.2.2.2.1))) (2 ^ min (Int.toNat 1) (IntKind.bits IntKind.u64))), ()), ())) fun s => k ((s.1.1, s.1.2.1, (), s.1.2.2.2), ()) else none else none else
     some ((s.1.1, s.1.2.1, (), s.1.2.2.2.1, s.1.2.2.2.2.1, ()), ()))
  (fun c t => ∃ i j : Nat, t = ((l, p, (), (l.length : Int), (i : Int), (j : Int), ()), ()) ∧ i ≤ j ∧ j ≤ l.length ∧ (∀ k, k < i → Op.bytesLess (pth l k) p = true) ∧ (∀ k, j ≤ k → k < l.length → Op.bytesLess (pth l k) p = false) ∧ c = j - i)
  (fun r => ∃ i : Nat, r = ((l, p, (), (l.length : Int), (i : Int), ()), ()) ∧ Place l p i)
  (by
   rintro c t k ⟨i, j, rfl, hij, hj, h1, h2, rfl⟩ hk
   dsimp only
   by_cases hlt : i < j
   ·rw [decide_eq_true (by omega), cond_true, if_pos (by omega), mid i j (by omega) (by omega), if_pos (by omega), Int.toNat_natCast, place1, Option.bind_some]
    dsimp only
    have hh : (i + j) / 2 < j := by omega
    have hh2 : i ≤ (i + j) / 2 := by omega
    rcases cmp_spec (l.getD ((i + j) / 2) dN).1 p with ⟨g1, g2⟩ | ⟨g1, g2⟩ | ⟨g1, g2⟩
    ·rw [g1, decide_eq_true (by omega), cond_true, Option.bind_some]
     dsimp only
     rw [wr1 _ (by omega)]
     refine hk (j - ((i + j) / 2 + 1)) _ (by omega) ⟨(i + j) / 2 + 1, j, rfl, by omega, hj, fun k hk' => ?_, h2, rfl⟩
     by_cases e : k = (i + j) / 2
     ·subst e; exact g2
     ·exact less_trans (hs.lt (show k < (i + j) / 2 by omega) (by omega)) g2
    ·rw [g1, decide_eq_false (by omega), cond_false, Option.bind_some]
     refine hk ((i + j) / 2 - i) _ (by omega) ⟨i, (i + j) / 2, rfl, by omega, by omega, h1, fun k hk1 hk2 => ?_, rfl⟩
     have g2' : pth l ((i + j) / 2) = p := g2
     by_cases e : k = (i + j) / 2
     ·subst e; rw [g2']; exact less_irrefl p
     ·rw [← g2']; exact less_asymm (hs.lt (show (i + j) / 2 < k by omega) hk2)
    ·rw [g1, decide_eq_false (by omega), cond_false, Option.bind_some]
     refine hk ((i + j) / 2 - i) _ (by omega) ⟨i, (i + j) / 2, rfl, by omega, by omega, h1, fun k hk1 hk2 => ?_, rfl⟩
     by_cases e : k = (i + j) / 2
     ·subst e; exact less_asymm g2
     ·exact less_asymm (less_trans g2 (hs.lt (show (i + j) / 2 < k by omega) hk2))
   ·rw [decide_eq_false (by omega), cond_false]
    have : i = j := by omega
    subst this
    exact ⟨_, rfl, i, rfl, hj, h1, h2⟩)
  (l.length + p.length + Int.toNat (l.length : Int) + Int.toNat 0 + Int.toNat (l.length : Int) + 300) (l.length - 0) ((l, p, (), (l.length : Int), (0 : Int), (l.length : Int), ()), ()) ⟨0, l.length, rfl, by omega, Nat.le_refl _, fun k hk => by omega, fun k h1 h2 => by omega, rfl⟩ (by omega)
 obtain ⟨r, hr, i, rfl, hp⟩ := key
 refine ⟨i, hp, bind_eq hr ?_⟩
 dsimp only
 unfold found
 by_cases hi : i < l.length
 ·rw [decide_eq_true (by omega), cond_true, if_pos (by omega), Int.toNat_natCast]
  have e : m_impl_place_1 (l.getD i dN) p = some (Go.Lib.compareBytes (pth l i) p, ()) := rfl
  refine bind_eq (bind_eq e rfl) ?_
  dsimp only
  rw [decide_eq_true hi, Bool.true_and]
  congr 4
  rcases cmp_spec (pth l i) p with ⟨g1, g2⟩ | ⟨g1, g2⟩ | ⟨g1, g2⟩
  ·rw [g1, beq_eq_false_iff_ne.2 (less_ne g2)]; rfl
  ·rw [g1, g2]; simp
  ·rw [g1, beq_eq_false_iff_ne.2 (less_ne g2).symm]; rfl
 ·rw [decide_eq_false (by omega), cond_false, decide_eq_false hi]; rfl
theorem impl_place_eq (l : List NodeT) (hs : Sorted l) (hl : l.length ≤ 1099511627776) (p : List UInt8) : ∃ i, Place l p i ∧ m_impl_place l p = some (((i : Int), found l p i, ()), ()) := by
 obtain ⟨i, h1, h2⟩ := search l hs hl p
 exact ⟨i, h1, by unfold m_impl_place; rw [h2]; rfl⟩
/-- What stands at a path in a tree. -/
theorem found_of {l : List NodeT} (hs : Sorted l) {p : List UInt8} {i : Nat} (hp : Place l p i) {k : Nat} (hk : k < l.length) (he : pth l k = p) : k = i ∧ found l p i = true := by
 obtain ⟨h0, h1, h2⟩ := hp
 have hki : k = i := by
  rcases Nat.lt_trichotomy k i with h | h | h
  ·have := h1 k h; rw [he, less_irrefl] at this; cases this
  ·exact h
  ·have hi : i < l.length := by omega
   have := h2 i (Nat.le_refl _) hi
   rw [← he, hs.lt h hk] at this; cases this
 subst hki
 refine ⟨rfl, ?_⟩
 unfold found
 rw [decide_eq_true hk, he]; simp
def isDir (l : List NodeT) (p : List UInt8) : Bool := p == [] || l.any (fun n => n.1 == p && n.2.1 == 0)
theorem any_idx {l : List NodeT} {f : NodeT → Bool} : l.any f = true ↔ ∃ k, k < l.length ∧ f (l.getD k dN) = true := by
 rw [List.any_eq_true]
 constructor
 ·rintro ⟨x, hx, h⟩
  obtain ⟨k, hk, rfl⟩ := List.getElem_of_mem hx
  exact ⟨k, hk, by rw [List.getD_eq_getElem?_getD, List.getElem?_eq_getElem hk]; exact h⟩
 ·rintro ⟨k, hk, h⟩
  exact ⟨_, getD_mem dN hk, h⟩
theorem impl_isDirIn (l : List NodeT) (hs : Sorted l) (hl : l.length ≤ 1099511627776) (p : List UInt8) : m_impl_isDirIn l p = some (isDir l p, ()) := by
 unfold m_impl_isDirIn isDir
 obtain ⟨i, hp, he⟩ := impl_place_eq l hs hl p
 rw [he, Option.bind_some]
 dsimp only
 simp only [nilOf]
 cases hpe : p == [] with
 | true => rfl
 | false =>
  simp only [cond_false, Bool.false_or]
  cases hf : found l p i with
  | false =>
   have : l.any (fun n => n.1 == p && n.2.1 == 0) = false := by
    rw [Bool.eq_false_iff]
    intro h
    obtain ⟨k, hk, h⟩ := any_idx.1 h
    rw [Bool.and_eq_true, beq_iff_eq] at h
    have := (found_of hs hp hk h.1).2
    rw [hf] at this; cases this
   rw [this]; rfl
  | true =>
   have hf' := hf
   unfold found at hf'
   rw [Bool.and_eq_true, decide_eq_true_eq, beq_iff_eq] at hf'
   simp only [cond_true]
   rw [if_pos (by omega), Int.toNat_natCast, Option.bind_some]
   have : l.any (fun n => n.1 == p && n.2.1 == 0) = ((l.getD i dN).2.1 == 0) := by
    rw [Bool.eq_iff_iff, any_idx]
    constructor
    ·rintro ⟨k, hk, h⟩
     rw [Bool.and_eq_true, beq_iff_eq] at h
     have := (found_of hs hp hk h.1).1
     subst this; exact h.2
    ·intro h
     exact ⟨i, hf'.1, by rw [Bool.and_eq_true, beq_iff_eq]; exact ⟨hf'.2, h⟩⟩
   rw [this]; rfl
/-- The first place of a path in any nodes. -/
def atO (l : List NodeT) (p : List UInt8) : Option Nat := (List.range l.length).find? (fun i => pth l i == p)
def atV (l : List NodeT) (p : List UInt8) : Int := match atO l p with | some i => (i : Int) | none => -1
theorem atO_spec (l : List NodeT) (p : List UInt8) : (∃ i, atO l p = some i ∧ i < l.length ∧ pth l i = p) ∨ (atO l p = none ∧ ∀ i, i < l.length → pth l i ≠ p) := by
 unfold atO
 cases h : (List.range l.length).find? (fun i => pth l i == p) with
 | some i =>
  left
  have h1 := List.find?_some h
  have h2 := List.mem_of_find?_eq_some h
  exact ⟨i, rfl, List.mem_range.1 h2, by simpa using h1⟩
 | none =>
  right
  rw [List.find?_eq_none] at h
  exact ⟨rfl, fun i hi e => h i (List.mem_range.2 hi) (by simp [e])⟩
theorem allLoopP {S R : Type} (F : S → (S → Option R) → Option R) (st : Nat → S) (len : Nat) (ok : Nat → Bool) (yes no : R)
    (hstep : ∀ i k, i < len → (∀ j, j < i → ok j = true) → F (st i) k = cond (ok i) (k (st (i + 1))) (some no)) (hend : ∀ k, (∀ j, j < len → ok j = true) → F (st len) k = some yes) (fuel : Nat) (hf : len < fuel) :
    loopC fuel F (st 0) = some (cond ((List.range len).all ok) yes no) := by
 have key := loopC_inv F (fun n s => ∃ i, i ≤ len ∧ s = st i ∧ n = len - i ∧ ∀ j, j < i → ok j = true) (fun _ => some (cond ((List.range len).all ok) yes no)) (by
  rintro n s k ⟨i, hi, rfl, rfl, hj⟩ hk
  by_cases hlt : i < len
  ·rw [hstep i k hlt hj]
   cases ho : ok i with
   | false =>
    have : (List.range len).all ok = false := by
     rw [List.all_eq_false]; exact ⟨i, List.mem_range.2 hlt, by simp [ho]⟩
    rw [this]; rfl
   | true =>
    rw [cond_true]
    refine hk (len - (i + 1)) _ (by omega) ⟨i + 1, by omega, rfl, rfl, fun j hj' => ?_⟩
    by_cases h : j = i
    ·subst h; exact ho
    ·exact hj j (by omega)
  ·have : i = len := by omega
   subst this
   rw [hend k hj]
   have : (List.range i).all ok = true := by rw [List.all_eq_true]; exact fun j hj' => hj j (List.mem_range.1 hj')
   rw [this]; rfl)
 exact key fuel len _ ⟨0, by omega, rfl, by omega, fun j hj => by omega⟩ hf
theorem all_iff {n : Nat} {f : Nat → Bool} : (List.range n).all f = true ↔ ∀ i, i < n → f i = true := by
 rw [List.all_eq_true]
 exact ⟨fun h i hi => h i (List.mem_range.2 hi), fun h i hi => h i (List.mem_range.1 hi)⟩
def nd (l : List NodeT) (i : Nat) : NodeT := l.getD i dN
def grp (l : List NodeT) (i : Nat) : Int := (nd l i).2.2.2.2.2.2
def dat (l : List NodeT) (i : Nat) : List UInt8 := (nd l i).2.2.2.2.1
def alike (a b : NodeT) : Bool := a.2.2.1 == b.2.2.1 && (a.2.2.2.1 == b.2.2.2.1 && a.2.2.2.2.1 == b.2.2.2.2.1)
def sumTo (l : List NodeT) : Nat → Nat
 | 0 => 0
 | i + 1 => sumTo l i + (dat l i).length
def Small (l : List NodeT) : Prop := l.length ≤ 1048576 ∧ ∀ x ∈ l, x.2.2.2.2.1.length ≤ 1048576 ∧ x.2.2.2.2.2.1.length ≤ 1048576
theorem sumTo_le {l : List NodeT} (h : Small l) : ∀ {i : Nat}, i ≤ l.length → sumTo l i ≤ i * 1048576
 | 0, _ => Nat.zero_le _
 | i + 1, hi => by
  have h1 := sumTo_le h (show i ≤ l.length by omega)
  have h2 : (dat l i).length ≤ 1048576 := (h.2 _ (getD_mem dN (show i < l.length by omega))).1
  simp only [sumTo]; omega
def upS (l : List NodeT) (p : List UInt8) : Bool := p == [] || (match atO l p with | some k => (nd l k).2.1 == 0 | none => false)
def lessAt (l : List NodeT) (i : Nat) : Bool := i == 0 || Op.bytesLess (pth l (i - 1)) (pth l i)
def stepS (l : List NodeT) (i : Nat) : Bool := nodeOk (nd l i) && (lessAt l i && upS l (parent (pth l i)))
def mates (l : List NodeT) (g : Int) : Nat → Nat
 | 0 => 0
 | k + 1 => mates l g k + (cond (grp l k == g) 1 0)
theorem mates_le (l : List NodeT) (g : Int) : ∀ n, mates l g n ≤ n
 | 0 => Nat.le_refl _
 | n + 1 => by
  have := mates_le l g n
  simp only [mates]
  cases grp l n == g
  ·show _ + 0 ≤ _; omega
  ·show _ + 1 ≤ _; omega
def mateOk (l : List NodeT) (i k : Nat) : Bool := !(grp l k == grp l i) || alike (nd l k) (nd l i)
def okG (l : List NodeT) (i : Nat) : Bool := grp l i == 0 || ((List.range l.length).all (mateOk l i) && decide (2 ≤ mates l (grp l i) l.length))
def treeS (l : List NodeT) : Bool := decide (l.length ≤ 200) && ((List.range l.length).all (stepS l) && ((List.range l.length).all (okG l) && decide (sumTo l l.length ≤ 20000)))
theorem mget_mset {β : Type} (g h : Int) (x : β) : ∀ m : List (Int × β), mget (β := β) (.int .i64) g (mset (β := β) (.int .i64) h x m) = if g = h then some x else mget (β := β) (.int .i64) g m
 | [] => by
  by_cases e : g = h
  ·subst e; simp [mset, mget, keyEq]
  ·simp [mset, mget, keyEq, e]
 | p :: r => by
  have ih := mget_mset g h x r
  by_cases e1 : h = p.1
  ·by_cases e : g = h
   ·simp [mset, mget, keyEq, e1, e]
   ·have e2 : ¬g = p.1 := fun e' => e (e'.trans e1.symm)
    simp [mset, mget, keyEq, e1, e, e2]
  ·by_cases e : g = p.1
   ·have e2 : ¬g = h := fun e' => e1 (e'.symm.trans e)
    simp [mset, mget, keyEq, e1, e, e2]
    intro e3; exact absurd e3.symm e1
   ·simp only [mset, mget, keyEq, decide_eq_false e1, cond_false, decide_eq_false e]
    exact ih
theorem mget_mem {β : Type} (g : Int) (x : β) : ∀ m : List (Int × β), mget (β := β) (.int .i64) g m = some x → (g, x) ∈ m
 | [], h => by cases h
 | p :: r, h => by
  by_cases e : g = p.1
  ·simp only [mget, keyEq, decide_eq_true e, cond_true] at h
   injection h with h
   subst e; subst h
   exact List.mem_cons_self
  ·simp only [mget, keyEq, decide_eq_false e, cond_false] at h
   exact List.mem_cons_of_mem _ (mget_mem g x r h)
theorem mem_mget {β : Type} (g : Int) (x : β) : ∀ m : List (Int × β), (m.map Prod.fst).Nodup → (g, x) ∈ m → mget (β := β) (.int .i64) g m = some x
 | [], _, h => by cases h
 | p :: r, hn, h => by
  rw [List.map_cons, List.nodup_cons] at hn
  rcases List.mem_cons.1 h with e | h
  ·subst e; simp [mget, keyEq]
  ·have : ¬g = p.1 := by
    intro e; apply hn.1; rw [← e]; exact List.mem_map.2 ⟨_, h, rfl⟩
   simp only [mget, keyEq, decide_eq_false this, cond_false]
   exact mem_mget g x r hn.2 h
theorem mset_keys {β : Type} (g : Int) (x : β) : ∀ m : List (Int × β), (∀ k, k ∈ (mset (β := β) (.int .i64) g x m).map Prod.fst → k = g ∨ k ∈ m.map Prod.fst) ∧ ((m.map Prod.fst).Nodup → ((mset (β := β) (.int .i64) g x m).map Prod.fst).Nodup)
 | [] => ⟨fun k hk => by
     have : k ∈ [g] := hk
     exact .inl (List.mem_singleton.1 this), fun _ => by show [g].Nodup; simp⟩
 | p :: r => by
  obtain ⟨ih1, ih2⟩ := mset_keys g x r
  by_cases e : g = p.1
  ·have : mset (β := β) (.int .i64) g x (p :: r) = (g, x) :: r := by simp only [mset, keyEq, decide_eq_true e, cond_true]
   rw [this]
   constructor
   ·intro k hk
    rcases List.mem_cons.1 hk with h | h
    ·exact .inl h
    ·exact .inr (List.mem_cons_of_mem _ h)
   ·intro hn
    rw [List.map_cons] at hn ⊢
    rw [← e] at hn
    exact hn
  ·have : mset (β := β) (.int .i64) g x (p :: r) = p :: mset (β := β) (.int .i64) g x r := by simp only [mset, keyEq, decide_eq_false e, cond_false]
   rw [this]
   constructor
   ·intro k hk
    rcases List.mem_cons.1 hk with h | h
    ·exact .inr (h ▸ List.mem_cons_self)
    ·rcases ih1 k h with h | h
     ·exact .inl h
     ·exact .inr (List.mem_cons_of_mem _ h)
   ·intro hn
    rw [List.map_cons, List.nodup_cons] at hn ⊢
    refine ⟨fun hk => ?_, ih2 hn.2⟩
    rcases ih1 _ hk with h | h
    ·exact e h.symm
    ·exact hn.1 h
def Fmap (l : List NodeT) : Nat → List (Int × NodeT)
 | 0 => []
 | i + 1 => cond (grp l i == 0) (Fmap l i) (mset (β := NodeT) (.int .i64) (grp l i) (nd l i) (Fmap l i))
def Cmap (l : List NodeT) : Nat → List (Int × Int)
 | 0 => []
 | i + 1 => cond (grp l i == 0) (Cmap l i) (mset (β := Int) (.int .i64) (grp l i) (((mget (β := Int) (.int .i64) (grp l i) (Cmap l i)).getD 0) + 1) (Cmap l i))
theorem F_mem (l : List NodeT) (g : Int) (f : NodeT) : ∀ n, mget (β := NodeT) (.int .i64) g (Fmap l n) = some f → ∃ k, k < n ∧ grp l k = g ∧ f = nd l k
 | 0, h => by cases h
 | n + 1, h => by
  have up : mget (β := NodeT) (.int .i64) g (Fmap l n) = some f → ∃ k, k < n + 1 ∧ grp l k = g ∧ f = nd l k := fun h => by
   obtain ⟨k, h1, h2⟩ := F_mem l g f n h
   exact ⟨k, by omega, h2⟩
  simp only [Fmap] at h
  cases h0 : grp l n == 0 with
  | true => rw [h0, cond_true] at h; exact up h
  | false =>
   rw [h0, cond_false, mget_mset] at h
   by_cases e : g = grp l n
   ·rw [if_pos e] at h
    injection h with h
    exact ⟨n, by omega, e.symm, h.symm⟩
   ·rw [if_neg e] at h; exact up h
theorem alike_iff (a b : NodeT) : alike a b = true ↔ (a.2.2.1, a.2.2.2.1, a.2.2.2.2.1) = (b.2.2.1, b.2.2.2.1, b.2.2.2.2.1) := by
 unfold alike
 simp only [Bool.and_eq_true, beq_iff_eq, Prod.mk.injEq]
def mapOk' (l : List NodeT) (i : Nat) : Bool := grp l i == 0 || (match mget (β := NodeT) (.int .i64) (grp l i) (Fmap l i) with | some f => alike f (nd l i) | none => true)
theorem F_chain (l : List NodeT) (g : Int) (hg : g ≠ 0) : ∀ n, (∀ j, j < n → mapOk' l j = true) → (∀ f, mget (β := NodeT) (.int .i64) g (Fmap l n) = some f → ∀ k, k < n → grp l k = g → alike f (nd l k) = true) ∧ (mget (β := NodeT) (.int .i64) g (Fmap l n) = none → ∀ k, k < n → grp l k ≠ g)
 | 0, _ => ⟨fun f _ k hk => by omega, fun _ k hk => by omega⟩
 | n + 1, h => by
  obtain ⟨ih1, ih2⟩ := F_chain l g hg n (fun j hj => h j (by omega))
  have hn := h n (by omega)
  unfold mapOk' at hn
  simp only [Fmap]
  cases h0 : grp l n == 0 with
  | true =>
   rw [cond_true]
   have hne : grp l n ≠ g := by rw [beq_iff_eq] at h0; rw [h0]; exact hg.symm
   refine ⟨fun f hf k hk e => ?_, fun hf k hk => ?_⟩
   ·by_cases ek : k = n
    ·subst ek; exact absurd e hne
    ·exact ih1 f hf k (by omega) e
   ·by_cases ek : k = n
    ·subst ek; exact hne
    ·exact ih2 hf k (by omega)
  | false =>
   rw [cond_false, mget_mset]
   rw [h0, Bool.false_or] at hn
   by_cases e : g = grp l n
   ·rw [if_pos e]
    refine ⟨fun f hf k hk ek => ?_, fun hf => by cases hf⟩
    injection hf with hf
    subst hf
    by_cases ek' : k = n
    ·subst ek'; exact (alike_iff _ _).2 rfl
    ·rw [← e] at hn
     cases hm : mget (β := NodeT) (.int .i64) g (Fmap l n) with
     | none => exact absurd ek (ih2 hm k (by omega))
     | some f =>
      rw [hm] at hn
      have h1 := (alike_iff _ _).1 hn
      have h2 := (alike_iff _ _).1 (ih1 f hm k (by omega) ek)
      exact (alike_iff _ _).2 (h1.symm.trans h2)
   ·rw [if_neg e]
    refine ⟨fun f hf k hk ek => ?_, fun hf k hk => ?_⟩
    ·by_cases ek' : k = n
     ·subst ek'; exact absurd ek.symm e
     ·exact ih1 f hf k (by omega) ek
    ·by_cases ek' : k = n
     ·subst ek'; exact fun h => e h.symm
     ·exact ih2 hf k (by omega)
theorem C_nodup (l : List NodeT) : ∀ n, ((Cmap l n).map Prod.fst).Nodup
 | 0 => List.nodup_nil
 | n + 1 => by
  simp only [Cmap]
  cases grp l n == 0 with
  | true => exact C_nodup l n
  | false => exact (mset_keys _ _ _).2 (C_nodup l n)
theorem mates_yes {l : List NodeT} {g : Int} {n : Nat} (h : grp l n = g) : mates l g (n + 1) = mates l g n + 1 := by
 simp only [mates]; rw [show (grp l n == g) = true by simp [h]]; rfl
theorem mates_no {l : List NodeT} {g : Int} {n : Nat} (h : ¬grp l n = g) : mates l g (n + 1) = mates l g n := by
 simp only [mates]; rw [show (grp l n == g) = false by simp [h]]; rfl
theorem C_get (l : List NodeT) (g : Int) : ∀ n, mget (β := Int) (.int .i64) g (Cmap l n) = if g ≠ 0 ∧ 0 < mates l g n then some (mates l g n : Int) else none
 | 0 => by
  rw [if_neg (by rintro ⟨_, h⟩; exact Nat.lt_irrefl _ h)]; rfl
 | n + 1 => by
  have ih := C_get l g n
  by_cases h0 : grp l n = 0
  ·have e1 : Cmap l (n + 1) = Cmap l n := by simp only [Cmap]; rw [show (grp l n == 0) = true by simp [h0]]; rfl
   rw [e1, ih]
   by_cases hg : g = 0
   ·rw [if_neg (by rintro ⟨h, _⟩; exact h hg), if_neg (by rintro ⟨h, _⟩; exact h hg)]
   ·rw [mates_no (show ¬grp l n = g by rw [h0]; exact fun h => hg h.symm)]
  ·have e1 : Cmap l (n + 1) = mset (β := Int) (.int .i64) (grp l n) (((mget (β := Int) (.int .i64) (grp l n) (Cmap l n)).getD 0) + 1) (Cmap l n) := by
    simp only [Cmap]; rw [show (grp l n == 0) = false by simp [h0]]; rfl
   rw [e1, mget_mset]
   by_cases e : g = grp l n
   ·have hg : g ≠ 0 := by rw [e]; exact h0
    rw [if_pos e, mates_yes e.symm, if_pos ⟨hg, by omega⟩, ← e, ih]
    by_cases hm : 0 < mates l g n
    ·rw [if_pos ⟨hg, hm⟩]; rfl
    ·rw [if_neg (by rintro ⟨_, h⟩; exact hm h), show mates l g n = 0 by omega]; rfl
   ·rw [if_neg e, ih, mates_no (fun h => e h.symm)]
theorem mates_pos (l : List NodeT) (g : Int) : ∀ n, 0 < mates l g n ↔ ∃ i, i < n ∧ grp l i = g
 | 0 => ⟨fun h => absurd h (Nat.lt_irrefl _), fun ⟨i, h, _⟩ => by omega⟩
 | n + 1 => by
  have ih := mates_pos l g n
  simp only [mates]
  cases h : grp l n == g with
  | true =>
   constructor
   ·intro _; exact ⟨n, by omega, by simpa using h⟩
   ·intro _; show 0 < _ + 1; omega
  | false =>
   show 0 < mates l g n + 0 ↔ _
   rw [Nat.add_zero, ih]
   constructor
   ·rintro ⟨i, h1, h2⟩; exact ⟨i, by omega, h2⟩
   ·rintro ⟨i, h1, h2⟩
    refine ⟨i, ?_, h2⟩
    by_cases e : i = n
    ·subst e; rw [h2] at h; simp at h
    ·omega
def okI (l : List NodeT) (i : Nat) : Bool := nodeOk (nd l i) && (lessAt l i && (isDir (l.take i) (parent (pth l i)) && mapOk' l i))
def treeI (l : List NodeT) : Bool := decide (l.length ≤ 200) && ((List.range l.length).all (okI l) && ((Cmap l l.length).all (fun p => decide (2 ≤ p.2)) && decide (sumTo l l.length ≤ 20000)))
theorem sorted_of {l : List NodeT} (h : ∀ i, i < l.length → lessAt l i = true) : Sorted l := by
 intro i hi
 have := h (i + 1) hi
 unfold lessAt at this
 simpa using this
theorem nodeOk_path {x : NodeT} (h : nodeOk x = true) : pathOk x.1 = true := by
 unfold nodeOk at h
 rw [Bool.and_eq_true, Bool.and_eq_true] at h
 exact h.1.1
theorem pth_take {l : List NodeT} {n k : Nat} (h : k < n) : (l.take n).getD k dN = l.getD k dN := by
 rw [List.getD_eq_getElem?_getD, List.getD_eq_getElem?_getD, List.getElem?_take, if_pos h]
theorem up_eq {l : List NodeT} (hs : Sorted l) {i : Nat} (hi : i < l.length) (hp : pathOk (pth l i) = true) : isDir (l.take i) (parent (pth l i)) = upS l (parent (pth l i)) := by
 have hlt := parent_less hp
 generalize parent (pth l i) = p at hlt ⊢
 unfold isDir upS
 cases hpe : p == [] with
 | true => rfl
 | false =>
  rw [Bool.false_or, Bool.false_or]
  have bef : ∀ k, k < l.length → pth l k = p → k < i := by
   intro k hk e
   rcases Nat.lt_trichotomy k i with h | h | h
   ·exact h
   ·subst h; rw [e, less_irrefl] at hlt; cases hlt
   ·have := less_asymm (hs.lt h hk); rw [e, hlt] at this; cases this
  rw [Bool.eq_iff_iff, any_idx]
  rcases atO_spec l p with ⟨k, e, hk, ek⟩ | ⟨e, hn⟩
  ·rw [e]
   dsimp only
   constructor
   ·rintro ⟨j, hj, h⟩
    rw [List.length_take] at hj
    rw [pth_take (show j < i by omega), Bool.and_eq_true, beq_iff_eq] at h
    have : j = k := by
     rcases Nat.lt_trichotomy j k with h' | h' | h'
     ·have := hs.lt h' hk
      rw [ek, show pth l j = p from h.1, less_irrefl] at this; cases this
     ·exact h'
     ·have := hs.lt h' (show j < l.length by omega)
      rw [ek, show pth l j = p from h.1, less_irrefl] at this; cases this
    subst this; exact h.2
   ·intro h
    have hki := bef k hk ek
    refine ⟨k, by rw [List.length_take]; omega, ?_⟩
    rw [pth_take hki, Bool.and_eq_true, beq_iff_eq]
    exact ⟨ek, h⟩
  ·rw [e]
   constructor
   ·rintro ⟨j, hj, h⟩
    rw [List.length_take] at hj
    rw [pth_take (show j < i by omega), Bool.and_eq_true, beq_iff_eq] at h
    exact absurd h.1 (hn j (by omega))
   ·intro h; cases h
theorem treeI_eq (l : List NodeT) : treeI l = treeS l := by
 rw [Bool.eq_iff_iff]
 unfold treeI treeS
 simp only [Bool.and_eq_true, all_iff]
 constructor
 ·rintro ⟨hl, h1, h2, h3⟩
  have hs : Sorted l := sorted_of (fun i hi => by have := h1 i hi; unfold okI at this; simp only [Bool.and_eq_true] at this; exact this.2.1)
  have hm : ∀ i, i < l.length → mapOk' l i = true := fun i hi => by have := h1 i hi; unfold okI at this; simp only [Bool.and_eq_true] at this; exact this.2.2.2
  refine ⟨hl, fun i hi => ?_, fun i hi => ?_, h3⟩
  ·have h := h1 i hi
   unfold okI at h
   unfold stepS
   simp only [Bool.and_eq_true] at h ⊢
   refine ⟨h.1, h.2.1, ?_⟩
   rw [← up_eq hs hi (nodeOk_path h.1)]; exact h.2.2.1
  ·unfold okG
   by_cases h0 : grp l i = 0
   ·simp [h0]
   ·rw [show (grp l i == 0) = false by simp [h0], Bool.false_or, Bool.and_eq_true, all_iff]
    obtain ⟨c1, c2⟩ := F_chain l (grp l i) h0 l.length hm
    constructor
    ·intro k hk
     unfold mateOk
     by_cases e : grp l k = grp l i
     ·rw [show (grp l k == grp l i) = true by simp [e], Bool.not_true, Bool.false_or]
      cases hf : mget (β := NodeT) (.int .i64) (grp l i) (Fmap l l.length) with
      | none => exact absurd rfl (c2 hf i hi)
      | some f =>
       exact (alike_iff _ _).2 (((alike_iff _ _).1 (c1 f hf k hk e)).symm.trans ((alike_iff _ _).1 (c1 f hf i hi rfl)))
     ·rw [show (grp l k == grp l i) = false by simp [e]]; rfl
    ·have hpos := (mates_pos l (grp l i) l.length).2 ⟨i, hi, rfl⟩
     have hg := C_get l (grp l i) l.length
     rw [if_pos ⟨h0, hpos⟩] at hg
     have h2' := List.all_eq_true.1 h2 _ (mget_mem _ _ _ hg)
     rw [decide_eq_true_eq] at h2' ⊢
     exact Int.ofNat_le.1 h2'
 ·rintro ⟨hl, h1, h2, h3⟩
  have hs : Sorted l := sorted_of (fun i hi => by have := h1 i hi; unfold stepS at this; simp only [Bool.and_eq_true] at this; exact this.2.1)
  refine ⟨hl, fun i hi => ?_, ?_, h3⟩
  ·have h := h1 i hi
   unfold stepS at h
   unfold okI
   simp only [Bool.and_eq_true] at h ⊢
   refine ⟨h.1, h.2.1, ?_, ?_⟩
   ·rw [up_eq hs hi (nodeOk_path h.1)]; exact h.2.2
   ·unfold mapOk'
    by_cases h0 : grp l i = 0
    ·simp [h0]
    ·rw [show (grp l i == 0) = false by simp [h0], Bool.false_or]
     cases hf : mget (β := NodeT) (.int .i64) (grp l i) (Fmap l i) with
     | none => rfl
     | some f =>
      obtain ⟨k, hk, e, rfl⟩ := F_mem l _ f i hf
      have hg := h2 i hi
      unfold okG at hg
      rw [show (grp l i == 0) = false by simp [h0], Bool.false_or, Bool.and_eq_true, all_iff] at hg
      have := hg.1 k (by omega)
      unfold mateOk at this
      rw [show (grp l k == grp l i) = true by simp [e], Bool.not_true, Bool.false_or] at this
      exact this
  ·rw [List.all_eq_true]
   rintro ⟨g, v⟩ hp
   have hm := mem_mget g v _ (C_nodup l l.length) hp
   rw [C_get] at hm
   by_cases hc : g ≠ 0 ∧ 0 < mates l g l.length
   ·rw [if_pos hc] at hm
    injection hm with hm
    obtain ⟨i, hi, e⟩ := (mates_pos l g l.length).1 hc.2
    have hg := h2 i hi
    unfold okG at hg
    rw [show (grp l i == 0) = false by rw [beq_eq_false_iff_ne, e]; exact hc.1, Bool.false_or, Bool.and_eq_true, decide_eq_true_eq, e] at hg
    rw [decide_eq_true_eq]
    show (2 : Int) ≤ v
    rw [← hm]
    exact Int.ofNat_le.2 hg.2
   ·rw [if_neg hc] at hm; cases hm
theorem atO_min {l : List NodeT} {p : List UInt8} {i : Nat} (hi : i < l.length) (he : pth l i = p) (hm : ∀ j, j < i → pth l j ≠ p) : atO l p = some i := by
 unfold atO
 rw [List.find?_range_eq_some]
 exact ⟨by simp [he], by simpa using hi, fun j hj => by simp [hm j hj]⟩
theorem spec_at (l : List NodeT) (hl : l.length ≤ 1099511627776) (p : List UInt8) : m_spec_l10At l p = some (atV l p, ()) := by
 unfold m_spec_l10At
 refine joinC_of (loopC_inv _ (fun n t => ∃ i : Nat, t = ((l, p, (i : Int), ()), ()) ∧ i ≤ l.length ∧ n = l.length - i ∧ ∀ j, j < i → pth l j ≠ p)
  (fun _ => some (match atO l p with | some i => .inr ((i : Int), ()) | none => .inl ((), ()))) ?_ _ l.length _ ⟨0, rfl, by omega, rfl, fun j hj => by omega⟩ (by omega)) ?_
 ·rintro n t k ⟨i, rfl, hi, rfl, hj⟩ hk
  dsimp only
  by_cases hlt : i < l.length
  ·rw [decide_eq_true (by omega), cond_true, if_pos (by omega), Int.toNat_natCast]
   show (bif pth l i == p then _ else _) = _
   cases hp : pth l i == p with
   | true =>
    rw [atO_min hlt (by simpa using hp) hj]; rfl
   | false =>
    rw [cond_false, wr1 i (by omega)]
    refine hk (l.length - (i + 1)) _ (by omega) ⟨i + 1, rfl, by omega, rfl, fun j hj' => ?_⟩
    by_cases e : j = i
    ·subst e; simpa using hp
    ·exact hj j (by omega)
  ·rw [decide_eq_false (by omega), cond_false]
   rcases atO_spec l p with ⟨k', _, hk', e⟩ | ⟨e, _⟩
   ·exact absurd e (hj k' (by omega))
   ·rw [e]
 ·unfold atV
  cases atO l p <;> rfl
theorem up_run (l : List NodeT) (q : List UInt8) (α : Type) (f : Bool → α) :
    (bif !(q == []) then (bif decide (atV l q < 0) then some (f true) else if 0 ≤ atV l q ∧ atV l q < (l.length : Int) then some (f ((nd l (atV l q).toNat).2.1 != 0)) else none) else some (f false)) = some (f (!upS l q)) := by
 unfold upS
 cases q == [] with
 | true => rfl
 | false =>
  simp only [Bool.not_false, cond_true, Bool.false_or]
  unfold atV
  rcases atO_spec l q with ⟨k, e, hk, _⟩ | ⟨e, _⟩
  ·rw [e]
   dsimp only
   rw [decide_eq_false (by omega), cond_false, if_pos (by omega), Int.toNat_natCast]
   rfl
  ·rw [e]; rfl
theorem less_run {α : Type} {l : List NodeT} {i : Nat} (hi : i ≤ 1099511627776) (hl : i ≤ l.length) (f : Bool → α) :
    (bif decide ((i : Int) > 0) then (if (0 : Int) ≤ IntKind.wrap IntKind.i64 ((i : Int) - 1) ∧ IntKind.wrap IntKind.i64 ((i : Int) - 1) < (l.length : Int) then some (f (!Op.bytesLess (l.getD (Int.toNat (IntKind.wrap IntKind.i64 ((i : Int) - 1))) dN).1 (l.getD i dN).1)) else none) else some (f false)) = some (f (!lessAt l i)) := by
 unfold lessAt pth
 by_cases h0 : i = 0
 ·subst h0; rfl
 ·have e : IntKind.wrap .i64 ((i : Int) - 1) = ((i - 1 : Nat) : Int) := by rw [wr _ (by omega)]; omega
  rw [decide_eq_true (by omega), cond_true, e, if_pos (by omega), Int.toNat_natCast, show (i == 0) = false by simp [h0], Bool.false_or]
theorem spec_treeOk (l : List NodeT) (h : Small l) : m_spec_TreeOk l = some (treeS l, ()) := by
 unfold m_spec_TreeOk treeS
 by_cases hl : l.length ≤ 200
 ·rw [decide_eq_false (by omega), cond_false, decide_eq_true hl, Bool.true_and]
  have hsum : ∀ i, i ≤ l.length → sumTo l i ≤ 209715200 := fun i hi => by have := sumTo_le h hi; omega
  refine joinC_of (allLoop _ (fun i => ((l, (sumTo l i : Int), (i : Int), ()), ())) l.length (stepS l) (.inl ((l, (sumTo l l.length : Int), ()), ())) (.inr (false, ())) ?_ ?_ _ (by omega)) ?_
  ·intro i k hi
   dsimp only
   rw [decide_eq_true (by omega), cond_true, if_pos (by omega), Int.toNat_natCast]
   have hn : m_spec_NodeOk (nd l i) = some (nodeOk (nd l i), ()) := spec_nodeOk _ (Nat.le_trans (h.2 _ (getD_mem dN hi)).2 (by omega))
   refine bind_eq (x := ((l, (sumTo l i : Int), (i : Int), (), !(nodeOk (nd l i) && lessAt l i), ()), ((nd l i).1, (nd l i).2.1, (nd l i).2.2.1, (nd l i).2.2.2.1, (nd l i).2.2.2.2.1, (nd l i).2.2.2.2.2.1, (nd l i).2.2.2.2.2.2, ()), ())) ?_ ?_
   ·show Option.bind (m_spec_NodeOk (nd l i)) _ = _
    rw [hn, Option.bind_some]
    cases nodeOk (nd l i) with
    | false => rfl
    | true =>
     simp only [Bool.not_true, cond_false, Bool.true_and]
     exact less_run (by omega) (by omega) (fun b => (((l, (sumTo l i : Int), (i : Int), (), b, ()), ((nd l i).1, (nd l i).2.1, (nd l i).2.2.1, (nd l i).2.2.2.1, (nd l i).2.2.2.2.1, (nd l i).2.2.2.2.2.1, (nd l i).2.2.2.2.2.2, ()), ())))
   ·dsimp only
    unfold stepS
    cases hnl : (nodeOk (nd l i) && lessAt l i) with
    | false =>
     have : (nodeOk (nd l i) && (lessAt l i && upS l (parent (pth l i)))) = false := by rw [← Bool.and_assoc, hnl]; rfl
     rw [this]; rfl
    | true =>
     have : (nodeOk (nd l i) && (lessAt l i && upS l (parent (pth l i)))) = upS l (parent (pth l i)) := by rw [← Bool.and_assoc, hnl]; rfl
     rw [this]
     simp only [Bool.not_true, cond_false]
     show Option.bind (m_spec_ParentOf (pth l i)) _ = _
     rw [spec_parent, Option.bind_some]
     dsimp only
     rw [spec_at l (by omega), Option.bind_some]
     dsimp only
     have hd : (dat l i).length ≤ 1048576 := (h.2 _ (getD_mem dN hi)).1
     have hw : IntKind.wrap .i64 ((sumTo l i : Int) + ((nd l i).2.2.2.2.1.length : Int)) = (sumTo l (i + 1) : Int) := by
      have := hsum i (by omega)
      show IntKind.wrap .i64 ((sumTo l i : Int) + ((dat l i).length : Int)) = _
      rw [wr _ (by omega)]; simp [sumTo]
     rw [hw]
     refine bind_eq (up_run l (parent (pth l i)) _ (fun b => ((l, (sumTo l (i + 1) : Int), (i : Int), b, ()), ()))) ?_
     dsimp only
     rw [wr1 i (by omega)]
     cases upS l (parent (pth l i)) <;> rfl
  ·intro k; dsimp only; rw [decide_eq_false (by omega)]; rfl
  ·cases (List.range l.length).all (stepS l) with
   | false => rfl
   | true =>
    rw [cond_true, Bool.true_and, joinC_inl' rfl]
    dsimp only
    refine joinC_of (allLoop _ (fun i => ((l, (sumTo l l.length : Int), (i : Int), ()), ())) l.length (okG l) (.inl (((sumTo l l.length : Int), ()), ())) (.inr (false, ())) ?_ ?_ _ (by omega)) ?_
    ·intro i k hi
     dsimp only
     rw [decide_eq_true (by omega), cond_true]
     refine joinC_of (x := some (cond (okG l i) (.inl ((l, (sumTo l l.length : Int), (i : Int), ()), ())) (.inr (.inr (false, ()))))) ?_ ?_
     ·rw [if_pos (by omega), Int.toNat_natCast]
      show (bif grp l i == 0 then _ else _) = _
      unfold okG
      cases grp l i == 0 with
      | true => rfl
      | false =>
       rw [cond_false, Bool.false_or]
       refine joinC_of (allLoop _ (fun q => ((l, (sumTo l l.length : Int), (i : Int), (mates l (grp l i) q : Int), (q : Int), ()), ())) l.length (mateOk l i)
        (.inl ((l, (sumTo l l.length : Int), (i : Int), (mates l (grp l i) l.length : Int), ()), ())) (.inr (.inr (.inr (false, ())))) ?_ ?_ _ (by omega)) ?_
       ·intro q k hq
        have hb : (0 : Int) ≤ (i : Int) ∧ (i : Int) < (l.length : Int) := by omega
        have hb' : (0 : Int) ≤ (q : Int) ∧ (q : Int) < (l.length : Int) := by omega
        dsimp only
        rw [decide_eq_true (by omega), cond_true]
        simp only [if_pos hb, if_pos hb', Int.toNat_natCast]
        have hm := mates_le l (grp l i) q
        refine joinC_of (x := some (cond (mateOk l i q) (.inl ((l, (sumTo l l.length : Int), (i : Int), (mates l (grp l i) (q + 1) : Int), (q : Int), ()), ())) (.inr (.inr (.inr (.inr (false, ()))))))) ?_ ?_
        ·show (bif grp l q == grp l i then _ else _) = _
         unfold mateOk
         cases hg : grp l q == grp l i with
         | false =>
          rw [mates_no (by simpa using hg)]; rfl
         | true =>
          rw [cond_true, mates_yes (by simpa using hg), Bool.not_true, Bool.false_or, wr1 _ (by omega)]
          refine bind_eq (x := ((l, (sumTo l l.length : Int), (i : Int), ((mates l (grp l i) q + 1 : Nat) : Int), (q : Int), !alike (nd l q) (nd l i), ()), ())) ?_ ?_
          ·unfold alike
           show (bif (nd l q).2.2.1 != (nd l i).2.2.1 then _ else bif (nd l q).2.2.2.1 != (nd l i).2.2.2.1 then _ else some ((l, (sumTo l l.length : Int), (i : Int), ((mates l (grp l i) q + 1 : Nat) : Int), (q : Int), !((nd l q).2.2.2.2.1 == (nd l i).2.2.2.2.1), ()), ())) = _
           unfold bne
           cases (nd l q).2.2.1 == (nd l i).2.2.1 <;> cases (nd l q).2.2.2.1 == (nd l i).2.2.2.1 <;> rfl
          ·cases alike (nd l q) (nd l i) <;> rfl
        ·cases mateOk l i q with
         | false => rfl
         | true =>
          rw [cond_true, joinC_inl' rfl]
          dsimp only
          rw [wr1 q (by omega)]; rfl
       ·intro k; dsimp only; rw [decide_eq_false (by omega)]; rfl
       ·cases (List.range l.length).all (mateOk l i) with
        | false => rfl
        | true =>
         rw [cond_true, Bool.true_and]
         show (bif decide ((mates l (grp l i) l.length : Int) < 2) then _ else _) = _
         by_cases h2 : 2 ≤ mates l (grp l i) l.length
         ·rw [decide_eq_true h2, decide_eq_false (by omega)]; rfl
         ·rw [decide_eq_false h2, decide_eq_true (by omega)]; rfl
     ·cases okG l i with
      | false => rfl
      | true =>
       rw [cond_true, joinC_inl' rfl]
       dsimp only
       rw [wr1 i (by omega)]; rfl
    ·intro k; dsimp only; rw [decide_eq_false (by omega)]; rfl
    ·cases (List.range l.length).all (okG l) with
     | false => rfl
     | true =>
      show some (decide ((sumTo l l.length : Int) ≤ 20000), ()) = _
      rw [show decide ((sumTo l l.length : Int) ≤ 20000) = decide (sumTo l l.length ≤ 20000) from decide_eq_decide.2 (by omega)]
      rfl
 ·rw [decide_eq_true (by omega), decide_eq_false hl]; rfl
theorem impl_isAlike (a b : NodeT) : m_impl_isAlike a b = some (alike a b, ()) := by
 unfold m_impl_isAlike alike
 cases a.2.2.1 == b.2.2.1 <;> cases a.2.2.2.1 == b.2.2.2.1 <;> rfl
theorem sorted_take {l : List NodeT} {i : Nat} (hi : i ≤ l.length) (h : ∀ j, j < i → lessAt l j = true) : Sorted (l.take i) := by
 intro j hj
 rw [List.length_take] at hj
 have := h (j + 1) (by omega)
 unfold lessAt at this
 unfold pth
 rw [pth_take (show j < i by omega), pth_take (show j + 1 < i by omega)]
 simpa [pth] using this
theorem impl_areSmall (l : List NodeT) (h : Small l) (hl : l.length ≤ 200) : m_impl_areSmall l = some (decide (sumTo l l.length ≤ 20000), ()) := by
 unfold m_impl_areSmall
 have hsum : ∀ i, i ≤ l.length → sumTo l i ≤ 209715200 := fun i hi => by have := sumTo_le h hi; omega
 refine bind_eq (loopC_inv _ (fun n t => ∃ i : Nat, t = ((l, (sumTo l i : Int), l, (l.length : Int), (i : Int), ()), ()) ∧ i ≤ l.length ∧ n = l.length - i)
  (fun _ => some ((l, (sumTo l l.length : Int), ()), ())) ?_ _ l.length _ ⟨0, rfl, by omega, rfl⟩ (by omega)) ?_
 ·rintro n t k ⟨i, rfl, hi, rfl⟩ hk
  dsimp only
  by_cases hlt : i < l.length
  ·rw [decide_eq_true (by omega), cond_true, if_pos (by omega), Int.toNat_natCast]
   have hd : (dat l i).length ≤ 1048576 := (h.2 _ (getD_mem dN hlt)).1
   have hw : IntKind.wrap .i64 ((sumTo l i : Int) + ((dat l i).length : Int)) = (sumTo l (i + 1) : Int) := by
    have := hsum i (by omega)
    rw [wr _ (by omega)]; simp [sumTo]
   refine hk (l.length - (i + 1)) _ (by omega) ⟨i + 1, ?_, by omega, rfl⟩
   rw [wr1 i (by omega), ← hw]; rfl
  ·have : i = l.length := by omega
   subst this
   rw [decide_eq_false (by omega)]; rfl
 ·dsimp only
  rw [decide_eq_true (by omega), cond_true, Option.bind_some]
  rw [show decide ((sumTo l l.length : Int) ≤ 20000) = decide (sumTo l l.length ≤ 20000) from decide_eq_decide.2 (by omega)]
def mapT (l : List NodeT) (i : Nat) : Bool := match mget (β := NodeT) (.int .i64) (grp l i) (Fmap l i) with | some f => alike f (nd l i) | none => true
theorem anyC_all {α : Type} (f : α → Bool) : ∀ l : List α, anyC (fun p => some (f p)) l = some (!l.all (fun p => !f p))
 | [] => rfl
 | p :: r => by
  simp only [anyC, anyC_all f r, List.all_cons]
  cases f p <;> rfl
theorem C_wrap (l : List NodeT) (i : Nat) (hi : i ≤ 200) : IntKind.wrap .i64 (Option.getD (mget (β := Int) (.int .i64) (grp l i) (Cmap l i)) 0 + 1) = Option.getD (mget (β := Int) (.int .i64) (grp l i) (Cmap l i)) 0 + 1 := by
 rw [C_get]
 have := mates_le l (grp l i) i
 by_cases hc : grp l i ≠ 0 ∧ 0 < mates l (grp l i) i
 ·rw [if_pos hc]; exact wr _ (by simp only [Option.getD_some]; omega)
 ·rw [if_neg hc]; rfl
theorem impl_treeOk (l : List NodeT) (h : Small l) : m_impl_TreeOk l = some (treeS l, ()) := by
 rw [← treeI_eq]
 unfold m_impl_TreeOk treeI
 by_cases hl : l.length ≤ 200
 ·rw [decide_eq_false (by omega), cond_false, decide_eq_true hl, Bool.true_and]
  refine joinC_of (allLoopP _ (fun i => ((l, (), (), l, (l.length : Int), (i : Int), ()), Fmap l i, Cmap l i, ())) l.length (okI l) (.inl ((l, (), ()), Cmap l l.length, ())) (.inr (false, ())) ?_ ?_ _ (by omega)) ?_
  ·intro i k hi hbef
   have hsor : Sorted (l.take i) := sorted_take (by omega) (fun j hj => by have := hbef j hj; unfold okI at this; simp only [Bool.and_eq_true] at this; exact this.2.1)
   dsimp only
   rw [decide_eq_true (by omega), cond_true, if_pos (by omega), Int.toNat_natCast]
   have hdir : ∀ q, m_impl_isDirIn (List.drop (Int.toNat 0) (List.take i l)) q = some (isDir (l.take i) q, ()) := fun q => impl_isDirIn (l.take i) hsor (by rw [List.length_take]; omega) q
   refine joinC_of (x := some (cond (okI l i) (.inl ((l, (), (), l, (l.length : Int), (i : Int), ()), Fmap l (i + 1), Cmap l (i + 1), ())) (.inr (.inr (false, ()))))) ?_ ?_
   ·refine bind_eq (x := ((l, (), (), (), l, (l.length : Int), (i : Int), !(nodeOk (nd l i) && (lessAt l i && isDir (l.take i) (parent (pth l i)))), ()), Fmap l i, Cmap l i, ((nd l i).1, (nd l i).2.1, (nd l i).2.2.1, (nd l i).2.2.2.1, (nd l i).2.2.2.2.1, (nd l i).2.2.2.2.2.1, (nd l i).2.2.2.2.2.2, ()), ())) ?_ ?_
    ·show Option.bind (m_impl_NodeOk (nd l i)) _ = _
     rw [impl_nodeOk, Option.bind_some]
     cases nodeOk (nd l i) with
     | false => rfl
     | true =>
      simp only [Bool.not_true, cond_false, Bool.true_and]
      have tail : (if (0 : Int) ≤ 0 ∧ (0 : Int) ≤ (i : Int) ∧ (i : Int) ≤ (l.length : Int) then
          Option.bind (m_impl_ParentOf (nd l i).1) fun r => Option.bind (m_impl_isDirIn (List.drop (Int.toNat 0) (List.take i l)) r.1) fun r =>
           some ((l, (), (), (), l, (l.length : Int), (i : Int), !r.1, ()), Fmap l i, Cmap l i, ((nd l i).1, (nd l i).2.1, (nd l i).2.2.1, (nd l i).2.2.2.1, (nd l i).2.2.2.2.1, (nd l i).2.2.2.2.2.1, (nd l i).2.2.2.2.2.2, ()), ())
          else none) = some ((l, (), (), (), l, (l.length : Int), (i : Int), !isDir (l.take i) (parent (pth l i)), ()), Fmap l i, Cmap l i, ((nd l i).1, (nd l i).2.1, (nd l i).2.2.1, (nd l i).2.2.2.1, (nd l i).2.2.2.2.1, (nd l i).2.2.2.2.2.1, (nd l i).2.2.2.2.2.2, ()), ()) := by
       rw [if_pos (by omega), impl_parent, Option.bind_some]
       dsimp only
       rw [hdir, Option.bind_some]; rfl
      unfold lessAt
      by_cases h0 : i = 0
      ·subst h0
       exact tail
      ·have e : IntKind.wrap .i64 ((i : Int) - 1) = ((i - 1 : Nat) : Int) := by rw [wr _ (by omega)]; omega
       rw [decide_eq_true (by omega), cond_true, e, if_pos (by omega), Int.toNat_natCast, show (i == 0) = false by simp [h0], Bool.false_or]
       show (bif !Op.bytesLess (pth l (i - 1)) (pth l i) then _ else _) = _
       cases Op.bytesLess (pth l (i - 1)) (pth l i) with
       | false => rfl
       | true =>
        rw [Bool.true_and]
        exact tail
    ·dsimp only
     unfold okI
     cases hb : (nodeOk (nd l i) && (lessAt l i && isDir (l.take i) (parent (pth l i)))) with
     | false =>
      have : (nodeOk (nd l i) && (lessAt l i && (isDir (l.take i) (parent (pth l i)) && mapOk' l i))) = false := by
       rw [← Bool.and_assoc (lessAt l i), ← Bool.and_assoc, hb]; rfl
      rw [this]; rfl
     | true =>
      have : (nodeOk (nd l i) && (lessAt l i && (isDir (l.take i) (parent (pth l i)) && mapOk' l i))) = mapOk' l i := by
       rw [← Bool.and_assoc (lessAt l i), ← Bool.and_assoc, hb]; rfl
      rw [this]
      simp only [Bool.not_true, cond_false]
      unfold mapOk'
      simp only [Fmap, Cmap]
      show (bif grp l i == 0 then _ else _) = _
      cases grp l i == 0 with
      | true => rfl
      | false =>
       simp only [cond_false, Bool.false_or]
       refine bind_eq (x := ((l, (), (), (), l, (l.length : Int), (i : Int), !mapT l i, ()), Fmap l i, Cmap l i, ((nd l i).1, (nd l i).2.1, (nd l i).2.2.1, (nd l i).2.2.2.1, (nd l i).2.2.2.2.1, (nd l i).2.2.2.2.2.1, (nd l i).2.2.2.2.2.2, ()), ())) ?_ ?_
       ·show (bif Option.isSome (mget (β := NodeT) (.int .i64) (grp l i) (Fmap l i)) then Option.bind (m_impl_isAlike (Option.getD (mget (β := NodeT) (.int .i64) (grp l i) (Fmap l i)) dN) (nd l i)) _ else _) = _
        unfold mapT
        cases mget (β := NodeT) (.int .i64) (grp l i) (Fmap l i) with
        | none => rfl
        | some f =>
         simp only [Option.isSome_some, cond_true, Option.getD_some]
         rw [impl_isAlike, Option.bind_some]
       ·show (bif !mapT l i then _ else _) = some (bif mapT l i then _ else _)
        cases mapT l i with
        | false => rfl
        | true =>
         simp only [Bool.not_true, cond_false, cond_true]
         have := C_wrap l i (by omega)
         show some (Sum.inl ((l, (), (), l, (l.length : Int), (i : Int), ()), _, mset (Ty.int .i64) (grp l i) (IntKind.wrap .i64 (Option.getD (mget (β := Int) (.int .i64) (grp l i) (Cmap l i)) 0 + 1)) (Cmap l i), ())) = _
         rw [this]; rfl
   ·cases okI l i with
    | false => rfl
    | true =>
     rw [cond_true, joinC_inl' rfl]
     dsimp only
     rw [wr1 i (by omega)]; rfl
  ·intro k _; dsimp only; rw [decide_eq_false (by omega)]; rfl
  ·cases (List.range l.length).all (okI l) with
   | false => rfl
   | true =>
    rw [cond_true, joinC_inl' rfl, Bool.true_and]
    dsimp only
    refine bind_eq (anyC_all (fun p : Int × Int => decide (p.2 < 2)) (Cmap l l.length)) ?_
    have e : (fun p : Int × Int => !decide (p.2 < 2)) = (fun p => decide (2 ≤ p.2)) := by
     funext p
     by_cases hp : 2 ≤ p.2
     ·rw [decide_eq_true hp, decide_eq_false (by omega)]; rfl
     ·rw [decide_eq_false hp, decide_eq_true (by omega)]; rfl
    rw [e]
    cases (Cmap l l.length).all (fun p => decide (2 ≤ p.2)) with
    | false => rfl
    | true =>
     simp only [Bool.not_true, cond_false, Bool.true_and]
     rw [impl_areSmall l h hl]; rfl
 ·rw [decide_eq_true (by omega), decide_eq_false hl]; rfl
def NodeH (x : NodeT) : Prop := x.1.length ≤ 9223372036854775807 ∧ x.2.2.2.2.1.length ≤ 9223372036854775807 ∧ x.2.2.2.2.2.1.length ≤ 9223372036854775807
def NodeB (x : NodeT) : Prop := x.1.length ≤ 1048576 ∧ x.2.2.2.2.1.length ≤ 1048576 ∧ x.2.2.2.2.2.1.length ≤ 1048576
theorem small_of {l : List NodeT} {m : Int} (h0 : 0 ≤ m) (h : m ≤ 1048576 - l.length) (hb : ∀ e ∈ l, NodeB e) : Small l := ⟨by omega, fun x hx => (hb x hx).2⟩
theorem treeS_sorted {l : List NodeT} (h : treeS l = true) : Sorted l := by
 unfold treeS at h
 simp only [Bool.and_eq_true, all_iff] at h
 exact sorted_of (fun i hi => by have := h.2.1 i hi; unfold stepS at this; simp only [Bool.and_eq_true] at this; exact this.2.1)
theorem filter_one {α : Type} (f : α → Bool) (x : α) : List.filter f [x] = cond (f x) [x] [] := by
 cases h : f x <;> simp [h]
def gr (x : NodeT) : Int := x.2.2.2.2.2.2
def cnt (l : List NodeT) (g : Int) : Nat := (l.filter (fun x => gr x == g)).length
def dsum (l : List NodeT) : Nat := (l.map (fun x => x.2.2.2.2.1.length)).sum
structure RightP (l : List NodeT) : Prop where
 len : l.length ≤ 200
 ok : ∀ x ∈ l, nodeOk x = true
 sorted : Sorted l
 up : ∀ x ∈ l, parent x.1 = [] ∨ ∃ y ∈ l, y.1 = parent x.1 ∧ y.2.1 = 0
 like : ∀ x ∈ l, ∀ y ∈ l, gr x ≠ 0 → gr y = gr x → alike y x = true
 two : ∀ x ∈ l, gr x ≠ 0 → 2 ≤ cnt l (gr x)
 sum : dsum l ≤ 20000
theorem nd_mem {l : List NodeT} {i : Nat} (h : i < l.length) : nd l i ∈ l := getD_mem dN h
theorem mem_nd {l : List NodeT} {x : NodeT} (h : x ∈ l) : ∃ i, i < l.length ∧ nd l i = x := by
 obtain ⟨i, hi, e⟩ := List.mem_iff_getElem.1 h
 refine ⟨i, hi, ?_⟩
 unfold nd
 rw [List.getD_eq_getElem?_getD, List.getElem?_eq_getElem hi]
 exact e
theorem sorted_uniq {l : List NodeT} (hs : Sorted l) {i j : Nat} (hi : i < l.length) (hj : j < l.length) (h : pth l i = pth l j) : i = j := by
 rcases Nat.lt_trichotomy i j with h1 | h1 | h1
 ·have := hs.lt h1 hj
  rw [h, less_irrefl] at this; cases this
 ·exact h1
 ·have := hs.lt h1 hi
  rw [h, less_irrefl] at this; cases this
theorem atO_at {l : List NodeT} (hs : Sorted l) {i : Nat} (hi : i < l.length) : atO l (pth l i) = some i := by
 rcases atO_spec l (pth l i) with ⟨k, e, hk, ek⟩ | ⟨_, hno⟩
 ·rw [e, sorted_uniq hs hk hi ek]
 ·exact absurd rfl (hno i hi)
theorem take_nd (l : List NodeT) {i : Nat} (h : i < l.length) : l.take (i + 1) = l.take i ++ [nd l i] := by
 rw [List.take_add_one, List.getElem?_eq_getElem h]
 unfold nd
 rw [List.getD_eq_getElem?_getD, List.getElem?_eq_getElem h]; rfl
theorem mates_cnt (l : List NodeT) (g : Int) : ∀ k, k ≤ l.length → mates l g k = cnt (l.take k) g
 | 0, _ => by simp [mates, cnt]
 | k + 1, h => by
  have ih := mates_cnt l g k (by omega)
  unfold cnt at ih ⊢
  rw [take_nd l (by omega), List.filter_append, List.length_append, ← ih, filter_one]
  simp only [mates]
  show _ + cond (gr (nd l k) == g) 1 0 = _
  cases gr (nd l k) == g <;> rfl
theorem mates_all (l : List NodeT) (g : Int) : mates l g l.length = cnt l g := by
 rw [mates_cnt l g _ (Nat.le_refl _), List.take_length]
theorem sumTo_take (l : List NodeT) : ∀ k, k ≤ l.length → sumTo l k = dsum (l.take k)
 | 0, _ => by simp [sumTo, dsum]
 | k + 1, h => by
  have ih := sumTo_take l k (by omega)
  unfold dsum at ih ⊢
  rw [take_nd l (by omega), List.map_append, List.sum_append, ← ih]
  simp only [sumTo, List.map_cons, List.map_nil, List.sum_cons, List.sum_nil, Nat.add_zero]
  rfl
theorem sumTo_all (l : List NodeT) : sumTo l l.length = dsum l := by
 rw [sumTo_take l _ (Nat.le_refl _), List.take_length]
theorem right_of {l : List NodeT} (h : treeS l = true) : RightP l := by
 have hsor := treeS_sorted h
 unfold treeS at h
 simp only [Bool.and_eq_true, decide_eq_true_eq, all_iff] at h
 obtain ⟨h1, h2, h3, h4⟩ := h
 refine ⟨h1, ?_, hsor, ?_, ?_, ?_, by rw [← sumTo_all]; exact h4⟩
 ·intro x hx
  obtain ⟨i, hi, rfl⟩ := mem_nd hx
  have := h2 i hi
  unfold stepS at this
  simp only [Bool.and_eq_true] at this
  exact this.1
 ·intro x hx
  obtain ⟨i, hi, rfl⟩ := mem_nd hx
  have := h2 i hi
  unfold stepS upS at this
  simp only [Bool.and_eq_true, Bool.or_eq_true] at this
  rcases this.2.2 with h | h
  ·left
   show parent (pth l i) = []
   simpa using h
  ·right
   rcases atO_spec l (parent (pth l i)) with ⟨k, e, hk, ek⟩ | ⟨e, _⟩
   ·rw [e] at h
    exact ⟨nd l k, nd_mem hk, ek, by simpa using h⟩
   ·rw [e] at h; cases h
 ·intro x hx y hy hg he
  obtain ⟨i, hi, rfl⟩ := mem_nd hx
  obtain ⟨j, hj, rfl⟩ := mem_nd hy
  have := h3 i hi
  unfold okG at this
  rw [Bool.or_eq_true] at this
  rcases this with h | h
  ·exact absurd (show gr (nd l i) = 0 by have : grp l i = 0 := by simpa using h
                                         exact this) hg
  ·rw [Bool.and_eq_true, all_iff] at h
   have := h.1 j hj
   unfold mateOk at this
   rw [Bool.or_eq_true] at this
   rcases this with h | h
   ·have e : (grp l j == grp l i) = true := by
     rw [beq_iff_eq]; exact he
    rw [e] at h; cases h
   ·exact h
 ·intro x hx hg
  obtain ⟨i, hi, rfl⟩ := mem_nd hx
  have := h3 i hi
  unfold okG at this
  rw [Bool.or_eq_true] at this
  rcases this with h | h
  ·exact absurd (show gr (nd l i) = 0 by have : grp l i = 0 := by simpa using h
                                         exact this) hg
  ·rw [Bool.and_eq_true, decide_eq_true_eq, mates_all] at h
   exact h.2
theorem treeS_of {l : List NodeT} (h : RightP l) : treeS l = true := by
 unfold treeS
 simp only [Bool.and_eq_true, decide_eq_true_eq, all_iff]
 refine ⟨h.len, fun i hi => ?_, fun i hi => ?_, by rw [sumTo_all]; exact h.sum⟩
 ·unfold stepS upS
  simp only [Bool.and_eq_true, Bool.or_eq_true]
  refine ⟨h.ok _ (nd_mem hi), ?_, ?_⟩
  ·unfold lessAt
   rw [Bool.or_eq_true]
   by_cases h0 : i = 0
   ·left; simp [h0]
   ·right
    have := h.sorted (i - 1) (by omega)
    rw [show i - 1 + 1 = i by omega] at this
    exact this
  ·rcases h.up _ (nd_mem hi) with e | ⟨y, hy, e1, e2⟩
   ·left
    show (parent (pth l i) == []) = true
    rw [show parent (pth l i) = [] from e]; rfl
   ·right
    obtain ⟨k, hk, rfl⟩ := mem_nd hy
    rw [show parent (pth l i) = pth l k from e1.symm, atO_at h.sorted hk]
    simpa using e2
 ·unfold okG
  rw [Bool.or_eq_true]
  by_cases hg : grp l i = 0
  ·left; simpa using hg
  ·right
   rw [Bool.and_eq_true, all_iff, decide_eq_true_eq, mates_all]
   refine ⟨fun k hk => ?_, h.two _ (nd_mem hi) hg⟩
   unfold mateOk
   rw [Bool.or_eq_true]
   by_cases he : grp l k = grp l i
   ·right; exact h.like _ (nd_mem hi) _ (nd_mem hk) hg he
   ·left; simp [he]
theorem wByte (a : Int) (s : List Int) (h : s.length ≤ 1000000) : m_strings_Builder_WriteByte a () s = some ((), (), s ++ [a], ()) := by
 unfold m_strings_Builder_WriteByte m_strings_Builder_copyCheck
 rw [Option.bind_some, if_pos (by simp only [List.length_cons, List.length_nil]; omega)]
theorem bString (s : List Int) (h : s.length ≤ 1000000) : m_strings_Builder_String () s = some (strOf s, (), [], ()) := by
 unfold m_strings_Builder_String
 rw [if_pos (by omega)]
theorem strOf_len (s : List Int) : (strOf s).length = s.length := by unfold strOf; rw [List.length_map]
theorem wrapU_pos (x : Int) : 0 ≤ IntKind.wrap IntKind.u64 x := by
 simp [IntKind.wrap, IntKind.signed, IntKind.bits]; omega
theorem bitsU_pos (op : BinOp) (x y : Int) : 0 ≤ bitsOf op IntKind.u64 x y := by
 unfold bitsOf
 cases op <;> exact wrapU_pos _
theorem gv0_len : List.length (α := Int) gv0 = 64 := rfl
theorem gv1_len : List.length (α := List Int) gv1 = 4 := rfl
theorem gv1_row (q : Nat) (h : q < 4) (d : List Int) : (List.getD (α := List Int) gv1 q d).length = 4 := by
 have : q = 0 ∨ q = 1 ∨ q = 2 ∨ q = 3 := by omega
 rcases this with rfl | rfl | rfl | rfl <;> rfl
theorem div16 (i : Nat) (h : i ≤ 1000) : IntKind.wrap IntKind.i64 (Int.tdiv (i : Int) 16) = ((i / 16 : Nat) : Int) := by
 have e : Int.tdiv (i : Int) 16 = ((i / 16 : Nat) : Int) := rfl
 rw [e, wr _ (by omega)]
theorem tmod16 (x : Int) (h : 0 ≤ x) : 0 ≤ Int.tmod x 16 ∧ Int.tmod x 16 ≤ 15 := by
 obtain ⟨n, rfl⟩ := Int.eq_ofNat_of_zero_le h
 have e : Int.tmod (n : Int) 16 = ((n % 16 : Nat) : Int) := rfl
 rw [e]; omega
theorem wrapB_id (x : Int) (h : 0 ≤ x ∧ x ≤ 255) : IntKind.wrap IntKind.u8 x = x := by
 simp [IntKind.wrap, IntKind.signed, IntKind.bits]; omega
def s16 : List Int := [7, 12, 17, 22, 5, 9, 14, 20, 4, 11, 16, 23, 6, 10, 15, 21]
def Bd (l : List Int) : Prop := ∀ v ∈ l, 0 ≤ v ∧ v ≤ 255
theorem bd_get {l : List Int} (h : Bd l) (i : Nat) : 0 ≤ l.getD i (Int.ofNat (nat_lit 0)) ∧ l.getD i (Int.ofNat (nat_lit 0)) ≤ 255 := by
 by_cases hi : i < l.length
 ·exact h _ (getD_mem _ hi)
 ·rw [List.getD_eq_getElem?_getD, List.getElem?_eq_none (by omega)]; decide
theorem div16b (x : Int) (h : 0 ≤ x ∧ x ≤ 255) : IntKind.wrap IntKind.u8 (Int.tdiv x 16) = x / 16 := by
 rw [Int.tdiv_eq_ediv_of_nonneg h.1, wrapB_id _ (by omega)]
theorem node_nums {x : NodeT} (h : nodeOk x = true) : (0 ≤ x.2.1 ∧ x.2.1 ≤ 2) ∧ (0 ≤ x.2.2.1 ∧ x.2.2.1 ≤ 511) ∧ (0 ≤ x.2.2.2.1 ∧ x.2.2.2.1 ≤ 1000000000) ∧ (0 ≤ x.2.2.2.2.2.2 ∧ x.2.2.2.2.2.2 ≤ 200) := by
 unfold nodeOk inI at h
 simp only [Bool.and_eq_true, decide_eq_true_eq] at h
 obtain ⟨⟨_, ⟨h1, h2⟩, h3, h4⟩, hk⟩ := h
 unfold nodeKind inI at hk
 refine ⟨?_, ⟨h1, h2⟩, ⟨h3, h4⟩, ?_⟩
 ·by_cases e0 : x.2.1 = 0
  ·omega
  ·by_cases e1 : x.2.1 = 1
   ·omega
   ·by_cases e2 : x.2.1 = 2
    ·omega
    ·rw [show (x.2.1 == 0) = false by rw [beq_eq_false_iff_ne]; exact e0, show (x.2.1 == 1) = false by rw [beq_eq_false_iff_ne]; exact e1, show (x.2.1 == 2) = false by rw [beq_eq_false_iff_ne]; exact e2] at hk
     cases hk
 ·cases h0 : x.2.1 == 0 with
  | true =>
   rw [h0] at hk
   simp only [cond_true, Bool.and_eq_true, beq_iff_eq] at hk
   omega
  | false =>
   rw [h0, cond_false] at hk
   cases h1 : x.2.1 == 1 with
   | true =>
    rw [h1] at hk
    simp only [cond_true, Bool.and_eq_true, decide_eq_true_eq] at hk
    omega
   | false =>
    rw [h1, cond_false] at hk
    cases h2 : x.2.1 == 2 with
    | true =>
     rw [h2] at hk
     simp only [cond_true, Bool.and_eq_true, beq_iff_eq] at hk
     omega
    | false => rw [h2] at hk; cases hk
theorem wStr (s : List UInt8) (o : List Int) (h : o.length + s.length ≤ 1000000) : m_strings_Builder_WriteString s () o = some (((s.length : Int), (), ()), (), o ++ List.map (fun (b : UInt8) => ((UInt8.toNat b : Nat) : Int)) s, ()) := by
 unfold m_strings_Builder_WriteString m_strings_Builder_copyCheck
 rw [Option.bind_some]
 dsimp only
 rw [if_pos (by rw [List.length_map]; omega)]
def hiV (x : Nat) : List Int := if h : x ≥ 128 then ((128 + x % 128 : Nat) : Int) :: hiV (x / 128) else []
termination_by x
decreasing_by omega
def loV (x : Nat) : Nat := if h : x ≥ 128 then loV (x / 128) else x
termination_by x
decreasing_by omega
theorem hiV_yes {x : Nat} (h : x ≥ 128) : hiV x = ((128 + x % 128 : Nat) : Int) :: hiV (x / 128) := by rw [hiV, dif_pos h]
theorem hiV_no {x : Nat} (h : ¬x ≥ 128) : hiV x = [] := by rw [hiV, dif_neg h]
theorem loV_yes {x : Nat} (h : x ≥ 128) : loV x = loV (x / 128) := by rw [loV, dif_pos h]
theorem loV_no {x : Nat} (h : ¬x ≥ 128) : loV x = x := by rw [loV, dif_neg h]
theorem loV_lt : ∀ x, loV x < 128 := by
 intro x
 induction x using Nat.strongRecOn with
 | _ x ih =>
  by_cases h : x ≥ 128
  ·rw [loV_yes h]; exact ih _ (by omega)
  ·rw [loV_no h]; omega
def pv (x : Nat) : List Int := hiV x ++ [(loV x : Int)]
theorem hiV_len : ∀ (k x : Nat), x < 128 ^ k → (hiV x).length ≤ k := by
 intro k
 induction k with
 | zero => intro x h; rw [hiV_no (by simp at h; omega)]; exact Nat.le_refl _
 | succ k ih =>
  intro x h
  by_cases hx : x ≥ 128
  ·rw [hiV_yes hx, List.length_cons]
   have := ih (x / 128) (by rw [Nat.div_lt_iff_lt_mul (by decide)]; rw [Nat.pow_succ] at h; exact h)
   omega
  ·rw [hiV_no hx]; exact Nat.zero_le _
theorem pv_len {x : Nat} (h : x ≤ 1000000000) : (pv x).length ≤ 6 := by
 have := hiV_len 5 x (by show x < 34359738368; omega)
 unfold pv
 rw [List.length_append, List.length_cons, List.length_nil]; omega
theorem and127 (x : Nat) (h : x ≤ 1000000000) : bitsOf .and .i64 (x : Int) 127 = ((x % 128 : Nat) : Int) := by
 have h1 : (BitVec.ofInt 64 (x : Int) &&& BitVec.ofInt 64 127).toNat = x % 128 := by
  rw [BitVec.toNat_and]
  have e1 : (BitVec.ofInt 64 (x : Int)).toNat = x := by
   rw [BitVec.toNat_ofInt]; omega
  have e2 : (BitVec.ofInt 64 127).toNat = 127 := rfl
  rw [e1, e2]
  exact Nat.and_two_pow_sub_one_eq_mod x 7
 show IntKind.wrap .i64 (((BitVec.ofInt 64 (x : Int) &&& BitVec.ofInt 64 127).toNat : Nat) : Int) = _
 rw [h1, wr _ (by omega)]
theorem or128 : ∀ y : Nat, y < 128 → bitsOf .or .u8 (y : Int) 128 = ((128 + y : Nat) : Int) := by decide +kernel
theorem varByte (x : Nat) (h : x ≤ 1000000000) : bitsOf BinOp.or IntKind.u8 (IntKind.wrap IntKind.u8 (bitsOf BinOp.and IntKind.i64 (x : Int) 127)) 128 = ((128 + x % 128 : Nat) : Int) := by
 rw [and127 x h, wrapB_id _ (by omega), or128 _ (by omega)]
theorem varText_eq (x : Nat) (h : x ≤ 1000000000) : m_impl_varText (x : Int) = some (strOf (pv x), ()) := by
 unfold m_impl_varText
 have hl := hiV_len 5 x (by show x < 34359738368; omega)
 refine bind_eq (x := ((((loV x : Nat) : Int), (), ()), (), hiV x, ())) (loopC_inv _ (fun n t => ∃ (y : Nat) (s : List Int), t = (((y : Int), (), ()), (), s, ()) ∧ s ++ hiV y = hiV x ∧ loV y = loV x ∧ y ≤ 1000000000 ∧ n = y)
  (fun _ => some ((((loV x : Nat) : Int), (), ()), (), hiV x, ())) ?_ _ x _ ⟨x, [], rfl, rfl, rfl, h, rfl⟩ (by omega)) ?_
 ·rintro y t k ⟨_, s, rfl, hs, hlo, hy, rfl⟩ hk
  dsimp only
  have hsl : s.length ≤ 5 := by
   have := congrArg List.length hs
   rw [List.length_append] at this; omega
  by_cases hg : y ≥ 128
  ·rw [decide_eq_true (by omega), cond_true, varByte y hy, wByte _ s (by omega), Option.bind_some]
   dsimp only
   rw [if_pos (by decide)]
   have e : Int.fdiv (y : Int) (2 ^ min (Int.toNat 7) (IntKind.bits IntKind.i64)) = ((y / 128 : Nat) : Int) := by
    show Int.fdiv (y : Int) 128 = _
    rw [Int.fdiv_eq_ediv_of_nonneg _ (by decide)]; rfl
   rw [e]
   refine hk (y / 128) _ (by omega) ⟨y / 128, _, rfl, ?_, ?_, by omega, rfl⟩
   ·rw [List.append_assoc, List.singleton_append, ← hiV_yes hg]; exact hs
   ·rw [← loV_yes hg]; exact hlo
  ·rw [decide_eq_false (by omega), cond_false]
   rw [hiV_no hg, List.append_nil] at hs
   rw [loV_no hg] at hlo
   rw [hs, hlo]
 ·dsimp only
  have := loV_lt x
  rw [wrapB_id _ (by omega), wByte _ _ (by omega), Option.bind_some]
  dsimp only
  rw [bString _ (by rw [List.length_append, List.length_cons, List.length_nil]; omega), Option.bind_some]
  rfl
theorem putVar_eq (x : Nat) (h : x ≤ 1000000000) : m_spec_PutVar (x : Int) = some ((), pv x, ()) := by
 unfold m_spec_PutVar
 have hl := hiV_len 5 x (by show x < 34359738368; omega)
 rw [decide_eq_false (by omega), cond_false]
 refine bind_eq (x := ((((loV x : Nat) : Int), (), ()), hiV x, ())) (loopC_inv _ (fun n t => ∃ (y : Nat) (s : List Int), t = (((y : Int), (), ()), s, ()) ∧ s ++ hiV y = hiV x ∧ loV y = loV x ∧ y ≤ 1000000000 ∧ n = y)
  (fun _ => some ((((loV x : Nat) : Int), (), ()), hiV x, ())) ?_ _ x _ ⟨x, [], rfl, rfl, rfl, h, rfl⟩ (by omega)) ?_
 ·rintro y t k ⟨_, s, rfl, hs, hlo, hy, rfl⟩ hk
  dsimp only
  have hsl : s.length ≤ 5 := by
   have := congrArg List.length hs
   rw [List.length_append] at this; omega
  by_cases hg : y ≥ 128
  ·have e1 : IntKind.wrap IntKind.u8 (IntKind.wrap IntKind.i64 (128 + Int.tmod (y : Int) 128)) = ((128 + y % 128 : Nat) : Int) := by
    have e : Int.tmod (y : Int) 128 = ((y % 128 : Nat) : Int) := rfl
    rw [e, wr _ (by omega), wrapB_id _ (by omega)]; omega
   have e2 : IntKind.wrap IntKind.i64 (Int.tdiv (y : Int) 128) = ((y / 128 : Nat) : Int) := by
    have e : Int.tdiv (y : Int) 128 = ((y / 128 : Nat) : Int) := rfl
    rw [e, wr _ (by omega)]
   rw [decide_eq_true (by omega), cond_true, if_pos (by decide), if_pos (by simp only [List.length_cons, List.length_nil]; omega), if_pos (by decide), e1, e2]
   refine hk (y / 128) _ (by omega) ⟨y / 128, _, rfl, ?_, ?_, by omega, rfl⟩
   ·rw [List.append_assoc, List.singleton_append, ← hiV_yes hg]; exact hs
   ·rw [← loV_yes hg]; exact hlo
  ·rw [decide_eq_false (by omega), cond_false]
   rw [hiV_no hg, List.append_nil] at hs
   rw [loV_no hg] at hlo
   rw [hs, hlo]
 ·dsimp only
  have := loV_lt x
  rw [wrapB_id _ (by omega), if_pos (by simp only [List.length_cons, List.length_nil]; omega)]
  rfl
def iB (s : List UInt8) : List Int := s.map fun b => ((UInt8.toNat b : Nat) : Int)
theorem strOf_iB (s : List UInt8) : strOf (iB s) = s := by
 unfold strOf iB
 rw [List.map_map]
 conv => rhs; rw [← List.map_id s]
 refine List.map_congr_left fun b _ => ?_
 show (((UInt8.toNat b : Nat) : Int).toNat).toUInt8 = b
 simp
theorem strOf_app (a b : List Int) : strOf (a ++ b) = strOf a ++ strOf b := by unfold strOf; rw [List.map_append]
def pt (s : List UInt8) : List Int := pv s.length ++ iB s
theorem putText_eq (s : List UInt8) (h : s.length ≤ 20000) : m_impl_putText s = some (strOf (pt s), ()) := by
 unfold m_impl_putText
 have hl := pv_len (x := s.length) (by omega)
 rw [varText_eq s.length (by omega), Option.bind_some]
 dsimp only
 rw [if_pos (by rw [strOf_len]; show _ < 9223372036854775808; omega)]
 unfold pt
 rw [strOf_app, strOf_iB]
theorem putTextS_eq (s : List UInt8) (h : s.length ≤ 20000) : m_spec_PutText s = some (pt s, ()) := by
 unfold m_spec_PutText
 have hl := pv_len (x := s.length) (by omega)
 rw [decide_eq_false (by omega), cond_false, putVar_eq s.length (by omega), Option.bind_some]
 dsimp only
 rw [if_pos (by rw [List.length_map]; omega)]
 rfl
abbrev PadT := (List UInt8 × Unit × Unit) × List Int × Unit
def padF (s : PadT) (k : PadT → Option PadT) : Option PadT :=
 if (64 : Int) ≠ 0 then bif Int.tmod (s.2.1.length : Int) 64 != 56 then if (s.2.1.length + ([(0 : Int)] : List Int).length) * 1 ≤ 140737488355328 then k ((s.1.1, (), ()), s.2.1 ++ [0], ()) else none else some ((s.1.1, (), ()), s.2) else none
theorem bd_app {a b : List Int} (ha : Bd a) (hb : Bd b) : Bd (a ++ b) := fun v hv => by
 rcases List.mem_append.1 hv with h | h
 ·exact ha v h
 ·exact hb v h
theorem bd_one {x : Int} (h : 0 ≤ x ∧ x ≤ 255) : Bd [x] := fun v hv => by rw [List.mem_singleton.1 hv]; exact h
theorem bd_iB (s : List UInt8) : Bd (iB s) := fun v hv => by
 obtain ⟨b, _, rfl⟩ := List.mem_map.1 hv
 have := b.toNat_lt
 show 0 ≤ ((b.toNat : Nat) : Int) ∧ ((b.toNat : Nat) : Int) ≤ 255
 omega
theorem pad_loop (s : List UInt8) (h : s.length ≤ 20000) : ∃ o, loopC (s.length + (iB s ++ [128]).length + 300) padF ((s, (), ()), iB s ++ [128], ()) = some ((s, (), ()), o, ()) ∧ o.length % 64 = 56 ∧ o.length ≤ 20100 ∧ Bd o := by
 have hi : (iB s).length = s.length := by unfold iB; rw [List.length_map]
 obtain ⟨t, e, o, rfl, h1, h2, h3⟩ := loopC_some' padF (fun n t => ∃ o : List Int, t = ((s, (), ()), o, ()) ∧ n = (120 - o.length % 64) % 64 ∧ o.length + n ≤ 20100 ∧ Bd o) (fun t => ∃ o : List Int, t = ((s, (), ()), o, ()) ∧ o.length % 64 = 56 ∧ o.length ≤ 20100 ∧ Bd o)
  (by
   rintro n t k ⟨o, rfl, rfl, ho, hB⟩ hk
   unfold padF
   dsimp only
   rw [if_pos (by decide)]
   have e : Int.tmod (o.length : Int) 64 = ((o.length % 64 : Nat) : Int) := rfl
   rw [e]
   by_cases h56 : o.length % 64 = 56
   ·rw [show ((((o.length % 64 : Nat) : Int)) != 56) = false by rw [h56]; rfl, cond_false]
    exact ⟨_, rfl, o, rfl, h56, by omega, hB⟩
   ·rw [show ((((o.length % 64 : Nat) : Int)) != 56) = true by rw [bne_iff_ne]; omega, cond_true, if_pos (by simp only [List.length_cons, List.length_nil]; omega)]
    exact hk ((120 - (o.length + 1) % 64) % 64) _ (by omega) ⟨_, rfl, by rw [List.length_append]; rfl, by rw [List.length_append]; simp only [List.length_cons, List.length_nil]; omega, bd_app hB (bd_one (by decide))⟩)
  (s.length + (iB s ++ [128]).length + 300) ((120 - (s.length + 1) % 64) % 64) ((s, (), ()), iB s ++ [128], ()) ⟨_, rfl, by rw [List.length_append, hi]; rfl, by rw [List.length_append, hi]; simp only [List.length_cons, List.length_nil]; omega, bd_app (bd_iB s) (bd_one (by decide))⟩ (by omega)
 exact ⟨o, e, h1, h2, h3⟩
def le8 : Nat → Nat → List Int
 | 0, _ => []
 | k + 1, y => ((y % 256 : Nat) : Int) :: le8 k (y / 256)
theorem bd_le8 : ∀ k y, Bd (le8 k y)
 | 0, _ => fun v hv => by cases hv
 | k + 1, y => fun v hv => by
  rcases List.mem_cons.1 hv with rfl | hv
  ·omega
  ·exact bd_le8 k _ v hv
theorem wordText_eq (x : Nat) (h : x < 4294967296) : m_impl_wordText (x : Int) = some (strOf (le8 4 x), ()) := by
 unfold m_impl_wordText
 rw [if_pos (by decide), if_pos (by decide), if_pos (by decide)]
 have w : ∀ y : Nat, IntKind.wrap IntKind.u8 (y : Int) = ((y % 256 : Nat) : Int) := fun y => by
  simp [IntKind.wrap, IntKind.signed, IntKind.bits]
 have d8 : Int.fdiv (x : Int) (2 ^ min (Int.toNat 8) (IntKind.bits IntKind.u32)) = ((x / 256 : Nat) : Int) := by
  show Int.fdiv (x : Int) 256 = _
  rw [Int.fdiv_eq_ediv_of_nonneg _ (by decide)]; rfl
 have d16 : Int.fdiv (x : Int) (2 ^ min (Int.toNat 16) (IntKind.bits IntKind.u32)) = ((x / 256 / 256 : Nat) : Int) := by
  show Int.fdiv (x : Int) 65536 = _
  rw [Int.fdiv_eq_ediv_of_nonneg _ (by decide)]; omega
 have d24 : Int.fdiv (x : Int) (2 ^ min (Int.toNat 24) (IntKind.bits IntKind.u32)) = ((x / 256 / 256 / 256 : Nat) : Int) := by
  show Int.fdiv (x : Int) 16777216 = _
  rw [Int.fdiv_eq_ediv_of_nonneg _ (by decide)]; omega
 rw [d8, d16, d24, w, w, w, w]
 rfl
theorem wrap32 (x : Nat) (h : x < 4294967296) : IntKind.wrap IntKind.u32 (x : Int) = (x : Int) := by
 simp [IntKind.wrap, IntKind.signed, IntKind.bits]; omega
theorem pad_eq (s : List UInt8) (h : s.length ≤ 20000) : ∃ P : List Int, m_spec_PadStrong s = some (P, ()) ∧ m_impl_padded s = some (strOf P, ()) ∧ P.length % 64 = 0 ∧ 0 < P.length ∧ P.length ≤ 21000 ∧ Bd P := by
 obtain ⟨o, e, h1, h2, h3⟩ := pad_loop s h
 have hi : (iB s).length = s.length := by unfold iB; rw [List.length_map]
 refine ⟨o ++ le8 8 (8 * s.length), ?_, ?_, ?_, ?_, ?_, bd_app h3 (bd_le8 _ _)⟩
 ·unfold m_spec_PadStrong
  rw [decide_eq_false (by omega), cond_false, if_pos (by rw [List.length_map]; simp only [List.length_cons, List.length_nil]; omega)]
  refine bind_eq (show loopC _ _ _ = _ from e) ?_
  dsimp only
  rw [wr (8 * (s.length : Int)) (by omega)]
  refine bind_eq (x := (((), ()), o ++ le8 8 (8 * s.length), ())) (loopC_inv _ (fun n t => ∃ (j : Nat) (y : Nat) (q : List Int), t = (((), (y : Int), (j : Int), ()), q, ()) ∧ j ≤ 8 ∧ q ++ le8 (8 - j) y = o ++ le8 8 (8 * s.length) ∧ q.length ≤ 20200 + j ∧ y ≤ 200000 ∧ n = 8 - j)
   (fun _ => some (((), ()), o ++ le8 8 (8 * s.length), ())) ?_ _ 8 _ ⟨0, 8 * s.length, o, ?_, by omega, rfl, by omega, by omega, rfl⟩ (by omega)) rfl
  ·rintro n t k ⟨j, y, q, rfl, hj, hq, hql, hy, rfl⟩ hk
   dsimp only
   by_cases hlt : j < 8
   ·have e1 : IntKind.wrap IntKind.u8 (Int.tmod (y : Int) 256) = ((y % 256 : Nat) : Int) := by
     have e : Int.tmod (y : Int) 256 = ((y % 256 : Nat) : Int) := rfl
     rw [e, wrapB_id _ (by omega)]
    have e2 : IntKind.wrap IntKind.i64 (Int.tdiv (y : Int) 256) = ((y / 256 : Nat) : Int) := by
     have e : Int.tdiv (y : Int) 256 = ((y / 256 : Nat) : Int) := rfl
     rw [e, wr _ (by omega)]
    rw [decide_eq_true (show (j : Int) < 8 by omega), cond_true, if_pos (by decide), if_pos (by simp only [List.length_cons, List.length_nil]; omega), if_pos (by decide), e1, e2, wr1 j (by omega)]
    refine hk (8 - (j + 1)) _ (by omega) ⟨j + 1, y / 256, _, rfl, by omega, ?_, by rw [List.length_append]; simp only [List.length_cons, List.length_nil]; omega, by omega, rfl⟩
    rw [List.append_assoc, ← hq, show 8 - j = (8 - (j + 1)) + 1 by omega]
    rfl
   ·have : j = 8 := by omega
    subst this
    rw [decide_eq_false (by omega), cond_false]
    rw [show le8 (8 - 8) y = [] from rfl, List.append_nil] at hq
    rw [hq]
  ·show _ = (((), ((8 * s.length : Nat) : Int), ((0 : Nat) : Int), ()), o, ())
   rw [show ((8 * s.length : Nat) : Int) = 8 * (s.length : Int) by omega]; rfl
 ·unfold m_impl_padded
  rw [if_pos (by rw [List.length_map]; simp only [List.length_cons, List.length_nil]; omega)]
  refine bind_eq (show loopC _ _ _ = _ from e) ?_
  dsimp only
  rw [wr (8 * (s.length : Int)) (by omega)]
  have eL : IntKind.wrap IntKind.u32 (8 * (s.length : Int)) = ((8 * s.length : Nat) : Int) := by
   rw [show 8 * (s.length : Int) = ((8 * s.length : Nat) : Int) by omega]; exact wrap32 _ (by omega)
  have eH : IntKind.wrap IntKind.u32 (Int.fdiv (8 * (s.length : Int)) (2 ^ min (Int.toNat 32) (IntKind.bits IntKind.i64))) = ((0 : Nat) : Int) := by
   have : Int.fdiv (8 * (s.length : Int)) (2 ^ min (Int.toNat 32) (IntKind.bits IntKind.i64)) = ((0 : Nat) : Int) := by
    show Int.fdiv (8 * (s.length : Int)) 4294967296 = _
    rw [Int.fdiv_eq_ediv_of_nonneg _ (by decide)]; omega
   rw [this]; rfl
  rw [eL, wordText_eq _ (by omega), Option.bind_some]
  dsimp only
  have l4 : ∀ y, (strOf (le8 4 y)).length = 4 := fun y => by rw [strOf_len]; rfl
  rw [if_pos (by rw [List.length_map, l4]; show _ < 9223372036854775808; omega), if_pos (by decide), eH, wordText_eq 0 (by omega), Option.bind_some]
  dsimp only
  rw [if_pos (by rw [List.length_append, List.length_map, l4, l4]; show _ < 9223372036854775808; omega)]
  have e8 : le8 8 (8 * s.length) = le8 4 (8 * s.length) ++ le8 4 0 := by
   simp only [le8, List.cons_append, List.nil_append, List.cons.injEq, and_true]
   refine ⟨trivial, trivial, trivial, trivial, ?_, ?_, ?_, ?_⟩ <;> omega
  rw [e8, strOf_app, strOf_app, ← List.append_assoc]
  rfl
 ·rw [List.length_append]; show (o.length + 8) % 64 = 0; omega
 ·rw [List.length_append]; show 0 < o.length + 8; omega
 ·rw [List.length_append]; show o.length + 8 ≤ 21000; omega
theorem or32 (x y : Nat) (hx : x < 4294967296) (hy : y < 4294967296) : bitsOf .or .u32 (x : Int) (y : Int) = ((x ||| y : Nat) : Int) := by
 have h1 : (BitVec.ofInt 32 (x : Int) ||| BitVec.ofInt 32 (y : Int)).toNat = x ||| y := by
  rw [BitVec.toNat_or]
  have e1 : (BitVec.ofInt 32 (x : Int)).toNat = x := by rw [BitVec.toNat_ofInt]; omega
  have e2 : (BitVec.ofInt 32 (y : Int)).toNat = y := by rw [BitVec.toNat_ofInt]; omega
  rw [e1, e2]
 show IntKind.wrap .u32 (((BitVec.ofInt 32 (x : Int) ||| BitVec.ofInt 32 (y : Int)).toNat : Nat) : Int) = _
 rw [h1]
 exact wrap32 _ (Nat.or_lt_two_pow (n := 32) hx hy)
theorem or_sum (x b k : Nat) (hx : x < 2 ^ k) : x ||| (b * 2 ^ k) = x + b * 2 ^ k := by
 rw [Nat.mul_comm, Nat.or_comm, ← Nat.two_pow_add_eq_or_of_lt hx, Nat.add_comm]
def wd (b0 b1 b2 b3 : Nat) : Int := ((b0 + 256 * b1 + 65536 * b2 + 16777216 * b3 : Nat) : Int)
theorem readWord_eq (s : List UInt8) (h : 4 ≤ s.length) : m_impl_readWord s = some (wd (s.getD 0 0).toNat (s.getD 1 0).toNat (s.getD 2 0).toNat (s.getD 3 0).toNat, ()) := by
 unfold m_impl_readWord
 rw [if_pos (by omega), if_pos (by omega), if_pos (by decide), if_pos (by omega), if_pos (by decide), if_pos (by omega), if_pos (by decide)]
 have t0 := (s.getD 0 0).toNat_lt
 have t1 := (s.getD 1 0).toNat_lt
 have t2 := (s.getD 2 0).toNat_lt
 have t3 := (s.getD 3 0).toNat_lt
 show some (bitsOf BinOp.or IntKind.u32 (bitsOf BinOp.or IntKind.u32 (bitsOf BinOp.or IntKind.u32 (IntKind.wrap IntKind.u32 (((s.getD 0 0).toNat : Nat) : Int)) (IntKind.wrap IntKind.u32 (IntKind.wrap IntKind.u32 (((s.getD 1 0).toNat : Nat) : Int) * 256))) (IntKind.wrap IntKind.u32 (IntKind.wrap IntKind.u32 (((s.getD 2 0).toNat : Nat) : Int) * 65536))) (IntKind.wrap IntKind.u32 (IntKind.wrap IntKind.u32 (((s.getD 3 0).toNat : Nat) : Int) * 16777216)), ()) = _
 generalize (s.getD 0 0).toNat = b0 at t0 ⊢
 generalize (s.getD 1 0).toNat = b1 at t1 ⊢
 generalize (s.getD 2 0).toNat = b2 at t2 ⊢
 generalize (s.getD 3 0).toNat = b3 at t3 ⊢
 have t0 : b0 < 256 := t0
 have t1 : b1 < 256 := t1
 have t2 : b2 < 256 := t2
 have t3 : b3 < 256 := t3
 rw [wrap32 b0 (by omega), wrap32 b1 (by omega), wrap32 b2 (by omega), wrap32 b3 (by omega)]
 rw [show (b1 : Int) * 256 = ((b1 * 256 : Nat) : Int) by omega, show (b2 : Int) * 65536 = ((b2 * 65536 : Nat) : Int) by omega, show (b3 : Int) * 16777216 = ((b3 * 16777216 : Nat) : Int) by omega]
 rw [wrap32 _ (by omega), wrap32 _ (by omega), wrap32 _ (by omega), or32 _ _ (by omega) (by omega)]
 rw [show b0 ||| b1 * 256 = b0 + b1 * 256 from or_sum b0 b1 8 t0, or32 _ _ (by omega) (by omega)]
 rw [show b0 + b1 * 256 ||| b2 * 65536 = b0 + b1 * 256 + b2 * 65536 from or_sum _ b2 16 (by show _ < 65536; omega), or32 _ _ (by omega) (by omega)]
 rw [show b0 + b1 * 256 + b2 * 65536 ||| b3 * 16777216 = b0 + b1 * 256 + b2 * 65536 + b3 * 16777216 from or_sum _ b3 24 (by show _ < 16777216; omega)]
 unfold wd
 congr 2
 omega
theorem getWord_eq (s : List UInt8) (h : s.length = 4) : ∃ g, m_spec_GetWord (List.map (fun (b : UInt8) => ((UInt8.toNat b : Nat) : Int)) s) = some ((wd (s.getD 0 0).toNat (s.getD 1 0).toNat (s.getD 2 0).toNat (s.getD 3 0).toNat, g, ()), ()) := by
 refine ⟨true, ?_⟩
 unfold m_spec_GetWord
 have hl : (List.map (fun (b : UInt8) => ((UInt8.toNat b : Nat) : Int)) s).length = 4 := by rw [List.length_map, h]
 rw [show ((((List.map (fun (b : UInt8) => ((UInt8.toNat b : Nat) : Int)) s).length : Int)) != 4) = false by rw [hl]; rfl, cond_false, if_pos (by omega), if_pos (by omega), if_pos (by omega), if_pos (by omega)]
 have g : ∀ i, i < 4 → List.getD (List.map (fun (b : UInt8) => ((UInt8.toNat b : Nat) : Int)) s) i (Int.ofNat (nat_lit 0)) = (((s.getD i 0).toNat : Nat) : Int) := fun i hi => by
  rw [List.getD_eq_getElem?_getD, List.getElem?_map, List.getD_eq_getElem?_getD, List.getElem?_eq_getElem (by omega)]; rfl
 have t0 := (s.getD 0 0).toNat_lt
 have t1 := (s.getD 1 0).toNat_lt
 have t2 := (s.getD 2 0).toNat_lt
 have t3 := (s.getD 3 0).toNat_lt
 rw [show Int.toNat 0 = 0 from rfl, show Int.toNat 1 = 1 from rfl, show Int.toNat 2 = 2 from rfl, show Int.toNat 3 = 3 from rfl, g 0 (by omega), g 1 (by omega), g 2 (by omega), g 3 (by omega)]
 generalize (s.getD 0 0).toNat = b0 at t0 ⊢
 generalize (s.getD 1 0).toNat = b1 at t1 ⊢
 generalize (s.getD 2 0).toNat = b2 at t2 ⊢
 generalize (s.getD 3 0).toNat = b3 at t3 ⊢
 have t0 : b0 < 256 := t0
 have t1 : b1 < 256 := t1
 have t2 : b2 < 256 := t2
 have t3 : b3 < 256 := t3
 rw [wr (b0 : Int) (by omega), wr (b1 : Int) (by omega), wr (b2 : Int) (by omega), wr (b3 : Int) (by omega), wr (256 * (b1 : Int)) (by omega), wr (65536 * (b2 : Int)) (by omega), wr (16777216 * (b3 : Int)) (by omega), wr ((b0 : Int) + 256 * (b1 : Int)) (by omega), wr ((b0 : Int) + 256 * (b1 : Int) + 65536 * (b2 : Int)) (by omega), wr ((b0 : Int) + 256 * (b1 : Int) + 65536 * (b2 : Int) + 16777216 * (b3 : Int)) (by omega)]
 rw [show (b0 : Int) + 256 * (b1 : Int) + 65536 * (b2 : Int) + 16777216 * (b3 : Int) = ((b0 + 256 * b1 + 65536 * b2 + 16777216 * b3 : Nat) : Int) by omega, wrap32 _ (by omega)]
 rfl
def rotV (t s : Int) : Int := bitsOf BinOp.or IntKind.u32 (IntKind.wrap IntKind.u32 (t * 2 ^ min (Int.toNat (IntKind.wrap IntKind.u64 s)) (IntKind.bits IntKind.u32))) (Int.fdiv t (2 ^ min (Int.toNat (IntKind.wrap IntKind.u64 (32 - IntKind.wrap IntKind.u64 s))) (IntKind.bits IntKind.u32)))
def shV (i : Nat) : Int := List.getD s16 (4 * (i / 16) + i % 4) (Int.ofNat (nat_lit 0))
theorem sh_eq (i : Nat) (h : i < 64) : m_spec_l04S (i : Int) = some (shV i, ()) := by
 have e : m_spec_l04S (i : Int) = (if (16 : Int) ≠ 0 then if (4 : Int) ≠ 0 then if 0 ≤ IntKind.wrap IntKind.i64 (IntKind.wrap IntKind.i64 (4 * IntKind.wrap IntKind.i64 (Int.tdiv (i : Int) 16)) + Int.tmod (i : Int) 4) ∧ IntKind.wrap IntKind.i64 (IntKind.wrap IntKind.i64 (4 * IntKind.wrap IntKind.i64 (Int.tdiv (i : Int) 16)) + Int.tmod (i : Int) 4) < ((s16.length : Nat) : Int) then if Int.toNat (IntKind.wrap IntKind.i64 (IntKind.wrap IntKind.i64 (4 * IntKind.wrap IntKind.i64 (Int.tdiv (i : Int) 16)) + Int.tmod (i : Int) 4)) < s16.length then some (List.getD s16 (Int.toNat (IntKind.wrap IntKind.i64 (IntKind.wrap IntKind.i64 (4 * IntKind.wrap IntKind.i64 (Int.tdiv (i : Int) 16)) + Int.tmod (i : Int) 4))) (Int.ofNat (nat_lit 0)), ()) else none else none else none else none) := rfl
 have hg : s16.length = 16 := rfl
 have e4 : Int.tmod (i : Int) 4 = ((i % 4 : Nat) : Int) := rfl
 rw [e, hg, div16 i (by omega), e4, wr (4 * ((i / 16 : Nat) : Int)) (by omega), wr _ (by omega), if_pos (by decide), if_pos (by decide), if_pos (by omega), if_pos (by omega)]
 unfold shV
 rw [show Int.toNat (4 * ((i / 16 : Nat) : Int) + ((i % 4 : Nat) : Int)) = 4 * (i / 16) + i % 4 by omega]
theorem k_eq (i : Nat) (h : i < 64) : m_spec_l04K (i : Int) = some (List.getD (α := Int) gv0 i (Int.ofNat (nat_lit 0)), ()) := by
 have e : m_spec_l04K (i : Int) = (if 0 ≤ (i : Int) ∧ (i : Int) < ((List.length (α := Int) gv0 : Nat) : Int) then if Int.toNat (i : Int) < List.length (α := Int) gv0 then some (List.getD (α := Int) gv0 (Int.toNat (i : Int)) (Int.ofNat (nat_lit 0)), ()) else none else none) := rfl
 have hg := gv0_len
 rw [e, hg, if_pos (by omega), if_pos (by omega)]
 rfl
theorem turn_eq : ∀ i : Nat, i < 64 → List.getD (List.getD (α := List Int) gv1 (i / 16) (Int.ofNat (nat_lit 0) :: List.replicate (nat_lit 3) (Int.ofNat (nat_lit 0)))) (i % 4) (Int.ofNat (nat_lit 0)) = shV i := by decide +kernel
theorem shW : ∀ i : Nat, i < 64 → bitsOf BinOp.and IntKind.u64 (IntKind.wrap IntKind.u64 (shV i)) 31 = IntKind.wrap IntKind.u64 (shV i) := by decide +kernel
theorem rot_eq (t : Int) (i : Nat) (h : i < 64) : m_bits_RotateLeft32 t (shV i) = some (rotV t (shV i), ()) := by
 unfold m_bits_RotateLeft32
 rw [if_pos (bitsU_pos ..), if_pos (wrapU_pos _), shW i h]
 rfl
def bO (op : BinOp) (x y : Int) : Int := bitsOf op IntKind.u32 x y
def nK : Int := if IntKind.signed IntKind.u32 = true then (-1 : Int) else IntKind.max IntKind.u32
def fV (i : Nat) (b c d : Int) : Int :=
 bif ((i / 16 : Nat) : Int) == 0 then bO .or (bO .and b c) (bO .and (bO .xor nK b) d)
 else bif ((i / 16 : Nat) : Int) == 1 then bO .or (bO .and d b) (bO .and (bO .xor nK d) c)
 else bif ((i / 16 : Nat) : Int) == 2 then bO .xor (bO .xor b c) d
 else bO .xor c (bO .or b (bO .xor nK d))
def gV (i : Nat) : Nat :=
 bif ((i / 16 : Nat) : Int) == 0 then i
 else bif ((i / 16 : Nat) : Int) == 1 then (5 * i + 1) % 16
 else bif ((i / 16 : Nat) : Int) == 2 then (3 * i + 5) % 16
 else 7 * i % 16
theorem gV_lt (i : Nat) : i < 64 → gV i ≤ 15 := by
 intro h
 unfold gV
 by_cases h0 : i / 16 = 0
 ·rw [show (((i / 16 : Nat) : Int) == 0) = true by rw [beq_iff_eq]; omega, cond_true]; omega
 ·rw [show (((i / 16 : Nat) : Int) == 0) = false by rw [beq_eq_false_iff_ne]; omega, cond_false]
  cases ((i / 16 : Nat) : Int) == 1 with
  | true => rw [cond_true]; omega
  | false =>
   rw [cond_false]
   cases ((i / 16 : Nat) : Int) == 2 with
   | true => rw [cond_true]; omega
   | false => rw [cond_false]; omega
def wdV (blk : List UInt8) (n : Nat) : Int := wd (blk.getD n 0).toNat (blk.getD (n + 1) 0).toNat (blk.getD (n + 2) 0).toNat (blk.getD (n + 3) 0).toNat
abbrev Q4 := Int × Int × Int × Int
def stepV (blk : List UInt8) (i : Nat) (q : Q4) : Q4 :=
 (q.2.2.2, IntKind.wrap IntKind.u32 (q.2.1 + rotV (IntKind.wrap IntKind.u32 (IntKind.wrap IntKind.u32 (IntKind.wrap IntKind.u32 (q.1 + fV i q.2.1 q.2.2.1 q.2.2.2) + List.getD (α := Int) gv0 i (Int.ofNat (nat_lit 0))) + wdV blk (4 * gV i))) (shV i)), q.2.1, q.2.2.1)
def mst (blk : List UInt8) (q : Q4) : Nat → Q4
 | 0 => q
 | i + 1 => stepV blk i (mst blk q i)
def fin4 (st : List Int) (q : Q4) : List Int := [IntKind.wrap IntKind.u32 (List.getD st 0 (Int.ofNat (nat_lit 0)) + q.1), IntKind.wrap IntKind.u32 (List.getD st 1 (Int.ofNat (nat_lit 0)) + q.2.1), IntKind.wrap IntKind.u32 (List.getD st 2 (Int.ofNat (nat_lit 0)) + q.2.2.1), IntKind.wrap IntKind.u32 (List.getD st 3 (Int.ofNat (nat_lit 0)) + q.2.2.2)]
def mixV (st : List Int) (blk : List UInt8) : List Int := fin4 st (mst blk (List.getD st 0 (Int.ofNat (nat_lit 0)), List.getD st 1 (Int.ofNat (nat_lit 0)), List.getD st 2 (Int.ofNat (nat_lit 0)), List.getD st 3 (Int.ofNat (nat_lit 0))) 64)
theorem tm (x : Nat) : Int.tmod (x : Int) 16 = ((x % 16 : Nat) : Int) := rfl
theorem getD_cut (blk : List UInt8) (n m k : Nat) (h : n + k < m) : ((blk.take m).drop n).getD k 0 = blk.getD (n + k) 0 := by
 rw [List.getD_eq_getElem?_getD, List.getElem?_drop, List.getElem?_take, if_pos h, List.getD_eq_getElem?_getD]
theorem mixI_eq (st : List Int) (blk : List UInt8) (hb : blk.length = 64) : m_impl_mix st blk = some (mixV st blk, ()) := by
 unfold m_impl_mix
 have h4 : ([List.getD st (nat_lit 0) (Int.ofNat (nat_lit 0)), List.getD st (nat_lit 1) (Int.ofNat (nat_lit 0)), List.getD st (nat_lit 2) (Int.ofNat (nat_lit 0)), List.getD st (nat_lit 3) (Int.ofNat (nat_lit 0))] : List Int).length = 4 := rfl
 have g0 : List.getD ([List.getD st (nat_lit 0) (Int.ofNat (nat_lit 0)), List.getD st (nat_lit 1) (Int.ofNat (nat_lit 0)), List.getD st (nat_lit 2) (Int.ofNat (nat_lit 0)), List.getD st (nat_lit 3) (Int.ofNat (nat_lit 0))] : List Int) (Int.toNat 0) (Int.ofNat (nat_lit 0)) = List.getD st 0 (Int.ofNat (nat_lit 0)) := rfl
 have g1 : List.getD ([List.getD st (nat_lit 0) (Int.ofNat (nat_lit 0)), List.getD st (nat_lit 1) (Int.ofNat (nat_lit 0)), List.getD st (nat_lit 2) (Int.ofNat (nat_lit 0)), List.getD st (nat_lit 3) (Int.ofNat (nat_lit 0))] : List Int) (Int.toNat 1) (Int.ofNat (nat_lit 0)) = List.getD st 1 (Int.ofNat (nat_lit 0)) := rfl
 have g2 : List.getD ([List.getD st (nat_lit 0) (Int.ofNat (nat_lit 0)), List.getD st (nat_lit 1) (Int.ofNat (nat_lit 0)), List.getD st (nat_lit 2) (Int.ofNat (nat_lit 0)), List.getD st (nat_lit 3) (Int.ofNat (nat_lit 0))] : List Int) (Int.toNat 2) (Int.ofNat (nat_lit 0)) = List.getD st 2 (Int.ofNat (nat_lit 0)) := rfl
 have g3 : List.getD ([List.getD st (nat_lit 0) (Int.ofNat (nat_lit 0)), List.getD st (nat_lit 1) (Int.ofNat (nat_lit 0)), List.getD st (nat_lit 2) (Int.ofNat (nat_lit 0)), List.getD st (nat_lit 3) (Int.ofNat (nat_lit 0))] : List Int) (Int.toNat 3) (Int.ofNat (nat_lit 0)) = List.getD st 3 (Int.ofNat (nat_lit 0)) := rfl
 generalize ([List.getD st (nat_lit 0) (Int.ofNat (nat_lit 0)), List.getD st (nat_lit 1) (Int.ofNat (nat_lit 0)), List.getD st (nat_lit 2) (Int.ofNat (nat_lit 0)), List.getD st (nat_lit 3) (Int.ofNat (nat_lit 0))] : List Int) = A at h4 g0 g1 g2 g3 ⊢
 have c0 : Int.toNat 0 < A.length := by rw [h4]; decide
 have c1 : Int.toNat 1 < A.length := by rw [h4]; decide
 have c2 : Int.toNat 2 < A.length := by rw [h4]; decide
 have c3 : Int.toNat 3 < A.length := by rw [h4]; decide
 rw [if_pos (by omega), if_pos c0, if_pos (by omega), if_pos c1, if_pos (by omega), if_pos c2, if_pos (by omega), if_pos c3]
 generalize hq0 : ((List.getD st 0 (Int.ofNat (nat_lit 0)), List.getD st 1 (Int.ofNat (nat_lit 0)), List.getD st 2 (Int.ofNat (nat_lit 0)), List.getD st 3 (Int.ofNat (nat_lit 0))) : Q4) = q0
 rw [g0, g1, g2, g3]
 refine bind_eq (x := (((), (), (mst blk q0 64).1, (mst blk q0 64).2.1, (mst blk q0 64).2.2.1, (mst blk q0 64).2.2.2, ()), A, Int.ofNat (nat_lit 0) :: List.replicate (nat_lit 3) (Int.ofNat (nat_lit 0)), ()))
  (loopC_inv _ (fun n t => ∃ i : Nat, t = ((blk, (), (), (mst blk q0 i).1, (mst blk q0 i).2.1, (mst blk q0 i).2.2.1, (mst blk q0 i).2.2.2, (i : Int), ()), A, Int.ofNat (nat_lit 0) :: List.replicate (nat_lit 3) (Int.ofNat (nat_lit 0)), ()) ∧ i ≤ 64 ∧ n = 64 - i)
  (fun _ => some (((), (), (mst blk q0 64).1, (mst blk q0 64).2.1, (mst blk q0 64).2.2.1, (mst blk q0 64).2.2.2, ()), A, Int.ofNat (nat_lit 0) :: List.replicate (nat_lit 3) (Int.ofNat (nat_lit 0)), ())) ?_ _ 64 _ ⟨0, by rw [← hq0]; rfl, by omega, rfl⟩ (by omega)) ?_
 ·rintro n t k ⟨i, rfl, hi, rfl⟩ hk
  dsimp only
  by_cases hlt : i < 64
  ·have hstep : mst blk q0 (i + 1) = stepV blk i (mst blk q0 i) := rfl
   have hg := gV_lt i hlt
   rw [decide_eq_true (show (i : Int) < 64 by omega), cond_true, if_pos (by decide)]
   refine bind_eq (x := ((blk, (), (), (mst blk q0 i).1, (mst blk q0 i).2.1, (mst blk q0 i).2.2.1, (mst blk q0 i).2.2.2, (i : Int), fV i (mst blk q0 i).2.1 (mst blk q0 i).2.2.1 (mst blk q0 i).2.2.2, ((gV i : Nat) : Int), (i : Int), ()), A, Int.ofNat (nat_lit 0) :: List.replicate (nat_lit 3) (Int.ofNat (nat_lit 0)), ())) ?_ ?_
   ·rw [div16 i (by omega)]
    unfold fV gV
    cases ((i / 16 : Nat) : Int) == 0 with
    | true => rfl
    | false =>
     simp only [cond_false]
     cases ((i / 16 : Nat) : Int) == 1 with
     | true =>
      rw [cond_true, if_pos (by decide)]
      have e : IntKind.wrap IntKind.i64 (IntKind.wrap IntKind.i64 (5 * (i : Int)) + 1) = ((5 * i + 1 : Nat) : Int) := by rw [wr (5 * (i : Int)) (by omega), wr _ (by omega)]; omega
      rw [e, tm]; rfl
     | false =>
      simp only [cond_false]
      cases ((i / 16 : Nat) : Int) == 2 with
      | true =>
       rw [cond_true, if_pos (by decide)]
       have e : IntKind.wrap IntKind.i64 (IntKind.wrap IntKind.i64 (3 * (i : Int)) + 5) = ((3 * i + 5 : Nat) : Int) := by rw [wr (3 * (i : Int)) (by omega), wr _ (by omega)]; omega
       rw [e, tm]; rfl
      | false =>
       rw [cond_false, if_pos (by decide)]
       have e : IntKind.wrap IntKind.i64 (7 * (i : Int)) = ((7 * i : Nat) : Int) := by rw [wr (7 * (i : Int)) (by omega)]; omega
       rw [e, tm]; rfl
   dsimp only
   have hgl := gv0_len
   have hgl1 := gv1_len
   have hq : i / 16 < 4 := by omega
   have e4 : Int.tmod (i : Int) 4 = ((i % 4 : Nat) : Int) := rfl
   rw [if_pos (by rw [hgl]; omega), wr (4 * ((gV i : Nat) : Int)) (by omega), if_pos (by rw [hb]; omega)]
   rw [show Int.toNat (4 * ((gV i : Nat) : Int)) = 4 * gV i by omega, Int.toNat_natCast]
   refine bind_eq (readWord_eq _ (by rw [List.length_drop, List.length_take, hb]; omega)) ?_
   rw [getD_cut _ _ _ 0 (by omega), getD_cut _ _ _ 1 (by omega), getD_cut _ _ _ 2 (by omega), getD_cut _ _ _ 3 (by omega)]
   dsimp only
   rw [if_pos (by decide), if_pos (by decide), div16 i (by omega), e4, if_pos (by rw [hgl1]; omega), Int.toNat_natCast (i / 16), Int.toNat_natCast (i % 4), if_pos (by rw [gv1_row _ hq]; omega), turn_eq i hlt, rot_eq _ i hlt, Option.bind_some]
   dsimp only
   rw [wr1 i (by omega)]
   refine hk (64 - (i + 1)) _ (by omega) ⟨i + 1, ?_, by omega, rfl⟩
   rw [hstep]
   rfl
  ·have : i = 64 := by omega
   subst this
   rw [decide_eq_false (by omega), cond_false]
 ·dsimp only
  rw [if_pos (by omega), if_pos c0, if_pos (by omega), if_pos c1, if_pos (by omega), if_pos c2, if_pos (by omega), if_pos c3, g0, g1, g2, g3]
  unfold mixV fin4
  rw [hq0]
  rfl
theorem mixS_eq (st : List Int) (blk : List UInt8) (hb : blk.length = 64) : m_spec_MixStrong st blk = some (mixV st blk, ()) := by
 unfold m_spec_MixStrong
 rw [show (((blk.length : Int)) != 64) = false by rw [hb]; rfl, cond_false]
 have h4 : ([List.getD st (nat_lit 0) (Int.ofNat (nat_lit 0)), List.getD st (nat_lit 1) (Int.ofNat (nat_lit 0)), List.getD st (nat_lit 2) (Int.ofNat (nat_lit 0)), List.getD st (nat_lit 3) (Int.ofNat (nat_lit 0))] : List Int).length = 4 := rfl
 have g0 : List.getD ([List.getD st (nat_lit 0) (Int.ofNat (nat_lit 0)), List.getD st (nat_lit 1) (Int.ofNat (nat_lit 0)), List.getD st (nat_lit 2) (Int.ofNat (nat_lit 0)), List.getD st (nat_lit 3) (Int.ofNat (nat_lit 0))] : List Int) (Int.toNat 0) (Int.ofNat (nat_lit 0)) = List.getD st 0 (Int.ofNat (nat_lit 0)) := rfl
 have g1 : List.getD ([List.getD st (nat_lit 0) (Int.ofNat (nat_lit 0)), List.getD st (nat_lit 1) (Int.ofNat (nat_lit 0)), List.getD st (nat_lit 2) (Int.ofNat (nat_lit 0)), List.getD st (nat_lit 3) (Int.ofNat (nat_lit 0))] : List Int) (Int.toNat 1) (Int.ofNat (nat_lit 0)) = List.getD st 1 (Int.ofNat (nat_lit 0)) := rfl
 have g2 : List.getD ([List.getD st (nat_lit 0) (Int.ofNat (nat_lit 0)), List.getD st (nat_lit 1) (Int.ofNat (nat_lit 0)), List.getD st (nat_lit 2) (Int.ofNat (nat_lit 0)), List.getD st (nat_lit 3) (Int.ofNat (nat_lit 0))] : List Int) (Int.toNat 2) (Int.ofNat (nat_lit 0)) = List.getD st 2 (Int.ofNat (nat_lit 0)) := rfl
 have g3 : List.getD ([List.getD st (nat_lit 0) (Int.ofNat (nat_lit 0)), List.getD st (nat_lit 1) (Int.ofNat (nat_lit 0)), List.getD st (nat_lit 2) (Int.ofNat (nat_lit 0)), List.getD st (nat_lit 3) (Int.ofNat (nat_lit 0))] : List Int) (Int.toNat 3) (Int.ofNat (nat_lit 0)) = List.getD st 3 (Int.ofNat (nat_lit 0)) := rfl
 generalize ([List.getD st (nat_lit 0) (Int.ofNat (nat_lit 0)), List.getD st (nat_lit 1) (Int.ofNat (nat_lit 0)), List.getD st (nat_lit 2) (Int.ofNat (nat_lit 0)), List.getD st (nat_lit 3) (Int.ofNat (nat_lit 0))] : List Int) = A at h4 g0 g1 g2 g3 ⊢
 have c0 : Int.toNat 0 < A.length := by rw [h4]; decide
 have c1 : Int.toNat 1 < A.length := by rw [h4]; decide
 have c2 : Int.toNat 2 < A.length := by rw [h4]; decide
 have c3 : Int.toNat 3 < A.length := by rw [h4]; decide
 rw [if_pos (by omega), if_pos c0, if_pos (by omega), if_pos c1, if_pos (by omega), if_pos c2, if_pos (by omega), if_pos c3]
 generalize hq0 : ((List.getD st 0 (Int.ofNat (nat_lit 0)), List.getD st 1 (Int.ofNat (nat_lit 0)), List.getD st 2 (Int.ofNat (nat_lit 0)), List.getD st 3 (Int.ofNat (nat_lit 0))) : Q4) = q0
 rw [g0, g1, g2, g3]
 refine bind_eq (x := (((), (), (mst blk q0 64).1, (mst blk q0 64).2.1, (mst blk q0 64).2.2.1, (mst blk q0 64).2.2.2, ()), A, Int.ofNat (nat_lit 0) :: List.replicate (nat_lit 3) (Int.ofNat (nat_lit 0)), ()))
  (loopC_inv _ (fun n t => ∃ i : Nat, t = ((blk, (), (), (mst blk q0 i).1, (mst blk q0 i).2.1, (mst blk q0 i).2.2.1, (mst blk q0 i).2.2.2, (i : Int), ()), A, Int.ofNat (nat_lit 0) :: List.replicate (nat_lit 3) (Int.ofNat (nat_lit 0)), ()) ∧ i ≤ 64 ∧ n = 64 - i)
  (fun _ => some (((), (), (mst blk q0 64).1, (mst blk q0 64).2.1, (mst blk q0 64).2.2.1, (mst blk q0 64).2.2.2, ()), A, Int.ofNat (nat_lit 0) :: List.replicate (nat_lit 3) (Int.ofNat (nat_lit 0)), ())) ?_ _ 64 _ ⟨0, by rw [← hq0]; rfl, by omega, rfl⟩ (by omega)) ?_
 ·rintro n t k ⟨i, rfl, hi, rfl⟩ hk
  dsimp only
  by_cases hlt : i < 64
  ·have hstep : mst blk q0 (i + 1) = stepV blk i (mst blk q0 i) := rfl
   have hg := gV_lt i hlt
   rw [decide_eq_true (show (i : Int) < 64 by omega), cond_true, if_pos (by decide)]
   refine bind_eq (x := ((blk, (), (), (mst blk q0 i).1, (mst blk q0 i).2.1, (mst blk q0 i).2.2.1, (mst blk q0 i).2.2.2, (i : Int), fV i (mst blk q0 i).2.1 (mst blk q0 i).2.2.1 (mst blk q0 i).2.2.2, ((gV i : Nat) : Int), ()), A, Int.ofNat (nat_lit 0) :: List.replicate (nat_lit 3) (Int.ofNat (nat_lit 0)), ())) ?_ ?_
   ·rw [div16 i (by omega)]
    unfold fV gV
    cases ((i / 16 : Nat) : Int) == 0 with
    | true => rfl
    | false =>
     simp only [cond_false]
     cases ((i / 16 : Nat) : Int) == 1 with
     | true =>
      rw [cond_true, if_pos (by decide)]
      have e : IntKind.wrap IntKind.i64 (IntKind.wrap IntKind.i64 (5 * (i : Int)) + 1) = ((5 * i + 1 : Nat) : Int) := by rw [wr (5 * (i : Int)) (by omega), wr _ (by omega)]; omega
      rw [e, tm]; rfl
     | false =>
      simp only [cond_false]
      cases ((i / 16 : Nat) : Int) == 2 with
      | true =>
       rw [cond_true, if_pos (by decide)]
       have e : IntKind.wrap IntKind.i64 (IntKind.wrap IntKind.i64 (3 * (i : Int)) + 5) = ((3 * i + 5 : Nat) : Int) := by rw [wr (3 * (i : Int)) (by omega), wr _ (by omega)]; omega
       rw [e, tm]; rfl
      | false =>
       rw [cond_false, if_pos (by decide)]
       have e : IntKind.wrap IntKind.i64 (7 * (i : Int)) = ((7 * i : Nat) : Int) := by rw [wr (7 * (i : Int)) (by omega)]; omega
       rw [e, tm]; rfl
   dsimp only
   rw [wr (4 * ((gV i : Nat) : Int)) (by omega), wr (4 * ((gV i : Nat) : Int) + 4) (by omega), if_pos (by rw [hb]; omega)]
   rw [show Int.toNat (4 * ((gV i : Nat) : Int)) = 4 * gV i by omega, show Int.toNat (4 * ((gV i : Nat) : Int) + 4) = 4 * gV i + 4 by omega]
   obtain ⟨gg, hw⟩ := getWord_eq ((blk.take (4 * gV i + 4)).drop (4 * gV i)) (by rw [List.length_drop, List.length_take, hb]; omega)
   refine bind_eq hw ?_
   rw [getD_cut _ _ _ 0 (by omega), getD_cut _ _ _ 1 (by omega), getD_cut _ _ _ 2 (by omega), getD_cut _ _ _ 3 (by omega)]
   dsimp only
   rw [k_eq i hlt, Option.bind_some, sh_eq i hlt, Option.bind_some]
   dsimp only
   rw [if_pos (wrapU_pos _), if_pos (wrapU_pos _), wr1 i (by omega)]
   refine hk (64 - (i + 1)) _ (by omega) ⟨i + 1, ?_, by omega, rfl⟩
   rw [hstep]
   rfl
  ·have : i = 64 := by omega
   subst this
   rw [decide_eq_false (by omega), cond_false]
 ·dsimp only
  rw [if_pos (by omega), if_pos c0, if_pos (by omega), if_pos c1, if_pos (by omega), if_pos c2, if_pos (by omega), if_pos c3, g0, g1, g2, g3]
  unfold mixV fin4
  rw [hq0]
  rfl
theorem cp4 (l : List Int) (h : l.length = 4) : ([List.getD l (nat_lit 0) (Int.ofNat (nat_lit 0)), List.getD l (nat_lit 1) (Int.ofNat (nat_lit 0)), List.getD l (nat_lit 2) (Int.ofNat (nat_lit 0)), List.getD l (nat_lit 3) (Int.ofNat (nat_lit 0))] : List Int) = l := by
 match l, h with
 | [_, _, _, _], _ => rfl
theorem cp16 (l : List Int) (h : l.length = 16) : ([List.getD l (nat_lit 0) (Int.ofNat (nat_lit 0)), List.getD l (nat_lit 1) (Int.ofNat (nat_lit 0)), List.getD l (nat_lit 2) (Int.ofNat (nat_lit 0)), List.getD l (nat_lit 3) (Int.ofNat (nat_lit 0)), List.getD l (nat_lit 4) (Int.ofNat (nat_lit 0)), List.getD l (nat_lit 5) (Int.ofNat (nat_lit 0)), List.getD l (nat_lit 6) (Int.ofNat (nat_lit 0)), List.getD l (nat_lit 7) (Int.ofNat (nat_lit 0)), List.getD l (nat_lit 8) (Int.ofNat (nat_lit 0)), List.getD l (nat_lit 9) (Int.ofNat (nat_lit 0)), List.getD l (nat_lit 10) (Int.ofNat (nat_lit 0)), List.getD l (nat_lit 11) (Int.ofNat (nat_lit 0)), List.getD l (nat_lit 12) (Int.ofNat (nat_lit 0)), List.getD l (nat_lit 13) (Int.ofNat (nat_lit 0)), List.getD l (nat_lit 14) (Int.ofNat (nat_lit 0)), List.getD l (nat_lit 15) (Int.ofNat (nat_lit 0))] : List Int) = l := by
 match l, h with
 | [_, _, _, _, _, _, _, _, _, _, _, _, _, _, _, _], _ => rfl
theorem strOf_cut (l : List Int) (a b : Nat) : strOf ((l.take a).drop b) = ((strOf l).take a).drop b := by
 unfold strOf
 rw [List.map_drop, List.map_take]
def W4 (l : List Int) : Prop := ∃ a b c d : Nat, l = [(a : Int), (b : Int), (c : Int), (d : Int)] ∧ a < 4294967296 ∧ b < 4294967296 ∧ c < 4294967296 ∧ d < 4294967296
theorem w32 (x : Int) : ∃ a : Nat, IntKind.wrap IntKind.u32 x = (a : Int) ∧ a < 4294967296 := by
 refine ⟨(IntKind.wrap IntKind.u32 x).toNat, ?_, ?_⟩
 ·simp [IntKind.wrap, IntKind.signed, IntKind.bits]; omega
 ·simp [IntKind.wrap, IntKind.signed, IntKind.bits]; omega
theorem mixV_ok (st : List Int) (blk : List UInt8) : W4 (mixV st blk) := by
 unfold mixV fin4
 obtain ⟨a, ea, ha⟩ := w32 (List.getD st 0 (Int.ofNat (nat_lit 0)) + (mst blk (List.getD st 0 (Int.ofNat (nat_lit 0)), List.getD st 1 (Int.ofNat (nat_lit 0)), List.getD st 2 (Int.ofNat (nat_lit 0)), List.getD st 3 (Int.ofNat (nat_lit 0))) 64).1)
 obtain ⟨b, eb, hb⟩ := w32 (List.getD st 1 (Int.ofNat (nat_lit 0)) + (mst blk (List.getD st 0 (Int.ofNat (nat_lit 0)), List.getD st 1 (Int.ofNat (nat_lit 0)), List.getD st 2 (Int.ofNat (nat_lit 0)), List.getD st 3 (Int.ofNat (nat_lit 0))) 64).2.1)
 obtain ⟨c, ec, hc⟩ := w32 (List.getD st 2 (Int.ofNat (nat_lit 0)) + (mst blk (List.getD st 0 (Int.ofNat (nat_lit 0)), List.getD st 1 (Int.ofNat (nat_lit 0)), List.getD st 2 (Int.ofNat (nat_lit 0)), List.getD st 3 (Int.ofNat (nat_lit 0))) 64).2.2.1)
 obtain ⟨d, ed, hd⟩ := w32 (List.getD st 3 (Int.ofNat (nat_lit 0)) + (mst blk (List.getD st 0 (Int.ofNat (nat_lit 0)), List.getD st 1 (Int.ofNat (nat_lit 0)), List.getD st 2 (Int.ofNat (nat_lit 0)), List.getD st 3 (Int.ofNat (nat_lit 0))) 64).2.2.2)
 exact ⟨a, b, c, d, by rw [ea, eb, ec, ed], ha, hb, hc, hd⟩
def stV (B : List UInt8) : Nat → List Int
 | 0 => [1732584193, 4023233417, 2562383102, 271733878]
 | j + 1 => mixV (stV B j) ((B.take (64 * j + 64)).drop (64 * j))
theorem stV_ok (B : List UInt8) : ∀ j, W4 (stV B j)
 | 0 => ⟨1732584193, 4023233417, 2562383102, 271733878, rfl, by decide, by decide, by decide, by decide⟩
 | j + 1 => mixV_ok _ _
theorem stV_len (B : List UInt8) (j : Nat) : (stV B j).length = 4 := by
 obtain ⟨a, b, c, d, e, _⟩ := stV_ok B j
 rw [e]; rfl
theorem mixV_len (st : List Int) (blk : List UInt8) : (mixV st blk).length = 4 := rfl
theorem putWord_eq (x : Nat) (h : x < 4294967296) : m_spec_PutWord (x : Int) = some (le8 4 x, ()) := by
 unfold m_spec_PutWord
 rw [if_pos (by decide), if_pos (by decide), if_pos (by decide), if_pos (by decide), if_pos (by decide), if_pos (by decide), wr (x : Int) (by omega)]
 have e1 : Int.tdiv (x : Int) 256 = ((x / 256 : Nat) : Int) := rfl
 have e2 : Int.tdiv (x : Int) 65536 = ((x / 65536 : Nat) : Int) := rfl
 have e3 : Int.tdiv (x : Int) 16777216 = ((x / 16777216 : Nat) : Int) := rfl
 have m : ∀ y : Nat, Int.tmod (y : Int) 256 = ((y % 256 : Nat) : Int) := fun y => rfl
 have w : ∀ y : Nat, y < 256 → IntKind.wrap IntKind.u8 (y : Int) = (y : Int) := fun y hy => wrapB_id _ (by omega)
 rw [e1, e2, e3, wr ((x / 256 : Nat) : Int) (by omega), wr ((x / 65536 : Nat) : Int) (by omega), wr ((x / 16777216 : Nat) : Int) (by omega), m, m, m, w _ (by omega), w _ (by omega), w _ (by omega), w _ (by omega)]
 have d1 : x / 256 / 256 = x / 65536 := by omega
 have d2 : x / 65536 / 256 = x / 16777216 := by omega
 have d3 : x / 16777216 % 256 = x / 16777216 := by omega
 show some ([((x % 256 : Nat) : Int), ((x / 256 % 256 : Nat) : Int), ((x / 65536 % 256 : Nat) : Int), ((x / 16777216 : Nat) : Int)], ()) = some ([((x % 256 : Nat) : Int), ((x / 256 % 256 : Nat) : Int), ((x / 256 / 256 % 256 : Nat) : Int), ((x / 256 / 256 / 256 % 256 : Nat) : Int)], ())
 rw [d1, d2, d3]
def sumW (a b c d : Nat) : List Int := le8 4 a ++ le8 4 b ++ le8 4 c ++ le8 4 d
theorem sumW_at (a b c d j q : Nat) (hj : j < 4) (hq : q < 4) : (sumW a b c d).getD (4 * j + q) (Int.ofNat (nat_lit 0)) = (le8 4 ([a, b, c, d].getD j 0)).getD q (Int.ofNat (nat_lit 0)) := by
 rcases (show j = 0 ∨ j = 1 ∨ j = 2 ∨ j = 3 by omega) with rfl | rfl | rfl | rfl <;>
 rcases (show q = 0 ∨ q = 1 ∨ q = 2 ∨ q = 3 by omega) with rfl | rfl | rfl | rfl <;> rfl
def outW (W : List Int) (i : Nat) : List Int := W.take i ++ List.replicate (16 - i) (0 : Int)
theorem outW_len (W : List Int) (h : W.length = 16) (i : Nat) (hi : i ≤ 16) : (outW W i).length = 16 := by
 unfold outW
 rw [List.length_append, List.length_take, List.length_replicate]; omega
theorem outW_set (W : List Int) (h : W.length = 16) (i : Nat) (hi : i < 16) : (outW W i).set i (W.getD i (Int.ofNat (nat_lit 0))) = outW W (i + 1) := by
 unfold outW
 have hl : (W.take i).length = i := by rw [List.length_take]; omega
 rw [List.set_append_right _ _ (by omega), hl, Nat.sub_self, show 16 - i = (16 - (i + 1)) + 1 by omega, List.replicate_succ, List.set_cons_zero, List.take_add_one, List.getD_eq_getElem?_getD, List.getElem?_eq_getElem (by omega), List.append_assoc]
 rfl
theorem strong_eq (s : List UInt8) (h : s.length ≤ 20000) : ∃ W : List Int, m_spec_StrongOf s = some (W, ()) ∧ m_impl_strong s = some (strOf W, ()) ∧ W.length = 16 ∧ Bd W := by
 obtain ⟨P, eS, eI, hm, h0, hl, hB⟩ := pad_eq s h
 have hBl : (strOf P).length = P.length := strOf_len P
 obtain ⟨a, b, c, d, est, ha, hb, hc, hd⟩ := stV_ok (strOf P) (P.length / 64)
 refine ⟨sumW a b c d, ?_, ?_, rfl, bd_app (bd_app (bd_app (bd_le8 _ _) (bd_le8 _ _)) (bd_le8 _ _)) (bd_le8 _ _)⟩
 ·unfold m_spec_StrongOf
  refine bind_eq eS ?_
  dsimp only
  rw [show (((P.length : Int)) == 0) = false by rw [beq_eq_false_iff_ne]; omega, cond_false]
  refine bind_eq (x := (((), (), (), ()), Int.ofNat (nat_lit 0) :: List.replicate (nat_lit 15) (Int.ofNat (nat_lit 0)), List.replicate (16 : Nat) (0 : Int), stV (strOf P) (P.length / 64), ())) ?_ ?_
  ·refine loopC_inv _ (fun n t => ∃ j : Nat, t = (((), (), P, (), ((64 * j : Nat) : Int), ()), Int.ofNat (nat_lit 0) :: List.replicate (nat_lit 15) (Int.ofNat (nat_lit 0)), List.replicate (16 : Nat) (0 : Int), stV (strOf P) j, ()) ∧ 64 * j ≤ P.length ∧ n = P.length - j) (fun _ => some (((), (), (), ()), Int.ofNat (nat_lit 0) :: List.replicate (nat_lit 15) (Int.ofNat (nat_lit 0)), List.replicate (16 : Nat) (0 : Int), stV (strOf P) (P.length / 64), ())) ?_ _ P.length _ ⟨0, rfl, by omega, rfl⟩ (by omega)
   rintro n t k ⟨j, rfl, hj, rfl⟩ hk
   dsimp only
   rw [wr (((64 * j : Nat) : Int) + 64) (by omega)]
   by_cases hlt : 64 * j + 64 ≤ P.length
   ·rw [decide_eq_true (by omega), cond_true, if_pos (by omega)]
    have e1 : List.map (fun (n : Int) => UInt8.ofNat (Int.toNat n)) (List.drop (Int.toNat ((64 * j : Nat) : Int)) (List.take (Int.toNat (((64 * j : Nat) : Int) + 64)) P)) = ((strOf P).take (64 * j + 64)).drop (64 * j) := by
     rw [← strOf_cut]; rfl
    rw [e1, cp4 _ (stV_len _ j)]
    refine bind_eq (mixS_eq _ _ (by rw [List.length_drop, List.length_take]; omega)) ?_
    dsimp only
    rw [cp4 _ (mixV_len _ _)]
    exact hk (P.length - (j + 1)) _ (by omega) ⟨j + 1, rfl, by omega, rfl⟩
   ·rw [decide_eq_false (by omega), cond_false, show j = P.length / 64 by omega]
  ·dsimp only
   rw [est]
   have hst : ∀ j : Nat, List.getD ([(a : Int), (b : Int), (c : Int), (d : Int)] : List Int) j (Int.ofNat (nat_lit 0)) = (([a, b, c, d].getD j 0 : Nat) : Int) := by
    intro j
    match j with
    | 0 => rfl
    | 1 => rfl
    | 2 => rfl
    | 3 => rfl
    | (j + 4) => rfl
   have hlt4 : ∀ j : Nat, [a, b, c, d].getD j 0 < 4294967296 := by
    intro j
    match j with
    | 0 => exact ha
    | 1 => exact hb
    | 2 => exact hc
    | 3 => exact hd
    | (j + 4) => exact (by decide : 0 < 4294967296)
   have hs4 : ([(a : Int), (b : Int), (c : Int), (d : Int)] : List Int).length = 4 := rfl
   generalize ([(a : Int), (b : Int), (c : Int), (d : Int)] : List Int) = st at hst hs4 ⊢
   have hW : (sumW a b c d).length = 16 := rfl
   have hat := sumW_at a b c d
   generalize sumW a b c d = W at hW hat ⊢
   generalize [a, b, c, d] = xs at hst hlt4 hat ⊢
   refine bind_eq (x := (((), (), ()), Int.ofNat (nat_lit 0) :: List.replicate (nat_lit 15) (Int.ofNat (nat_lit 0)), outW W 16, ())) ?_ ?_
   ·refine loopC_inv _ (fun n t => ∃ j : Nat, t = (((), (), (), (j : Int), ()), Int.ofNat (nat_lit 0) :: List.replicate (nat_lit 15) (Int.ofNat (nat_lit 0)), outW W (4 * j), st, ()) ∧ j ≤ 4 ∧ n = 4 - j) (fun _ => some (((), (), ()), Int.ofNat (nat_lit 0) :: List.replicate (nat_lit 15) (Int.ofNat (nat_lit 0)), outW W 16, ())) ?_ _ 4 _ ⟨0, rfl, by omega, rfl⟩ (by omega)
    rintro n t k ⟨j, rfl, hj, rfl⟩ hk
    dsimp only
    by_cases hlt : j < 4
    ·rw [decide_eq_true (show (j : Int) < 4 by omega), cond_true, hs4, if_pos (by omega), if_pos (by omega), Int.toNat_natCast, hst]
     refine bind_eq (putWord_eq _ (hlt4 j)) ?_
     dsimp only
     refine bind_eq (x := (((), (), (), (j : Int), ()), Int.ofNat (nat_lit 0) :: List.replicate (nat_lit 15) (Int.ofNat (nat_lit 0)), outW W (4 * j + 4), st, ())) ?_ ?_
     ·refine loopC_inv _ (fun n t => ∃ q : Nat, t = (((), (), (), (j : Int), le8 4 (xs.getD j 0), (q : Int), ()), Int.ofNat (nat_lit 0) :: List.replicate (nat_lit 15) (Int.ofNat (nat_lit 0)), outW W (4 * j + q), st, ()) ∧ q ≤ 4 ∧ n = 4 - q) (fun _ => some (((), (), (), (j : Int), ()), Int.ofNat (nat_lit 0) :: List.replicate (nat_lit 15) (Int.ofNat (nat_lit 0)), outW W (4 * j + 4), st, ())) ?_ _ 4 _ ⟨0, rfl, by omega, rfl⟩ (by omega)
      rintro n t kk ⟨q, rfl, hq, rfl⟩ hkk
      dsimp only
      by_cases hlq : q < 4
      ·have hol := outW_len W hW (4 * j + q) (by omega)
       rw [decide_eq_true (show (q : Int) < 4 by omega), cond_true, show (le8 4 (xs.getD j 0)).length = 4 from rfl, if_pos (by omega), wr (4 * (j : Int)) (by omega), wr (4 * (j : Int) + (q : Int)) (by omega), hol, if_pos (by omega), show Int.toNat (4 * (j : Int) + (q : Int)) = 4 * j + q by omega, if_pos (by omega), wr1 q (by omega), Int.toNat_natCast, ← hat j q hlt hlq, outW_set W hW _ (by omega)]
       exact hkk (4 - (q + 1)) _ (by omega) ⟨q + 1, rfl, by omega, rfl⟩
      ·rw [decide_eq_false (by omega), cond_false, show q = 4 by omega]
     ·dsimp only
      rw [wr1 j (by omega)]
      exact hk (4 - (j + 1)) _ (by omega) ⟨j + 1, rfl, by omega, rfl⟩
    ·rw [decide_eq_false (by omega), cond_false, show j = 4 by omega]
   ·dsimp only
    have ho : outW W 16 = W := by
     unfold outW
     rw [List.take_of_length_le (by omega)]
     exact List.append_nil W
    rw [ho, cp16 W hW, cp16 W hW]
 ·unfold m_impl_strong
  refine bind_eq eI ?_
  dsimp only
  refine bind_eq (x := (((), ()), stV (strOf P) (P.length / 64), ())) ?_ ?_
  ·refine loopC_inv _ (fun n t => ∃ j : Nat, t = (((), (strOf P).drop (64 * j), ()), stV (strOf P) j, ()) ∧ 64 * j ≤ P.length ∧ n = P.length - j) (fun _ => some (((), ()), stV (strOf P) (P.length / 64), ())) ?_ _ P.length _ ⟨0, rfl, by omega, rfl⟩ (by omega)
   rintro n t k ⟨j, rfl, hj, rfl⟩ hk
   dsimp only
   cases hn : (strOf P).drop (64 * j) == nilOf UInt8 with
   | true =>
    have he : (strOf P).drop (64 * j) = [] := by simpa [nilOf] using hn
    have := congrArg List.length he
    rw [List.length_drop, hBl, List.length_nil] at this
    rw [Bool.not_true, cond_false, show j = P.length / 64 by omega]
   | false =>
    have hne : (strOf P).drop (64 * j) ≠ [] := by simpa [nilOf] using hn
    have hpos := List.length_pos_iff.2 hne
    rw [List.length_drop, hBl] at hpos
    have hdl : ((strOf P).drop (64 * j)).length = P.length - 64 * j := by rw [List.length_drop, hBl]
    rw [Bool.not_false, cond_true, hdl, if_pos (by omega), cp4 _ (stV_len _ j)]
    have e1 : List.drop (Int.toNat 0) (List.take (Int.toNat 64) ((strOf P).drop (64 * j))) = ((strOf P).take (64 * j + 64)).drop (64 * j) := by
     rw [List.drop_take (i := 64 * j), show 64 * j + 64 - 64 * j = 64 by omega]; rfl
    rw [e1]
    refine bind_eq (mixI_eq _ _ (by rw [List.length_drop, List.length_take]; omega)) ?_
    dsimp only
    have e2 : List.drop (Int.toNat 64) (List.take (Int.toNat ((P.length - 64 * j : Nat) : Int)) ((strOf P).drop (64 * j))) = (strOf P).drop (64 * (j + 1)) := by
     rw [Int.toNat_natCast, List.take_of_length_le (by omega), List.drop_drop]; rfl
    rw [if_pos (by omega), cp4 _ (mixV_len _ _), e2]
    exact hk (P.length - (j + 1)) _ (by omega) ⟨j + 1, rfl, by omega, rfl⟩
  ·dsimp only
   rw [est]
   have sm : ∀ n : Nat, n ≤ 100 → n < 2 ^ 63 := fun n hn => by show n < 9223372036854775808; omega
   have ll : ∀ x, (strOf (le8 4 x)).length = 4 := fun x => by rw [strOf_len]; rfl
   rw [if_pos (⟨by decide, by decide, by show (0 : Int) < ((4 : Nat) : Int); decide⟩), if_pos (by show 0 < 4; decide)]
   refine bind_eq (wordText_eq a ha) ?_
   dsimp only
   rw [if_pos (⟨by decide, by decide, by show (1 : Int) < ((4 : Nat) : Int); decide⟩), if_pos (by show 1 < 4; decide)]
   refine bind_eq (wordText_eq b hb) ?_
   dsimp only
   rw [if_pos (sm _ (by rw [ll, ll]; omega)), if_pos (⟨by decide, by decide, by show (2 : Int) < ((4 : Nat) : Int); decide⟩), if_pos (by show 2 < 4; decide)]
   refine bind_eq (wordText_eq c hc) ?_
   dsimp only
   rw [if_pos (sm _ (by rw [List.length_append, ll, ll, ll]; omega)), if_pos (⟨by decide, by decide, by show (3 : Int) < ((4 : Nat) : Int); decide⟩), if_pos (by show 3 < 4; decide)]
   refine bind_eq (wordText_eq d hd) ?_
   dsimp only
   rw [if_pos (sm _ (by rw [List.length_append, List.length_append, ll, ll, ll, ll]; omega))]
   unfold sumW
   rw [strOf_app, strOf_app, strOf_app]
theorem iB_strOf : ∀ l : List Int, Bd l → iB (strOf l) = l
 | [], _ => rfl
 | x :: r, h => by
  have hx := h x (List.mem_cons_self ..)
  have ih := iB_strOf r (fun v hv => h v (List.mem_cons_of_mem _ hv))
  show ((UInt8.toNat (UInt8.ofNat (Int.toNat x)) : Nat) : Int) :: iB (strOf r) = x :: r
  rw [ih, UInt8.toNat_ofNat']
  have : ((Int.toNat x % 2 ^ 8 : Nat) : Int) = x := by omega
  rw [this]
theorem bd_hiV : ∀ (k x : Nat), x < 128 ^ k → Bd (hiV x)
 | 0, x, h => by
  have : x = 0 := by simpa using h
  rw [hiV_no (by omega)]
  exact fun v hv => by cases hv
 | k + 1, x, h => by
  by_cases hx : x ≥ 128
  ·rw [hiV_yes hx]
   have ih := bd_hiV k (x / 128) (by rw [Nat.pow_succ] at h; exact Nat.div_lt_of_lt_mul (by omega))
   intro v hv
   rcases List.mem_cons.1 hv with rfl | hv
   ·omega
   ·exact ih v hv
  ·rw [hiV_no hx]
   exact fun v hv => by cases hv
theorem bd_pv (x : Nat) (h : x ≤ 1000000000) : Bd (pv x) := by
 unfold pv
 have := loV_lt x
 exact bd_app (bd_hiV 6 x (by omega)) (bd_one (by omega))
theorem bd_pt (s : List UInt8) (h : s.length ≤ 1000000000) : Bd (pt s) := bd_app (bd_pv _ h) (bd_iB s)
theorem pt_len (s : List UInt8) (h : s.length ≤ 1000000000) : (pt s).length ≤ s.length + 6 := by
 have := pv_len h
 unfold pt iB
 rw [List.length_append, List.length_map]; omega
def nodeRow (x : NodeT) : List Int := pt x.1 ++ pv x.2.1.toNat ++ pv x.2.2.1.toNat ++ pv x.2.2.2.1.toNat ++ pt x.2.2.2.2.1 ++ pt x.2.2.2.2.2.1 ++ pv x.2.2.2.2.2.2.toNat
theorem row_bd {x : NodeT} (h : nodeOk x = true) (hd : x.2.2.2.2.1.length ≤ 20000) (ht : x.2.2.2.2.2.1.length ≤ 60) (hp : x.1.length ≤ 168) : Bd (nodeRow x) := by
 obtain ⟨n1, n2, n3, n4⟩ := node_nums h
 exact bd_app (bd_app (bd_app (bd_app (bd_app (bd_app (bd_pt _ (by omega)) (bd_pv _ (by omega))) (bd_pv _ (by omega))) (bd_pv _ (by omega))) (bd_pt _ (by omega))) (bd_pt _ (by omega))) (bd_pv _ (by omega))
theorem row_len {x : NodeT} (h : nodeOk x = true) (hd : x.2.2.2.2.1.length ≤ 20000) (ht : x.2.2.2.2.2.1.length ≤ 60) (hp : x.1.length ≤ 168) : (nodeRow x).length ≤ x.2.2.2.2.1.length + 300 := by
 obtain ⟨n1, n2, n3, n4⟩ := node_nums h
 have h1 := pt_len x.1 (by omega)
 have h2 : (pv x.2.1.toNat).length ≤ 6 := pv_len (by omega)
 have h3 : (pv x.2.2.1.toNat).length ≤ 6 := pv_len (by omega)
 have h4 : (pv x.2.2.2.1.toNat).length ≤ 6 := pv_len (by omega)
 have h5 := pt_len x.2.2.2.2.1 (by omega)
 have h6 := pt_len x.2.2.2.2.2.1 (by omega)
 have h7 : (pv x.2.2.2.2.2.2.toNat).length ≤ 6 := pv_len (by omega)
 unfold nodeRow
 simp only [List.length_append]
 omega
theorem ok_path {x : NodeT} (h : nodeOk x = true) : x.1.length ≤ 168 := by
 unfold nodeOk pathOk at h
 simp only [Bool.and_eq_true, decide_eq_true_eq] at h
 exact h.1.1.1
theorem ok_target {x : NodeT} (h : nodeOk x = true) : x.2.2.2.2.2.1.length ≤ 60 := by
 unfold nodeOk nodeKind inI at h
 simp only [Bool.and_eq_true] at h
 obtain ⟨_, hk⟩ := h
 cases h0 : x.2.1 == 0 with
 | true =>
  rw [h0, cond_true] at hk
  simp only [Bool.and_eq_true, beq_iff_eq] at hk
  rw [hk.2.1]; exact Nat.zero_le _
 | false =>
  rw [h0, cond_false] at hk
  cases h1 : x.2.1 == 1 with
  | true =>
   rw [h1, cond_true] at hk
   simp only [Bool.and_eq_true, beq_iff_eq] at hk
   rw [hk.2.1]; exact Nat.zero_le _
  | false =>
   rw [h1, cond_false] at hk
   cases h2 : x.2.1 == 2 with
   | true =>
    rw [h2, cond_true] at hk
    simp only [Bool.and_eq_true, decide_eq_true_eq] at hk
    omega
   | false => rw [h2] at hk; cases hk
theorem flat_next {α : Type} (f : α → List Int) (d : α) (l : List α) {i : Nat} (h : i < l.length) : (l.take (i + 1)).flatMap f = (l.take i).flatMap f ++ f (l.getD i d) := by
 rw [List.take_add_one, List.getD_eq_getElem?_getD, List.getElem?_eq_getElem h, List.flatMap_append]
 simp
theorem bd_flat {α : Type} (f : α → List Int) : ∀ l : List α, (∀ x ∈ l, Bd (f x)) → Bd (l.flatMap f)
 | [], _ => fun v hv => by cases hv
 | x :: r, h => by
  rw [List.flatMap_cons]
  exact bd_app (h x (List.mem_cons_self ..)) (bd_flat f r (fun y hy => h y (List.mem_cons_of_mem _ hy)))
def hx (x : Int) : List Int := [((UInt8.toNat (List.getD [(48 : UInt8), (49 : UInt8), (50 : UInt8), (51 : UInt8), (52 : UInt8), (53 : UInt8), (54 : UInt8), (55 : UInt8), (56 : UInt8), (57 : UInt8), (97 : UInt8), (98 : UInt8), (99 : UInt8), (100 : UInt8), (101 : UInt8), (102 : UInt8)] (Int.toNat (x / 16)) (0 : UInt8)) : Nat) : Int), ((UInt8.toNat (List.getD [(48 : UInt8), (49 : UInt8), (50 : UInt8), (51 : UInt8), (52 : UInt8), (53 : UInt8), (54 : UInt8), (55 : UInt8), (56 : UInt8), (57 : UInt8), (97 : UInt8), (98 : UInt8), (99 : UInt8), (100 : UInt8), (101 : UInt8), (102 : UInt8)] (Int.toNat (Int.tmod x 16)) (0 : UInt8)) : Nat) : Int)]
theorem hx_len (l : List Int) : (l.flatMap hx).length = 2 * l.length := by
 induction l with
 | nil => rfl
 | cons a r ih => rw [List.flatMap_cons, List.length_append, ih, List.length_cons]; show 2 + _ = _; omega
theorem hexS_eq (l : List Int) (hl : l.length ≤ 1000) (hB : Bd l) : m_spec_HexText l = some (strOf (l.flatMap hx), ()) := by
 unfold m_spec_HexText
 rw [decide_eq_false (by omega), cond_false]
 refine bind_eq (x := (((), ()), l.flatMap hx, ())) ?_ rfl
 refine loopC_inv _ (fun n t => ∃ i : Nat, t = ((l, (), (i : Int), ()), (l.take i).flatMap hx, ()) ∧ i ≤ l.length ∧ n = l.length - i) (fun _ => some (((), ()), l.flatMap hx, ())) ?_ _ l.length _ ⟨0, rfl, by omega, rfl⟩ (by omega)
 rintro n t k ⟨i, rfl, hi, rfl⟩ hk
 dsimp only
 by_cases hlt : i < l.length
 ·have hx0 : (0 : Int) ≤ (i : Int) ∧ (i : Int) < (l.length : Int) := by omega
  have hb := bd_get hB i
  have ho : ((l.take i).flatMap hx).length = 2 * i := by rw [hx_len, List.length_take]; omega
  have hn := flat_next hx (Int.ofNat (nat_lit 0)) l hlt
  rw [decide_eq_true (show (i : Int) < (l.length : Int) by omega), cond_true, if_pos hx0, if_pos (by decide), Int.toNat_natCast]
  generalize List.getD l i (Int.ofNat (nat_lit 0)) = x at hb hn ⊢
  have hm := tmod16 x hb.1
  rw [div16b x hb, if_pos (⟨by omega, by show x / 16 < ((16 : Nat) : Int); omega⟩), if_pos hx0, if_pos (by decide), if_pos (⟨by omega, by show Int.tmod x 16 < ((16 : Nat) : Int); omega⟩), if_pos (by rw [ho]; simp only [List.length_cons, List.length_nil]; omega), wr1 i (by omega)]
  exact hk (l.length - (i + 1)) _ (by omega) ⟨i + 1, by rw [hn]; rfl, by omega, rfl⟩
 ·have : i = l.length := by omega
  subst this
  rw [decide_eq_false (by omega), cond_false, List.take_length]
theorem iB_get (l : List UInt8) (i : Nat) (h : i < l.length) : (iB l).getD i (Int.ofNat (nat_lit 0)) = ((UInt8.toNat (l.getD i 0) : Nat) : Int) := by
 unfold iB
 rw [List.getD_eq_getElem?_getD, List.getElem?_map, List.getD_eq_getElem?_getD, List.getElem?_eq_getElem h]
 rfl
theorem iB_len (l : List UInt8) : (iB l).length = l.length := by unfold iB; rw [List.length_map]
theorem hexI_eq (l : List UInt8) (hl : l.length ≤ 1000) : m_impl_hexText l = some (strOf ((iB l).flatMap hx), ()) := by
 unfold m_impl_hexText
 rw [wr (2 * (l.length : Int)) (by omega), if_pos (⟨by omega, by omega, by omega, by show _ < (4611686018427387904 : Int); omega⟩)]
 refine bind_eq (x := (((), ()), (iB l).flatMap hx, ())) ?_ rfl
 have hil := iB_len l
 refine loopC_inv _ (fun n t => ∃ i : Nat, t = ((l, (), (l.length : Int), (i : Int), ()), ((iB l).take i).flatMap hx, ()) ∧ i ≤ l.length ∧ n = l.length - i) (fun _ => some (((), ()), (iB l).flatMap hx, ())) ?_ _ l.length _ ⟨0, rfl, by omega, rfl⟩ (by omega)
 rintro n t k ⟨i, rfl, hi, rfl⟩ hk
 dsimp only
 by_cases hlt : i < l.length
 ·have hx0 : (0 : Int) ≤ (i : Int) ∧ (i : Int) < (l.length : Int) := by omega
  have hb := bd_get (bd_iB l) i
  have ho : (((iB l).take i).flatMap hx).length = 2 * i := by rw [hx_len, List.length_take]; omega
  have hn := flat_next hx (Int.ofNat (nat_lit 0)) (iB l) (i := i) (by omega)
  rw [decide_eq_true (show (i : Int) < (l.length : Int) by omega), cond_true, if_pos hx0, if_pos (by decide), Int.toNat_natCast, ← iB_get l i hlt]
  generalize List.getD (iB l) i (Int.ofNat (nat_lit 0)) = x at hb hn ⊢
  have hm := tmod16 x hb.1
  rw [div16b x hb, if_pos (⟨by omega, by show x / 16 < ((16 : Nat) : Int); omega⟩), if_pos hx0, if_pos (by decide), if_pos (⟨by omega, by show Int.tmod x 16 < ((16 : Nat) : Int); omega⟩), if_pos (by rw [ho]; simp only [List.length_cons, List.length_nil]; omega), wr1 i (by omega)]
  exact hk (l.length - (i + 1)) _ (by omega) ⟨i + 1, by rw [hn]; rfl, by omega, rfl⟩
 ·have : i = l.length := by omega
  subst this
  rw [decide_eq_false (by omega), cond_false, List.take_of_length_le (by omega)]
theorem szNode_eq (x : NodeT) (n : Int) (h : NodeH x) (h0 : 0 ≤ n) (h1 : n ≤ 1048576) : ∃ m, m_laws_szNode x n = some (m, ()) ∧ (0 ≤ m → m ≤ n ∧ NodeB x) := by
 obtain ⟨g1, g2, g3⟩ := h
 unfold m_laws_szNode NodeB
 rw [wr (n - _) (by omega)]
 by_cases q1 : n - (x.1.length : Int) < 0
 ·rw [decide_eq_true q1]; exact ⟨_, rfl, fun h => by omega⟩
 ·rw [decide_eq_false q1, cond_false, wr (_ - (x.2.2.2.2.1.length : Int)) (by omega)]
  by_cases q2 : n - (x.1.length : Int) - (x.2.2.2.2.1.length : Int) < 0
  ·rw [decide_eq_true q2]; exact ⟨_, rfl, fun h => by omega⟩
  ·rw [decide_eq_false q2, cond_false, wr _ (by omega)]
   by_cases q3 : n - (x.1.length : Int) - (x.2.2.2.2.1.length : Int) - (x.2.2.2.2.2.1.length : Int) < 0
   ·rw [decide_eq_true q3]; exact ⟨_, rfl, fun h => by omega⟩
   ·rw [decide_eq_false q3]; exact ⟨_, rfl, fun _ => by omega⟩
theorem szNodeS_eq (l : List NodeT) (hl : l.length ≤ 9223372036854775807) (h : ∀ e ∈ l, NodeH e) : ∃ m, m_laws_szNodeS l 1048576 = some (m, ()) ∧ (0 ≤ m → m ≤ 1048576 - l.length ∧ ∀ e ∈ l, NodeB e) :=
 szS_eq m_laws_szNode dN NodeH NodeB szNode_eq l h hl 1048576 (by omega)
theorem toNodeS_eq (l : List NodeT) (hl : l.length ≤ 1048576) : m_laws_toNodeS l = some (l, ()) := toS_eq m_laws_toNode dN 80 (fun _ => rfl) l hl (by omega)
theorem eqNode_eq (e : NodeT) : m_laws_eqNode e e = some (true, ()) := by unfold m_laws_eqNode; simp
theorem eqNodeS_eq (l : List NodeT) (hl : l.length ≤ 1048576) : m_laws_eqNodeS l l = some (true, ()) := eqS_eq m_laws_eqNode dN eqNode_eq l (by omega)
theorem varI {x : Int} (h0 : 0 ≤ x) (h : x ≤ 1000000000) : m_impl_varText x = some (strOf (pv x.toNat), ()) := by
 have := varText_eq x.toNat (by omega)
 rwa [Int.toNat_of_nonneg h0] at this
theorem varS {x : Int} (h0 : 0 ≤ x) (h : x ≤ 1000000000) : m_spec_PutVar x = some ((), pv x.toNat, ()) := by
 have := putVar_eq x.toNat (by omega)
 rwa [Int.toNat_of_nonneg h0] at this
theorem le_dsum : ∀ {l : List NodeT} {x : NodeT}, x ∈ l → x.2.2.2.2.1.length ≤ dsum l
 | y :: r, x, h => by
  have e : dsum (y :: r) = y.2.2.2.2.1.length + dsum r := rfl
  rcases List.mem_cons.1 h with rfl | h
  ·omega
  ·have := le_dsum h
   omega
theorem dsum_app (a b : List NodeT) : dsum (a ++ b) = dsum a + dsum b := by unfold dsum; rw [List.map_append, List.sum_append]
theorem dsum_take (l : List NodeT) (i : Nat) : dsum (l.take i) ≤ dsum l := by
 have := dsum_app (l.take i) (l.drop i)
 rw [List.take_append_drop] at this
 omega
theorem rows_len {l : List NodeT} (h : RightP l) (i : Nat) (hi : i ≤ l.length) : ((l.take i).flatMap nodeRow).length ≤ dsum (l.take i) + 300 * i := by
 induction i with
 | zero => exact Nat.zero_le _
 | succ i ih =>
  have hmem : nd l i ∈ l := nd_mem (by omega)
  have hd : (nd l i).2.2.2.2.1.length ≤ 20000 := Nat.le_trans (le_dsum hmem) h.sum
  have := row_len (h.ok _ hmem) hd (ok_target (h.ok _ hmem)) (ok_path (h.ok _ hmem))
  rw [flat_next nodeRow dN l (by omega), List.length_append, take_nd l (by omega)]
  have e : dsum (l.take i ++ [nd l i]) = dsum (l.take i) + (nd l i).2.2.2.2.1.length := by unfold dsum; simp
  rw [e]
  have := ih (by omega)
  show _ + (nodeRow (nd l i)).length ≤ _
  omega
theorem sum_eq {l : List NodeT} (h : RightP l) (hS : Small l) : ∃ S, m_impl_TreeSum l = some (S, ()) ∧ m_spec_TreeSum l = some (S, ()) := by
 have hl := h.len
 have hrow : ∀ i, i ≤ l.length → ((l.take i).flatMap nodeRow).length ≤ 80000 := fun i hi => by
  have h1 := rows_len h i hi
  have h2 := dsum_take l i
  have := h.sum
  omega
 have hB : Bd (l.flatMap nodeRow) := bd_flat _ _ (fun x hx => row_bd (h.ok x hx) (Nat.le_trans (le_dsum hx) h.sum) (ok_target (h.ok x hx)) (ok_path (h.ok x hx)))
 have sm : ∀ n : Nat, n ≤ 1000000 → n < 2 ^ 63 := fun n hn => by show n < 9223372036854775808; omega
 obtain ⟨W, eS, eI, hW, hWB⟩ : ∃ W : List Int, ((l.flatMap nodeRow).length ≤ 20000 → m_spec_StrongOf (strOf (l.flatMap nodeRow)) = some (W, ())) ∧ ((l.flatMap nodeRow).length ≤ 20000 → m_impl_strong (strOf (l.flatMap nodeRow)) = some (strOf W, ())) ∧ W.length = 16 ∧ Bd W := by
  by_cases hle : (l.flatMap nodeRow).length ≤ 20000
  ·obtain ⟨W, a, b, c, d⟩ := strong_eq (strOf (l.flatMap nodeRow)) (by rw [strOf_len]; exact hle)
   exact ⟨W, fun _ => a, fun _ => b, c, d⟩
  ·exact ⟨List.replicate 16 0, fun h => absurd h hle, fun h => absurd h hle, rfl, fun v hv => by rw [(List.mem_replicate.1 hv).2]; decide⟩
 have hout : ((l.flatMap nodeRow).length : Int) ≤ 80000 := by
  have := hrow l.length (Nat.le_refl _)
  rw [List.take_length] at this
  omega
 refine ⟨bif decide (((l.flatMap nodeRow).length : Int) > 20000) then nilOf UInt8 else strOf (W.flatMap hx), ?_, ?_⟩
 ·unfold m_impl_TreeSum
  rw [impl_treeOk l hS, Option.bind_some, treeS_of h]
  simp only [Bool.not_true, cond_false]
  refine bind_eq (x := (((), ()), (), l.flatMap nodeRow, ())) ?_ ?_
  ·refine loopC_inv _ (fun n t => ∃ i : Nat, t = (((), l, (l.length : Int), (i : Int), ()), (), (l.take i).flatMap nodeRow, ()) ∧ i ≤ l.length ∧ n = l.length - i) (fun _ => some (((), ()), (), l.flatMap nodeRow, ())) ?_ _ l.length _ ⟨0, rfl, by omega, rfl⟩ (by omega)
   rintro n t k ⟨i, rfl, hi, rfl⟩ hk
   dsimp only
   by_cases hlt : i < l.length
   ·have hx0 : (0 : Int) ≤ (i : Int) ∧ (i : Int) < (l.length : Int) := by omega
    have hmem : nd l i ∈ l := nd_mem hlt
    have hok := h.ok _ hmem
    obtain ⟨n1, n2, n3, n4⟩ := node_nums hok
    have zp := ok_path hok
    have zt := ok_target hok
    have zd := Nat.le_trans (le_dsum hmem) h.sum
    have hrl := row_len hok zd zt zp
    have hrb := row_bd hok zd zt zp
    have ho := hrow i hi
    have hnx := flat_next nodeRow dN l hlt
    have q0 := pt_len (nd l i).1 (by omega)
    have q1 : (pv (nd l i).2.1.toNat).length ≤ 6 := pv_len (by omega)
    have q2 : (pv (nd l i).2.2.1.toNat).length ≤ 6 := pv_len (by omega)
    have q3 : (pv (nd l i).2.2.2.1.toNat).length ≤ 6 := pv_len (by omega)
    have q4 := pt_len (nd l i).2.2.2.2.1 (by omega)
    have q5 := pt_len (nd l i).2.2.2.2.2.1 (by omega)
    have q6 : (pv (nd l i).2.2.2.2.2.2.toNat).length ≤ 6 := pv_len (by omega)
    rw [decide_eq_true (show (i : Int) < (l.length : Int) by omega), cond_true, if_pos hx0, Int.toNat_natCast, show List.getD l i (nilOf UInt8, Int.ofNat (nat_lit 0), Int.ofNat (nat_lit 0), Int.ofNat (nat_lit 0), nilOf UInt8, nilOf UInt8, Int.ofNat (nat_lit 0)) = nd l i from rfl]
    refine bind_eq (putText_eq (nd l i).1 (by omega)) ?_
    refine bind_eq (varI n1.1 (by omega)) ?_
    dsimp only
    rw [← strOf_app, if_pos (sm _ (by simp only [strOf_len]; omega))]
    refine bind_eq (varI n2.1 (by omega)) ?_
    dsimp only
    rw [← strOf_app, if_pos (sm _ (by simp only [strOf_len, List.length_append]; omega))]
    refine bind_eq (varI n3.1 n3.2) ?_
    dsimp only
    rw [← strOf_app, if_pos (sm _ (by simp only [strOf_len, List.length_append]; omega))]
    refine bind_eq (putText_eq (nd l i).2.2.2.2.1 (by omega)) ?_
    dsimp only
    rw [← strOf_app, if_pos (sm _ (by simp only [strOf_len, List.length_append]; omega))]
    refine bind_eq (putText_eq (nd l i).2.2.2.2.2.1 (by omega)) ?_
    dsimp only
    rw [← strOf_app, if_pos (sm _ (by simp only [strOf_len, List.length_append]; omega))]
    refine bind_eq (varI n4.1 (by omega)) ?_
    dsimp only
    rw [← strOf_app, if_pos (sm _ (by simp only [strOf_len, List.length_append]; omega))]
    refine bind_eq (wStr (strOf (nodeRow (nd l i))) _ (by rw [strOf_len]; omega)) ?_
    dsimp only
    rw [wr1 i (by omega)]
    refine hk (l.length - (i + 1)) _ (by omega) ⟨i + 1, ?_, by omega, rfl⟩
    rw [hnx]
    have e := iB_strOf _ hrb
    unfold iB at e
    rw [e]
    rfl
   ·rw [decide_eq_false (by omega), cond_false, List.take_of_length_le (by omega)]
  ·dsimp only
   have hL : m_strings_Builder_Len () (l.flatMap nodeRow) = some (((l.flatMap nodeRow).length : Int), (), l.flatMap nodeRow, ()) := rfl
   rw [hL, Option.bind_some]
   dsimp only
   by_cases hgt : ((l.flatMap nodeRow).length : Int) > 20000
   ·rw [decide_eq_true hgt]; rfl
   ·rw [decide_eq_false hgt, cond_false, cond_false]
    refine bind_eq (bString _ (by omega)) ?_
    dsimp only
    refine bind_eq (eI (by omega)) ?_
    dsimp only
    refine bind_eq (hexI_eq (strOf W) (by rw [strOf_len]; omega)) ?_
    rw [iB_strOf W hWB]
 ·unfold m_spec_TreeSum
  rw [spec_treeOk l hS, Option.bind_some, treeS_of h]
  simp only [Bool.not_true, cond_false]
  refine bind_eq (x := (((), ()), l.flatMap nodeRow, ())) ?_ ?_
  ·refine loopC_inv _ (fun n t => ∃ i : Nat, t = ((l, (), (i : Int), ()), (l.take i).flatMap nodeRow, ()) ∧ i ≤ l.length ∧ n = l.length - i) (fun _ => some (((), ()), l.flatMap nodeRow, ())) ?_ _ l.length _ ⟨0, rfl, by omega, rfl⟩ (by omega)
   rintro n t k ⟨i, rfl, hi, rfl⟩ hk
   dsimp only
   by_cases hlt : i < l.length
   ·have hx0 : (0 : Int) ≤ (i : Int) ∧ (i : Int) < (l.length : Int) := by omega
    have hmem : nd l i ∈ l := nd_mem hlt
    have hok := h.ok _ hmem
    obtain ⟨n1, n2, n3, n4⟩ := node_nums hok
    have zp := ok_path hok
    have zt := ok_target hok
    have zd := Nat.le_trans (le_dsum hmem) h.sum
    have ho := hrow i hi
    have hnx := flat_next nodeRow dN l hlt
    have q0 := pt_len (nd l i).1 (by omega)
    have q1 : (pv (nd l i).2.1.toNat).length ≤ 6 := pv_len (by omega)
    have q2 : (pv (nd l i).2.2.1.toNat).length ≤ 6 := pv_len (by omega)
    have q3 : (pv (nd l i).2.2.2.1.toNat).length ≤ 6 := pv_len (by omega)
    have q4 := pt_len (nd l i).2.2.2.2.1 (by omega)
    have q5 := pt_len (nd l i).2.2.2.2.2.1 (by omega)
    have q6 : (pv (nd l i).2.2.2.2.2.2.toNat).length ≤ 6 := pv_len (by omega)
    rw [decide_eq_true (show (i : Int) < (l.length : Int) by omega), cond_true, if_pos hx0, Int.toNat_natCast, show List.getD l i (nilOf UInt8, Int.ofNat (nat_lit 0), Int.ofNat (nat_lit 0), Int.ofNat (nat_lit 0), nilOf UInt8, nilOf UInt8, Int.ofNat (nat_lit 0)) = nd l i from rfl]
    generalize (l.take i).flatMap nodeRow = o at ho hnx ⊢
    refine bind_eq (putTextS_eq (nd l i).1 (by omega)) ?_
    dsimp only
    rw [if_pos (by omega)]
    refine bind_eq (varS n1.1 (by omega)) ?_
    dsimp only
    rw [if_pos (by rw [List.length_append]; omega)]
    refine bind_eq (varS n2.1 (by omega)) ?_
    dsimp only
    rw [if_pos (by simp only [List.length_append]; omega)]
    refine bind_eq (varS n3.1 n3.2) ?_
    dsimp only
    rw [if_pos (by simp only [List.length_append]; omega)]
    refine bind_eq (putTextS_eq (nd l i).2.2.2.2.1 (by omega)) ?_
    dsimp only
    rw [if_pos (by simp only [List.length_append]; omega)]
    refine bind_eq (putTextS_eq (nd l i).2.2.2.2.2.1 (by omega)) ?_
    dsimp only
    rw [if_pos (by simp only [List.length_append]; omega)]
    refine bind_eq (varS n4.1 (by omega)) ?_
    dsimp only
    rw [if_pos (by simp only [List.length_append]; omega), wr1 i (by omega)]
    refine hk (l.length - (i + 1)) _ (by omega) ⟨i + 1, ?_, by omega, rfl⟩
    rw [hnx]
    show ((l, (), ((i + 1 : Nat) : Int), ()), _, ()) = ((l, (), ((i + 1 : Nat) : Int), ()), o ++ nodeRow (nd l i), ())
    unfold nodeRow
    simp only [List.append_assoc]
   ·rw [decide_eq_false (by omega), cond_false, List.take_of_length_le (by omega)]
  ·dsimp only
   by_cases hgt : ((l.flatMap nodeRow).length : Int) > 20000
   ·rw [decide_eq_true hgt]; rfl
   ·rw [decide_eq_false hgt, cond_false, cond_false]
    refine bind_eq (eS (by omega)) ?_
    dsimp only
    rw [cp16 W hW, if_pos (⟨by decide, by decide, by decide, by rw [hW]; decide⟩)]
    have e1 : List.drop (Int.toNat 0) (List.take (Int.toNat ((16 : Nat) : Int)) W) = W := by
     show List.take 16 W = W
     rw [List.take_of_length_le (by omega)]
    rw [e1]
    refine bind_eq (hexS_eq W (by omega) hWB) ?_
    rfl
theorem law_TreeSum (l : List NodeT) (hl : l.length ≤ 9223372036854775807) (h : ∀ e ∈ l, NodeH e) : m_laws_FnExactTreeSum l = some (true, ()) := by
 unfold m_laws_FnExactTreeSum
 obtain ⟨m, e, hm⟩ := szNodeS_eq l hl h
 rw [e, Option.bind_some]
 by_cases h0 : m < 0
 ·rw [decide_eq_true h0]; rfl
 ·rw [decide_eq_false h0, cond_false]
  obtain ⟨hm1, hb⟩ := hm (by omega)
  have hS := small_of (by omega) hm1 hb
  rw [toNodeS_eq l hS.1, Option.bind_some]
  obtain ⟨S, e1, e2⟩ : ∃ S, m_impl_TreeSum l = some (S, ()) ∧ m_spec_TreeSum l = some (S, ()) := by
   cases ht : treeS l with
   | true => exact sum_eq (right_of ht) hS
   | false =>
    refine ⟨nilOf UInt8, ?_, ?_⟩
    ·unfold m_impl_TreeSum
     rw [impl_treeOk l hS, Option.bind_some, ht]
     rfl
    ·unfold m_spec_TreeSum
     rw [spec_treeOk l hS, Option.bind_some, ht]
     rfl
  rw [e2, Option.bind_some, Option.bind_some, e1, Option.bind_some]
  dsimp only
  rw [beq_self_eq_true, Bool.not_true, cond_false, Option.bind_some, eqNodeS_eq l hS.1, Option.bind_some]
  rfl
end Go.AM
