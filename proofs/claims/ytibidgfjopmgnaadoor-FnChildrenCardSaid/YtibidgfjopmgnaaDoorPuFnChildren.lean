/- The plain law: the model of the law answers true. -/
import Derived.Test.YtibidgfjopmgnaaDoorMoFnChildren
set_option linter.unusedVariables false
set_option linter.unusedSimpArgs false
namespace Go.AM
open Go
theorem loopC_inv {S α : Type} (F : S → (S → Option α) → Option α) (I : Nat → S → Prop) (g : S → Option α)
    (h : ∀ n s k, I n s → (∀ m s', m < n → I m s' → k s' = g s') → F s k = g s) : ∀ fuel n s, I n s → n < fuel → loopC fuel F s = g s := by
 intro fuel
 induction fuel with
 | zero => intro n s _ h0; omega
 | succ f ih => intro n s hI hn; exact h n s _ hI (fun m s' hm hI' => ih m s' hI' (by omega))
theorem wr (x : Int) (h : -9223372036854775808 ≤ x ∧ x ≤ 9223372036854775807) : IntKind.wrap .i64 x = x := by
 simp [IntKind.wrap, IntKind.signed, IntKind.bits]; omega
/-- A loop ends in some result with Q. -/
theorem loopC_some' {S α : Type} (F : S → (S → Option α) → Option α) (I : Nat → S → Prop) (Q : α → Prop)
    (h : ∀ n s k, I n s → (∀ m s', m < n → I m s' → ∃ r, k s' = some r ∧ Q r) → ∃ r, F s k = some r ∧ Q r) : ∀ fuel n s, I n s → n < fuel → ∃ r, loopC fuel F s = some r ∧ Q r := by
 intro fuel
 induction fuel with
 | zero => intro n s _ h0; omega
 | succ f ih => intro n s hI hn; exact h n s _ hI (fun m s' hm hI' => ih m s' hI' (by omega))
theorem bind_some' {α β : Type} {o : Option α} {f : α → Option β} {Q : α → Prop} {R : β → Prop} (h : ∃ r, o = some r ∧ Q r) (h2 : ∀ r, Q r → ∃ t, f r = some t ∧ R t) : ∃ t, Option.bind o f = some t ∧ R t := by
 obtain ⟨r, rfl, hq⟩ := h
 exact h2 r hq
theorem bind_eq {α β : Type} {o : Option α} {f : α → Option β} {x : α} {r : Option β} (h : o = some x) (h2 : f x = r) : Option.bind o f = r := by rw [h]; exact h2
theorem bind_ex {α β : Type} {o : Option α} {f : α → Option β} {Q : α → Prop} {r : Option β} (h : ∃ x, o = some x ∧ Q x) (h2 : ∀ x, Q x → f x = r) : Option.bind o f = r := by obtain ⟨x, rfl, hq⟩ := h; exact h2 x hq
theorem joinC_of {S α : Type} {o x : Option (S ⊕ α)} {k : S → Option α} {r : Option α} (h : o = x) (h2 : joinC x k = r) : joinC o k = r := by rw [h]; exact h2
theorem wr1 (i : Nat) (h : i ≤ 4611686018427387904) : IntKind.wrap .i64 ((i : Int) + 1) = ((i + 1 : Nat) : Int) := by rw [wr _ (by omega)]; rfl
theorem joinC_inl' {S α : Type} {o : Option (S ⊕ α)} {k : S → Option α} {s : S} (h : o = some (.inl s)) : joinC o k = k s := by rw [h]; rfl
def okCh (c : Int) : Bool := (decide (c ≥ 97) && decide (c ≤ 122)) || ((decide (c ≥ 65) && decide (c ≤ 90)) || ((decide (c ≥ 48) && decide (c ≤ 57)) || (c == 46 || (c == 95 || c == 45))))
def okB (b : UInt8) : Bool := okCh (b.toNat : Int)
def nameOk (s : List UInt8) : Bool := (decide (1 ≤ s.length) && decide (s.length ≤ 20)) && (!(s == [46]) && (!(s == [46, 46]) && s.all okB))
theorem in_eq (x a b : Int) : m_spec_l01In x a b = some (decide (x ≥ a) && decide (x ≤ b), ()) := by
 unfold m_spec_l01In; cases decide (x ≥ a) <;> rfl
theorem within_eq (x a b : Int) : m_impl_within x a b = some (decide (x ≥ a) && decide (x ≤ b), ()) := by
 unfold m_impl_within; cases decide (x ≥ a) <;> rfl
theorem all_drop {α : Type} (p : α → Bool) (d : α) {s : List α} {i : Nat} (h : i < s.length) : (s.drop i).all p = (p (s.getD i d) && (s.drop (i + 1)).all p) := by
 rw [List.drop_eq_getElem_cons h, List.all_cons, List.getD_eq_getElem?_getD, List.getElem?_eq_getElem h]; rfl
theorem len_ge (s : List UInt8) : decide ((s.length : Int) ≥ 1) = decide (1 ≤ s.length) := decide_eq_decide.2 (by omega)
theorem len_le (s : List UInt8) : decide ((s.length : Int) ≤ 20) = decide (s.length ≤ 20) := decide_eq_decide.2 (by omega)
theorem spec_nameOk (s : List UInt8) (hs : s.length ≤ 1099511627776) : m_spec_NameOk s = some (nameOk s, ()) := by
 unfold m_spec_NameOk
 rw [in_eq, Option.bind_some, len_ge, len_le]
 unfold nameOk
 cases h1 : (decide (1 ≤ s.length) && decide (s.length ≤ 20)) with
 | false => rfl
 | true =>
  simp only [Bool.not_true, cond_false, Bool.true_and]
  cases h2 : (s == [46]) with
  | true => rfl
  | false =>
   simp only [cond_false, Bool.not_false, Bool.true_and]
   cases h3 : (s == [46, 46]) with
   | true => rfl
   | false =>
    simp only [Option.bind_some, cond_false, Bool.not_false, Bool.true_and]
    refine joinC_of (loopC_inv _ (fun n t => ∃ i : Nat, t = ((s, (i : Int), ()), ()) ∧ i ≤ s.length ∧ n = s.length - i)
     (fun t => some (if (s.drop t.1.2.1.toNat).all okB then .inl ((), ()) else .inr (false, ()))) ?_ _ s.length _ ⟨0, rfl, by omega, rfl⟩ (by omega)) ?_
    rotate_left
    ·show joinC (some (if (s.drop 0).all okB = true then _ else _)) _ = _
     rw [List.drop_zero]
     cases s.all okB <;> rfl
    ·rintro n t k ⟨i, rfl, hi, rfl⟩ hk
     dsimp only
     by_cases hl : i < s.length
     ·have hx : 0 ≤ (i : Int) ∧ (i : Int) < (s.length : Int) := by omega
      rw [decide_eq_true (by omega), cond_true, if_pos hx]
      refine bind_eq (x := ((s, (i : Int), !okB (s.getD i 0), ()), ())) ?_ ?_
      ·simp only [in_eq, Option.bind_some, if_pos hx, bne, okB, okCh, Int.toNat_natCast]
       have hb : (s.getD i 0).toNat < 256 := UInt8.toNat_lt _
       rw [wr _ (by omega)]
       generalize ((s.getD i 0).toNat : Int) = c
       cases decide (c ≥ 97) <;> cases decide (c ≤ 122) <;> cases decide (c ≥ 65) <;> cases decide (c ≤ 90) <;> cases decide (c ≥ 48) <;> cases decide (c ≤ 57) <;> cases c == 46 <;> cases c == 95 <;> cases c == 45 <;> rfl
      ·dsimp only
       rw [Int.toNat_natCast, all_drop okB 0 hl]
       cases okB (s.getD i 0) with
       | false => rfl
       | true =>
        show k _ = _
        rw [wr1 i (by omega)]
        exact hk (s.length - (i + 1)) _ (by omega) ⟨i + 1, rfl, by omega, rfl⟩
     ·rw [decide_eq_false (by omega), cond_false, Int.toNat_natCast, List.drop_eq_nil_of_le (by omega)]
      rfl
theorem impl_nameOk (s : List UInt8) (hs : s.length ≤ 1099511627776) : m_impl_NameOk s = some (nameOk s, ()) := by
 unfold m_impl_NameOk
 refine joinC_of (loopC_inv _ (fun n t => ∃ i : Nat, t = ((s, (s.length : Int), (i : Int), ()), ()) ∧ i ≤ s.length ∧ n = s.length - i)
         (fun t => some (if (s.drop t.1.2.2.1.toNat).all okB then .inl ((s, ()), ()) else .inr (false, ()))) ?_ _ s.length _ ⟨0, rfl, by omega, rfl⟩ (by omega)) ?_
 rotate_left
 ·show joinC (some (if (s.drop 0).all okB = true then _ else _)) _ = _
  rw [List.drop_zero]
  unfold nameOk
  cases s.all okB with
  | false => simp only [Bool.and_false]; rfl
  | true =>
   show Option.bind (Option.bind (m_impl_within _ _ _) _) _ = _
   rw [within_eq, Option.bind_some, len_ge, len_le]
   dsimp only
   cases (decide (1 ≤ s.length) && decide (s.length ≤ 20)) <;> cases s == [46] <;> cases s == [46, 46] <;> rfl
 ·rintro n t k ⟨i, rfl, hi, rfl⟩ hk
  dsimp only
  by_cases hl : i < s.length
  ·have hx : 0 ≤ (i : Int) ∧ (i : Int) < (s.length : Int) := by omega
   rw [decide_eq_true (by omega), cond_true, if_pos hx]
   refine bind_eq (x := ((s, (s.length : Int), (i : Int), !okB (s.getD i 0), ()), ())) ?_ ?_
   ·simp only [okB, okCh, Int.toNat_natCast]
    cases decide ((((s.getD i 0).toNat : Nat) : Int) ≥ 97) <;> cases decide ((((s.getD i 0).toNat : Nat) : Int) ≤ 122) <;> cases decide ((((s.getD i 0).toNat : Nat) : Int) ≥ 65) <;> cases decide ((((s.getD i 0).toNat : Nat) : Int) ≤ 90) <;> cases decide ((((s.getD i 0).toNat : Nat) : Int) ≥ 48) <;> cases decide ((((s.getD i 0).toNat : Nat) : Int) ≤ 57) <;> cases (((s.getD i 0).toNat : Nat) : Int) == 46 <;> cases (((s.getD i 0).toNat : Nat) : Int) == 95 <;> cases (((s.getD i 0).toNat : Nat) : Int) == 45 <;> rfl
   ·dsimp only
    rw [Int.toNat_natCast, all_drop okB 0 hl]
    cases okB (s.getD i 0) with
    | false => rfl
    | true =>
     show k _ = _
     rw [wr1 i (by omega)]
     exact hk (s.length - (i + 1)) _ (by omega) ⟨i + 1, rfl, by omega, rfl⟩
  ·rw [decide_eq_false (by omega), cond_false, Int.toNat_natCast, List.drop_eq_nil_of_le (by omega)]
   rfl
/-- What stands between the slashes. -/
def split : List UInt8 → List (List UInt8)
 | [] => [[]]
 | c :: r => if c = 47 then [] :: split r else match split r with
  | [] => [[c]]
  | h :: t => (c :: h) :: t
def prep (x : List UInt8) : List (List UInt8) → List (List UInt8)
 | [] => [x]
 | h :: t => (x ++ h) :: t
theorem split_ne (s : List UInt8) : split s ≠ [] := by
 cases s with
 | nil => simp [split]
 | cons c r => unfold split; split; simp; split <;> simp
theorem split_slash {c : UInt8} {r : List UInt8} (h : c = 47) : split (c :: r) = [] :: split r := by rw [split, if_pos h]
theorem split_other {c : UInt8} {r : List UInt8} (h : c ≠ 47) : split (c :: r) = prep [c] (split r) := by
 rw [split, if_neg h]; unfold prep; rcases split r with _ | ⟨h, t⟩ <;> rfl
theorem prep_prep (x y : List UInt8) (l : List (List UInt8)) (h : l ≠ []) : prep x (prep y l) = prep (x ++ y) l := by
 cases l with
 | nil => exact absurd rfl h
 | cons a t => simp [prep]
theorem split_len : ∀ s : List UInt8, (split s).length ≤ s.length + 1
 | [] => by simp [split]
 | c :: r => by
  have := split_len r
  by_cases h : c = 47
  ·rw [split_slash h]; simp; omega
  ·rw [split_other h]; unfold prep; split <;> simp_all; omega
theorem getD_cons {s : List UInt8} {i : Nat} (h : i < s.length) : s.drop i = s.getD i 0 :: s.drop (i + 1) := by
 rw [List.drop_eq_getElem_cons h, List.getD_eq_getElem?_getD, List.getElem?_eq_getElem h]; rfl
theorem take_snoc {s : List UInt8} {i f : Nat} (h : i < s.length) (hf : f ≤ i) : (s.take (i + 1)).drop f = (s.take i).drop f ++ [s.getD i 0] := by
 rw [List.take_add_one, List.drop_append_of_le_length (by simp; omega), List.getD_eq_getElem?_getD, List.getElem?_eq_getElem h]; rfl
theorem spec_names (s : List UInt8) (hs : s.length ≤ 8796093022206) : m_spec_l02Names s = some (split s, ()) := by
 unfold m_spec_l02Names
 refine bind_ex (loopC_some' _ (fun n t => ∃ (f i : Nat) (o : List (List UInt8)), t = ((s, (), (f : Int), (i : Int), ()), o, ()) ∧ f ≤ i ∧ i ≤ s.length ∧ o.length ≤ i ∧ o ++ prep ((s.take i).drop f) (split (s.drop i)) = split s ∧ n = s.length - i)
  (fun r => ∃ (f : Nat) (o : List (List UInt8)), r = ((s, (), (f : Int), ()), o, ()) ∧ f ≤ s.length ∧ o.length ≤ s.length ∧ o ++ [s.drop f] = split s) ?_ _ s.length _ ⟨0, 0, [], rfl, by omega, by omega, by simp, ?_, rfl⟩ (by omega)) ?_
 rotate_left 2
 ·rintro r ⟨f, o, rfl, h1, h2, h3⟩
  dsimp only
  rw [if_pos (by omega), if_pos (by simp only [List.length_cons, List.length_nil]; omega)]
  rw [Int.toNat_natCast, Int.toNat_natCast, List.take_length, h3]
 ·rintro n t k ⟨f, i, o, rfl, hf, hi, ho, he, rfl⟩ hk
  dsimp only
  by_cases hl : i < s.length
  ·have hx : 0 ≤ (i : Int) ∧ (i : Int) < (s.length : Int) := by omega
   rw [decide_eq_true (by omega), cond_true, if_pos hx]
   simp only [Int.toNat_natCast]
   have hd := getD_cons hl
   rw [hd] at he
   by_cases hc : s.getD i 0 = 47
   ·rw [show (((s.getD i 0).toNat : Int) == 47) = true by rw [hc]; rfl, cond_true, if_pos (by omega), if_pos (by simp only [List.length_cons, List.length_nil]; omega), Option.bind_some]
    dsimp only
    rw [wr1 i (by omega)]
    refine hk (s.length - (i + 1)) _ (by omega) ⟨i + 1, i + 1, _, rfl, by omega, by omega, by simp; omega, ?_, rfl⟩
    rw [split_slash hc] at he
    rw [← he, List.append_assoc, show (s.take (i + 1)).drop (i + 1) = [] from List.drop_eq_nil_of_le (by rw [List.length_take]; omega)]
    unfold prep
    rcases hsp : split (s.drop (i + 1)) with _ | ⟨a, b⟩
    ·exact absurd hsp (split_ne _)
    ·simp
   ·rw [show (((s.getD i 0).toNat : Int) == 47) = false by
     rw [beq_eq_false_iff_ne]; intro h; exact hc (UInt8.toNat.inj (by show _ = 47; omega)), cond_false, Option.bind_some]
    dsimp only
    rw [wr1 i (by omega)]
    refine hk (s.length - (i + 1)) _ (by omega) ⟨f, i + 1, _, rfl, by omega, by omega, by omega, ?_, rfl⟩
    rw [split_other hc, prep_prep _ _ _ (split_ne _)] at he
    rw [take_snoc hl hf]
    exact he
  ·rw [decide_eq_false (by omega), cond_false]
   refine ⟨_, rfl, f, o, rfl, by omega, by omega, ?_⟩
   rw [← he, List.drop_eq_nil_of_le (by omega : s.length ≤ i), List.take_of_length_le (by omega)]
   simp [split, prep]
 ·simp only [List.drop_zero, List.nil_append, List.take_zero, List.drop_nil]
  rcases hsp : split s with _ | ⟨a, b⟩
  ·exact absurd hsp (split_ne _)
  ·rfl
theorem index_slash (s : List UInt8) : (Go.Lib.indexByte s 47 = -1 ∧ split s = [s]) ∨ ∃ k : Nat, k < s.length ∧ Go.Lib.indexByte s 47 = k ∧ split s = s.take k :: split (s.drop (k + 1)) ∧ s.count 47 = (s.drop (k + 1)).count 47 + 1 := by
 induction s with
 | nil => exact .inl ⟨rfl, rfl⟩
 | cons c r ih =>
  by_cases hc : c = 47
  ·refine .inr ⟨0, by simp, ?_, ?_, ?_⟩
   ·rw [hc]; rfl
   ·rw [split_slash hc]; rfl
   ·rw [hc]; simp
  ·have hb : (c == 47) = false := by simp [hc]
   rcases ih with ⟨h1, h2⟩ | ⟨k, hk, h1, h2, h3⟩
   ·refine .inl ⟨?_, ?_⟩
    ·unfold Go.Lib.indexByte; rw [hb, h1]; rfl
    ·rw [split_other hc, h2]; rfl
   ·refine .inr ⟨k + 1, by simp; omega, ?_, ?_, ?_⟩
    ·unfold Go.Lib.indexByte; rw [hb, h1]
     have : ((k : Int) == -1) = false := by rw [beq_eq_false_iff_ne]; omega
     simp [this]
    ·rw [split_other hc, h2]; rfl
    ·rw [List.count_cons, hb, h3]; simp
theorem index_eq (s : List UInt8) : m_strings_Index s = some (Go.Lib.indexByte s 47, ()) := by
 unfold m_strings_Index m_stringslite_Index
 by_cases h : s = [47]
 ·subst h; rfl
 ·rw [show (([47] : List UInt8) == s) = false by rw [beq_eq_false_iff_ne]; exact fun h' => h h'.symm]
  rfl
theorem genSplit_eq (s : List UInt8) (hs : s.length ≤ 8796093022206) : m_strings_genSplit s = some (split s, ()) := by
 unfold m_strings_genSplit
 refine bind_eq (x := (((s.count 47 : Nat) : Int), ())) rfl ?_
 have hcl : s.count 47 ≤ s.length := List.count_le_length
 dsimp only
 rw [wr ((s.length : Int) + 1) (by omega), wr (((s.count 47 : Nat) : Int) + 1) (by omega), if_neg (show ¬((s.length : Int) + 1 < ((s.count 47 : Nat) : Int) + 1) by omega), if_pos (by omega), wr (((s.count 47 : Nat) : Int) + 1 - 1) (by omega)]
 have hn : (((s.count 47 : Nat) : Int) + 1).toNat = s.count 47 + 1 := by omega
 rw [hn]
 refine bind_ex (loopC_some' _ (fun n t => ∃ (r : List UInt8) (i : Nat) (a : List (List UInt8)), t = ((r, (), (), ((s.count 47 : Nat) : Int) + 1 - 1, (), (i : Int), ()), a, ()) ∧ i + r.count 47 = s.count 47 ∧ r.length ≤ s.length ∧ a.length = s.count 47 + 1 ∧ a.take i ++ split r = split s ∧ n = r.length)
  (fun t => ∃ (r : List UInt8) (i : Nat) (a : List (List UInt8)), t = ((r, (), (i : Int), ()), a, ()) ∧ i ≤ s.count 47 ∧ a.length = s.count 47 + 1 ∧ a.take i ++ [r] = split s) ?_ _ s.length _ ⟨s, 0, _, rfl, by omega, by omega, by simp, rfl, rfl⟩ (by omega)) ?_
 ·rintro n t k ⟨r, i, a, rfl, h1, h2, h3, h4, rfl⟩ hk
  dsimp only
  by_cases hl : i < s.count 47
  ·rw [decide_eq_true (by omega), cond_true, index_eq, Option.bind_some]
   dsimp only
   rcases index_slash r with ⟨g1, g2⟩ | ⟨m, hm, g1, g2, g3⟩
   ·rw [g1, decide_eq_true (by omega), cond_true]
    exact ⟨_, rfl, r, i, a, rfl, by omega, h3, by rw [g2] at h4; exact h4⟩
   ·rw [g1, decide_eq_false (by omega), cond_false, wr ((m : Int) + 0) (by omega)]
    simp only [List.length_cons, List.length_nil]
    rw [show ((0 + 1 : Nat) : Int) = 1 from rfl, wr1 m (by omega), if_pos (by omega), if_pos (by omega), if_pos (by omega), if_pos (by omega), wr1 i (by omega)]
    refine hk (r.drop (m + 1)).length _ (by rw [List.length_drop]; omega) ⟨r.drop (m + 1), i + 1, a.set i (r.take m), ?_, by omega, by rw [List.length_drop]; omega, ?_, ?_, rfl⟩
    ·simp only [Int.toNat_natCast, List.take_length, Int.add_zero]; rfl
    ·rw [List.length_set]; exact h3
    ·rw [List.take_add_one, List.take_set_of_le (by omega), ← h4, g2]
     rw [List.getElem?_set_self (by omega)]
     simp
  ·rw [decide_eq_false (by omega), cond_false]
   refine ⟨_, rfl, r, i, a, rfl, by omega, h3, ?_⟩
   rcases index_slash r with ⟨g1, g2⟩ | ⟨m, hm, g1, g2, g3⟩
   ·rw [g2] at h4; exact h4
   ·omega
 ·rintro t ⟨r, i, a, rfl, h1, h2, h3⟩
  dsimp only
  rw [if_pos (by omega), if_pos (by omega), wr1 i (by omega), if_pos (by rw [List.length_set]; omega)]
  rw [Int.toNat_natCast, Int.toNat_natCast, List.take_add_one, List.take_set_of_le (by omega), List.getElem?_set_self (by omega)]
  show some (a.take i ++ [r], ()) = _
  rw [h3]
theorem split_eq (s : List UInt8) (hs : s.length ≤ 8796093022206) : m_strings_Split s = some (split s, ()) := by
 unfold m_strings_Split; rw [genSplit_eq s hs]; rfl
def names (s : List UInt8) : List (List UInt8) := if s.length ≤ 168 ∧ (split s).length ≤ 8 ∧ (split s).all nameOk = true then split s else []
def pathOk (s : List UInt8) : Bool := decide (s.length ≤ 168) && (decide ((split s).length ≤ 8) && (split s).all nameOk)
theorem names_ok (s : List UInt8) : names s = if pathOk s then split s else [] := by
 unfold names pathOk
 by_cases h1 : s.length ≤ 168 <;> by_cases h2 : (split s).length ≤ 8 <;> by_cases h3 : (split s).all nameOk = true <;> simp [h1, h2, h3]
theorem split_mem_len (s : List UInt8) : ∀ x ∈ split s, x.length ≤ s.length := by
 induction s with
 | nil => intro x hx; simp [split] at hx; subst hx; simp
 | cons c r ih =>
  intro x hx
  by_cases hc : c = 47
  ·rw [split_slash hc] at hx
   rcases List.mem_cons.1 hx with rfl | hx
   ·simp
   ·have := ih x hx; simp; omega
  ·rw [split_other hc] at hx
   unfold prep at hx
   rcases hsp : split r with _ | ⟨a, b⟩
   ·exact absurd hsp (split_ne _)
   ·rw [hsp] at hx ih
    rcases List.mem_cons.1 hx with rfl | hx
    ·have := ih a (by simp); simp; omega
    ·have := ih x (by simp [hx]); simp; omega
/-- Names of at most twenty bytes, at most eight: the text is of at most 167. -/
theorem split_sum (s : List UInt8) : s.length + 1 = ((split s).map (fun x => x.length + 1)).sum := by
 induction s with
 | nil => rfl
 | cons c r ih =>
  by_cases hc : c = 47
  ·rw [split_slash hc]; simp at ih ⊢; omega
  ·rw [split_other hc]; unfold prep
   rcases hsp : split r with _ | ⟨a, b⟩
   ·exact absurd hsp (split_ne _)
   ·rw [hsp] at ih; simp at ih ⊢; omega
theorem sum_le {l : List (List UInt8)} (h : l.all nameOk = true) : (l.map (fun x => x.length + 1)).sum ≤ 21 * l.length := by
 induction l with
 | nil => simp
 | cons a t ih =>
  rw [List.all_cons, Bool.and_eq_true] at h
  have := ih h.2
  have h1 := h.1
  unfold nameOk at h1
  simp only [Bool.and_eq_true, decide_eq_true_eq] at h1
  simp; omega
theorem path_len {s : List UInt8} (h1 : (split s).length ≤ 8) (h2 : (split s).all nameOk = true) : s.length ≤ 167 := by
 have := split_sum s; have := sum_le h2; omega
theorem spec_pathOk (s : List UInt8) : m_spec_PathOk s = some (pathOk s, ()) := by
 unfold m_spec_PathOk
 by_cases hs : s.length ≤ 200
 ·rw [decide_eq_false (by omega), cond_false, spec_names s (by omega), Option.bind_some]
  have hl := split_len s
  refine joinC_of (loopC_inv _ (fun n t => ∃ i : Nat, t = ((split s, (i : Int), ()), ()) ∧ i ≤ (split s).length ∧ n = (split s).length - i)
        (fun t => some (if ((split s).drop t.1.2.1.toNat).all nameOk then .inl ((split s, ()), ()) else .inr (false, ()))) ?_ _ (split s).length _ ⟨0, rfl, by omega, rfl⟩ (by show _ < (split s).length + _ + _; omega)) ?_
  ·rintro n t k ⟨i, rfl, hi, rfl⟩ hk
   dsimp only
   by_cases hl2 : i < (split s).length
   ·rw [decide_eq_true (by omega), cond_true, if_pos (by omega), Int.toNat_natCast, all_drop nameOk (nilOf UInt8) hl2]
    have hm : ((split s).getD i (nilOf UInt8)).length ≤ s.length := by
     rw [List.getD_eq_getElem?_getD, List.getElem?_eq_getElem hl2]; exact split_mem_len s _ (List.getElem_mem hl2)
    rw [spec_nameOk _ (by omega), Option.bind_some]
    dsimp only
    cases nameOk ((split s).getD i (nilOf UInt8)) with
    | false => rfl
    | true =>
     show k _ = _
     rw [wr1 i (by omega)]
     exact hk ((split s).length - (i + 1)) _ (by omega) ⟨i + 1, rfl, by omega, rfl⟩
   ·rw [decide_eq_false (by omega), cond_false, Int.toNat_natCast, List.drop_eq_nil_of_le (by omega)]
    rfl
  ·show joinC (some (if ((split s).drop 0).all nameOk = true then _ else _)) _ = _
   rw [List.drop_zero]
   unfold pathOk
   cases h2 : (split s).all nameOk with
   | false => simp; rfl
   | true =>
    show some (decide (((split s).length : Int) ≤ 8), ()) = _
    by_cases h1 : (split s).length ≤ 8
    ·have := path_len h1 h2
     rw [decide_eq_true (by omega), decide_eq_true (by omega), decide_eq_true h1]; rfl
    ·rw [decide_eq_false (by omega), decide_eq_false h1]; simp
 ·rw [decide_eq_true (by omega), cond_true]
  unfold pathOk
  rw [decide_eq_false (by omega), Bool.false_and]
theorem impl_names (s : List UInt8) : m_impl_Names s = some (names s, ()) := by
 unfold m_impl_Names
 by_cases hs : s.length ≤ 168
 ·rw [decide_eq_false (by omega), cond_false, split_eq s (by omega), Option.bind_some]
  have hl := split_len s
  dsimp only
  by_cases h1 : (split s).length ≤ 8
  ·rw [decide_eq_false (by omega), cond_false]
   refine joinC_of (loopC_inv _ (fun n t => ∃ i : Nat, t = ((split s, split s, ((split s).length : Int), (i : Int), ()), ()) ∧ i ≤ (split s).length ∧ n = (split s).length - i)
       (fun t => some (if ((split s).drop t.1.2.2.2.1.toNat).all nameOk then .inl ((split s, ()), ()) else .inr ([], ()))) ?_ _ (split s).length _ ⟨0, rfl, by omega, rfl⟩ (by omega)) ?_
   ·rintro n t k ⟨i, rfl, hi, rfl⟩ hk
    dsimp only
    by_cases hl2 : i < (split s).length
    ·rw [decide_eq_true (by omega), cond_true, if_pos (by omega), Int.toNat_natCast, all_drop nameOk (nilOf UInt8) hl2]
     have hm : ((split s).getD i (nilOf UInt8)).length ≤ s.length := by
      rw [List.getD_eq_getElem?_getD, List.getElem?_eq_getElem hl2]; exact split_mem_len s _ (List.getElem_mem hl2)
     rw [impl_nameOk _ (by omega), Option.bind_some]
     dsimp only
     cases nameOk ((split s).getD i (nilOf UInt8)) with
     | false => rfl
     | true =>
      show k _ = _
      rw [wr1 i (by omega)]
      exact hk ((split s).length - (i + 1)) _ (by omega) ⟨i + 1, rfl, by omega, rfl⟩
    ·rw [decide_eq_false (by omega), cond_false, Int.toNat_natCast, List.drop_eq_nil_of_le (by omega)]
     rfl
   ·show joinC (some (if ((split s).drop 0).all nameOk = true then _ else _)) _ = _
    rw [List.drop_zero]
    unfold names
    cases h2 : (split s).all nameOk with
    | false => simp; rfl
    | true => rw [if_pos (show s.length ≤ 168 ∧ (split s).length ≤ 8 ∧ true = true from And.intro hs (And.intro h1 rfl))]; rfl
  ·rw [decide_eq_true (by omega), cond_true]
   unfold names
   rw [if_neg (fun h => h1 h.2.1)]
 ·rw [decide_eq_true (by omega), cond_true]
  unfold names
  rw [if_neg (fun h => hs h.1)]
theorem impl_pathOk (s : List UInt8) : m_impl_PathOk s = some (pathOk s, ()) := by
 unfold m_impl_PathOk
 rw [impl_names, Option.bind_some, names_ok]
 cases pathOk s with
 | false => rfl
 | true =>
  show some (decide (((split s).length : Int) > 0), ()) = _
  rw [decide_eq_true (by have := List.length_pos_iff.2 (split_ne s); omega)]
section
variable {α : Type}
theorem getD_mem {l : List α} {i : Nat} (d : α) (h : i < l.length) : l.getD i d ∈ l := by
 rw [List.getD_eq_getElem?_getD, List.getElem?_eq_getElem h]; exact List.getElem_mem h
theorem drop_getD {l : List α} {i : Nat} (d : α) (h : i < l.length) : l.drop i = l.getD i d :: l.drop (i + 1) := by
 rw [List.drop_eq_getElem_cons h, List.getD_eq_getElem?_getD, List.getElem?_eq_getElem h]; rfl
/-- A walk along a row that stops at the first that is not right. -/
theorem allLoop {S R : Type} (F : S → (S → Option R) → Option R) (st : Nat → S) (len : Nat) (ok : Nat → Bool) (yes no : R)
    (hstep : ∀ i k, i < len → F (st i) k = cond (ok i) (k (st (i + 1))) (some no)) (hend : ∀ k, F (st len) k = some yes) (fuel : Nat) (hf : len < fuel) :
    loopC fuel F (st 0) = some (cond ((List.range len).all ok) yes no) := by
 have key := loopC_inv F (fun n s => ∃ i, i ≤ len ∧ s = st i ∧ n = len - i ∧ ∀ j, j < i → ok j = true) (fun _ => some (cond ((List.range len).all ok) yes no)) (by
  rintro n s k ⟨i, hi, rfl, rfl, hj⟩ hk
  by_cases hlt : i < len
  ·rw [hstep i k hlt]
   cases ho : ok i with
   | false =>
    have : (List.range len).all ok = false := by
     rw [List.all_eq_false]; exact ⟨i, List.mem_range.2 hlt, by simp [ho]⟩
    rw [this]; rfl
   | true =>
    rw [cond_true]
    refine hk (len - (i + 1)) _ (by omega) ⟨i + 1, by omega, rfl, rfl, fun j hj' => ?_⟩
    by_cases h : j = i
    ·subst h; exact ho
    ·exact hj j (by omega)
  ·have : i = len := by omega
   subst this
   rw [hend]
   have : (List.range i).all ok = true := by rw [List.all_eq_true]; exact fun j hj' => hj j (List.mem_range.1 hj')
   rw [this]; rfl)
 exact key fuel len _ ⟨0, by omega, rfl, by omega, fun j hj => by omega⟩ hf
end
abbrev NodeT := List UInt8 × (Int × (Int × (Int × (List UInt8 × (List UInt8 × Int)))))
def inI (x a b : Int) : Bool := decide (x ≥ a) && decide (x ≤ b)
def nodeKind (k m : Int) (data target : List UInt8) (g : Int) : Bool :=
 cond (k == 0) (data == [] && (target == [] && g == 0)) (cond (k == 1) (decide ((data.length : Int) ≤ 20000) && (target == [] && inI g 0 200))
  (cond (k == 2) ((data == [] && (m == 0 && (g == 0 && inI (target.length : Int) 1 60))) && !(target.any (· == 10))) false))
def nodeOk (x : NodeT) : Bool := (pathOk x.1 && (inI x.2.2.1 0 511 && inI x.2.2.2.1 0 1000000000)) && nodeKind x.2.1 x.2.2.1 x.2.2.2.2.1 x.2.2.2.2.2.1 x.2.2.2.2.2.2
theorem any_index (c : UInt8) (s : List UInt8) : decide (Go.Lib.indexByte s c ≥ 0) = s.any (· == c) := by
 induction s with
 | nil => rfl
 | cons a r ih =>
  unfold Go.Lib.indexByte
  rw [List.any_cons]
  cases h : a == c with
  | true => rfl
  | false =>
   rw [Bool.false_or, ← ih, if_neg (by simp)]
   have := Go.Lib.indexByte_ge r c
   split
   ·rename_i h1; rw [beq_iff_eq] at h1; rw [h1]
   ·rename_i h1
    have : ¬(Go.Lib.indexByte r c = -1) := fun h => h1 (by rw [h]; rfl)
    exact decide_eq_decide.2 (by omega)
theorem contains_nl (s : List UInt8) : m_strings_Contains s = some (s.any (· == 10), ()) := by
 unfold m_strings_Contains m_strings_Index_2 m_stringslite_Index_2
 by_cases h : s = [10]
 ·subst h; rfl
 ·rw [show (([10] : List UInt8) == s) = false by rw [beq_eq_false_iff_ne]; exact fun h' => h h'.symm]
  show some (decide (Go.Lib.indexByte s 10 ≥ 0), ()) = _
  rw [any_index]
theorem any_drop {s : List UInt8} {i : Nat} (h : i < s.length) : (s.drop i).any (· == 10) = ((s.getD i 0 == 10) || (s.drop (i + 1)).any (· == 10)) := by
 rw [getD_cons h, List.any_cons]
theorem byte_beq (b : UInt8) (c : Nat) (hc : c < 256) : ((b.toNat : Int) == (c : Int)) = (b == c.toUInt8) := by
 have hb := UInt8.toNat_lt b
 by_cases h : b = c.toUInt8
 ·subst h
  rw [show (c.toUInt8 == c.toUInt8) = true by simp]
  rw [beq_iff_eq]
  show ((c % 256 : Nat) : Int) = _
  omega
 ·rw [show (b == c.toUInt8) = false by rw [beq_eq_false_iff_ne]; exact h, beq_eq_false_iff_ne]
  intro h'; apply h; apply UInt8.toNat.inj; show _ = c % 256; omega
theorem spec_nodeOk (x : NodeT) (h : x.2.2.2.2.2.1.length ≤ 1099511627776) : m_spec_NodeOk x = some (nodeOk x, ()) := by
 obtain ⟨p, kd, md, tm, data, target, g⟩ := x
 dsimp only at h
 unfold m_spec_NodeOk nodeOk
 refine bind_eq (x := (((), !(pathOk p && (inI md 0 511 && inI tm 0 1000000000)), ()), (p, kd, md, tm, data, target, g, ()), ())) ?_ ?_
 ·rw [spec_pathOk, Option.bind_some]
  simp only [in_eq, Option.bind_some]
  unfold inI
  cases pathOk p <;> cases (decide (md ≥ 0) && decide (md ≤ 511)) <;> rfl
 ·dsimp only
  cases (pathOk p && (inI md 0 511 && inI tm 0 1000000000)) with
  | false => rfl
  | true =>
   simp only [Bool.not_true, cond_false, Bool.true_and, nilOf]
   unfold nodeKind
   cases kd == 0 with
   | true => cases data == [] <;> cases target == [] <;> rfl
   | false =>
    simp only [cond_false]
    cases kd == 1 with
    | true =>
     simp only [cond_true, in_eq, Option.bind_some]
     cases decide ((data.length : Int) ≤ 20000) <;> cases target == [] <;> rfl
    | false =>
     simp only [cond_false]
     cases kd == 2 with
     | false => rfl
     | true =>
      simp only [cond_true, in_eq, Option.bind_some, bne]
      refine bind_eq (x := (((), !(data == [] && (md == 0 && (g == 0 && inI (target.length : Int) 1 60))), ()), (p, kd, md, tm, data, target, g, ()), ())) ?_ ?_
      ·unfold inI
       cases data == [] <;> cases md == 0 <;> cases g == 0 <;> rfl
      ·dsimp only
       cases (data == [] && (md == 0 && (g == 0 && inI (target.length : Int) 1 60))) with
       | false => rfl
       | true =>
        simp only [Bool.not_true, cond_false, Bool.true_and]
        refine joinC_of (loopC_inv _ (fun n t => ∃ i : Nat, t = (((), (i : Int), ()), (p, kd, md, tm, data, target, g, ()), ()) ∧ i ≤ target.length ∧ n = target.length - i)
         (fun t => some (if (target.drop t.1.2.1.toNat).any (· == 10) then .inr (false, ()) else .inl ((), ()))) ?_ _ target.length _ ⟨0, rfl, by omega, rfl⟩ (by omega)) ?_
        ·rintro n t k ⟨i, rfl, hi, rfl⟩ hk
         dsimp only
         by_cases hl : i < target.length
         ·rw [decide_eq_true (by omega), cond_true, if_pos (by omega), Int.toNat_natCast, any_drop hl]
          rw [show (((target.getD i 0).toNat : Int) == 10) = (target.getD i 0 == 10) from byte_beq _ 10 (by decide)]
          cases target.getD i 0 == 10 with
          | true => rfl
          | false =>
           rw [cond_false, Bool.false_or, wr1 i (by omega)]
           exact hk (target.length - (i + 1)) _ (by omega) ⟨i + 1, rfl, by omega, rfl⟩
         ·rw [decide_eq_false (by omega), cond_false, Int.toNat_natCast, List.drop_eq_nil_of_le (by omega)]
          rfl
        ·show joinC (some (if (target.drop 0).any (· == 10) = true then _ else _)) _ = _
         rw [List.drop_zero]
         cases target.any (· == 10) <;> rfl
theorem impl_nodeOk (x : NodeT) : m_impl_NodeOk x = some (nodeOk x, ()) := by
 obtain ⟨p, kd, md, tm, data, target, g⟩ := x
 unfold m_impl_NodeOk nodeOk
 refine bind_eq (x := (((), !(pathOk p && (inI md 0 511 && inI tm 0 1000000000)), ()), (p, kd, md, tm, data, target, g, ()), ())) ?_ ?_
 ·rw [impl_pathOk, Option.bind_some]
  simp only [within_eq, Option.bind_some]
  unfold inI
  cases pathOk p <;> cases (decide (md ≥ 0) && decide (md ≤ 511)) <;> rfl
 ·dsimp only
  cases (pathOk p && (inI md 0 511 && inI tm 0 1000000000)) with
  | false => rfl
  | true =>
   simp only [Bool.not_true, cond_false, Bool.true_and, nilOf]
   unfold nodeKind
   cases kd == 0 with
   | true => cases data == [] <;> cases target == [] <;> rfl
   | false =>
    simp only [cond_false]
    cases kd == 1 with
    | true =>
     simp only [cond_true, within_eq, Option.bind_some]
     cases decide ((data.length : Int) ≤ 20000) <;> cases target == [] <;> rfl
    | false =>
     simp only [cond_false]
     cases kd == 2 with
     | false => rfl
     | true =>
      simp only [cond_true, within_eq, Option.bind_some, contains_nl]
      unfold inI
      cases data == [] <;> cases md == 0 <;> cases g == 0 <;> cases (decide ((target.length : Int) ≥ 1) && decide ((target.length : Int) ≤ 60)) <;> rfl
theorem less_irrefl : ∀ a : List UInt8, Op.bytesLess a a = false
 | [] => rfl
 | x :: r => by simp [Op.bytesLess, less_irrefl r]
theorem less_trans : ∀ {a b c : List UInt8}, Op.bytesLess a b = true → Op.bytesLess b c = true → Op.bytesLess a c = true
 | _, [], _, h, _ => by cases ‹List UInt8› <;> simp [Op.bytesLess] at h
 | _, _ :: _, [], _, h => by simp [Op.bytesLess] at h
 | [], y :: b, z :: c, _, _ => rfl
 | x :: a, y :: b, z :: c, h1, h2 => by
  simp only [Op.bytesLess, Bool.or_eq_true, Bool.and_eq_true, decide_eq_true_eq, beq_iff_eq] at h1 h2 ⊢
  rcases h1 with h1 | ⟨rfl, h1⟩ <;> rcases h2 with h2 | ⟨rfl, h2⟩
  ·left; exact UInt8.lt_trans h1 h2
  ·left; exact h1
  ·left; exact h2
  ·right; exact ⟨rfl, less_trans h1 h2⟩
theorem cmp_spec : ∀ (a b : List UInt8), (Go.Lib.compareBytes a b = -1 ∧ Op.bytesLess a b = true) ∨ (Go.Lib.compareBytes a b = 0 ∧ a = b) ∨ (Go.Lib.compareBytes a b = 1 ∧ Op.bytesLess b a = true)
 | [], [] => .inr (.inl ⟨rfl, rfl⟩)
 | [], _ :: _ => .inl ⟨rfl, rfl⟩
 | _ :: _, [] => .inr (.inr ⟨rfl, rfl⟩)
 | x :: a, y :: b => by
  by_cases h1 : x < y
  ·exact .inl ⟨by simp [Go.Lib.compareBytes, h1], by simp [Op.bytesLess, h1]⟩
  ·by_cases h2 : y < x
   ·exact .inr (.inr ⟨by simp [Go.Lib.compareBytes, h1, h2], by simp [Op.bytesLess, h2]⟩)
   ·have hxy : x = y := UInt8.le_antisymm (UInt8.not_lt.1 h2) (UInt8.not_lt.1 h1)
    subst hxy
    rcases cmp_spec a b with ⟨g1, g2⟩ | ⟨g1, g2⟩ | ⟨g1, g2⟩
    ·exact .inl ⟨by simp [Go.Lib.compareBytes, g1], by simp [Op.bytesLess, g2]⟩
    ·exact .inr (.inl ⟨by simp [Go.Lib.compareBytes, g1], by rw [g2]⟩)
    ·exact .inr (.inr ⟨by simp [Go.Lib.compareBytes, g1], by simp [Op.bytesLess, g2]⟩)
theorem less_asymm {a b : List UInt8} (h : Op.bytesLess a b = true) : Op.bytesLess b a = false := by
 cases hb : Op.bytesLess b a with
 | false => rfl
 | true => have := less_trans h hb; rw [less_irrefl] at this; cases this
theorem less_ne {a b : List UInt8} (h : Op.bytesLess a b = true) : a ≠ b := by rintro rfl; rw [less_irrefl] at h; cases h
theorem less_total (a b : List UInt8) : Op.bytesLess a b = true ∨ a = b ∨ Op.bytesLess b a = true := by
 rcases cmp_spec a b with ⟨_, h⟩ | ⟨_, h⟩ | ⟨_, h⟩
 ·exact .inl h
 ·exact .inr (.inl h)
 ·exact .inr (.inr h)
theorem less_prefix : ∀ (a : List UInt8) (c : UInt8) (r : List UInt8), Op.bytesLess a (a ++ c :: r) = true
 | [], _, _ => rfl
 | x :: a, c, r => by simp [Op.bytesLess, less_prefix a c r]
def joinS : List (List UInt8) → List UInt8
 | [] => []
 | [a] => a
 | a :: b :: r => a ++ 47 :: joinS (b :: r)
theorem join_eq : ∀ l : List (List UInt8), Go.Lib.join l [47] = joinS l
 | [] => rfl
 | [a] => by simp [Go.Lib.join, List.intercalate, joinS]
 | a :: b :: r => by
  have := join_eq (b :: r)
  simp only [Go.Lib.join, List.intercalate] at this ⊢
  rw [show List.intersperse [47] (a :: b :: r) = a :: [47] :: List.intersperse [47] (b :: r) from rfl]
  simp only [List.flatten_cons, this, joinS]
  rfl
theorem join_snoc : ∀ (l : List (List UInt8)) (x : List UInt8), l ≠ [] → joinS (l ++ [x]) = joinS l ++ 47 :: x
 | [], x, h => absurd rfl h
 | [a], x, _ => rfl
 | a :: b :: l, x, _ => by
  have := join_snoc (b :: l) x (by simp)
  simp only [List.cons_append] at this ⊢
  simp only [joinS, this, List.append_assoc, List.cons_append]
theorem join_prep (c : UInt8) (l : List (List UInt8)) (h : l ≠ []) : joinS (prep [c] l) = c :: joinS l := by
 rcases l with _ | ⟨a, _ | ⟨b, r⟩⟩
 ·exact absurd rfl h
 ·simp [prep, joinS]
 ·simp [prep, joinS]
theorem join_split : ∀ s : List UInt8, joinS (split s) = s
 | [] => rfl
 | c :: r => by
  by_cases hc : c = 47
  ·rw [split_slash hc, hc]
   rcases hsp : split r with _ | ⟨a, b⟩
   ·exact absurd hsp (split_ne _)
   ·have := join_split r
    rw [hsp] at this
    show [] ++ 47 :: joinS (a :: b) = _
    rw [this]; rfl
  ·rw [split_other hc, join_prep _ _ (split_ne _), join_split r]
theorem join_len (l : List (List UInt8)) : (joinS l).length ≤ (l.map (fun x => x.length + 1)).sum := by
 induction l with
 | nil => exact Nat.zero_le _
 | cons a r ih =>
  rcases r with _ | ⟨b, r⟩
  ·simp [joinS]
  ·simp only [joinS, List.length_append, List.map_cons, List.sum_cons, List.length_cons] at ih ⊢
   omega
def parent (s : List UInt8) : List UInt8 := joinS (names s).dropLast
theorem names_len (s : List UInt8) : (names s).length ≤ 8 := by
 unfold names
 split
 ·rename_i h; exact h.2.1
 ·exact Nat.zero_le _
theorem names_sum (s : List UInt8) : ((names s).map (fun x => x.length + 1)).sum ≤ 169 := by
 unfold names
 split
 ·rename_i h; rw [← split_sum]; omega
 ·exact Nat.zero_le _
theorem take_sum_le (l : List (List UInt8)) (i : Nat) : ((l.take i).map (fun x => x.length + 1)).sum ≤ (l.map (fun x => x.length + 1)).sum := by
 conv => rhs; rw [← List.take_append_drop i l]
 rw [List.map_append, List.sum_append]; omega
theorem joinTake_len (s : List UInt8) (i : Nat) : (joinS ((names s).take i)).length ≤ 169 :=
 Nat.le_trans (join_len _) (Nat.le_trans (take_sum_le _ _) (names_sum s))
theorem spec_names' (s : List UInt8) : m_spec_Names s = some (names s, ()) := by
 unfold m_spec_Names
 rw [spec_pathOk, Option.bind_some, names_ok]
 cases hp : pathOk s with
 | false => rfl
 | true =>
  have hl : s.length ≤ 168 := by unfold pathOk at hp; rw [Bool.and_eq_true, decide_eq_true_eq] at hp; exact hp.1
  simp only [Bool.not_true, cond_false, if_true]
  rw [spec_names s (by omega)]; rfl
theorem spec_parent (s : List UInt8) : m_spec_ParentOf s = some (parent s, ()) := by
 unfold m_spec_ParentOf parent
 rw [spec_names', Option.bind_some]
 dsimp only
 have hl := names_len s
 have key := loopC_inv (fun (t : (List (List UInt8) × List UInt8 × Int × Unit) × Unit) (k : (List (List UInt8) × List UInt8 × Int × Unit) × Unit → Option ((List UInt8 × Unit) × Unit)) =>
     bif decide (IntKind.wrap .i64 (t.fst.snd.snd.fst + 1) < (↑(List.length t.fst.fst) : Int)) then
      Option.bind
       (bif decide (t.fst.snd.snd.fst > 0) then
        if List.length t.fst.snd.fst + List.length ([47] : List UInt8) < 2 ^ 63 then some ((t.fst.fst, t.fst.snd.fst ++ [47], t.fst.snd.snd), ()) else none
       else some t)
       fun t =>
       if 0 ≤ t.fst.snd.snd.fst ∧ t.fst.snd.snd.fst < (↑(List.length t.fst.fst) : Int) then
        if List.length t.fst.snd.fst + List.length (List.getD t.fst.fst (Int.toNat t.fst.snd.snd.fst) (nilOf UInt8)) < 2 ^ 63 then
         k ((t.fst.fst, t.fst.snd.fst ++ List.getD t.fst.fst (Int.toNat t.fst.snd.snd.fst) (nilOf UInt8), IntKind.wrap .i64 (t.fst.snd.snd.fst + 1), ()), ())
        else none
       else none
     else some ((t.fst.snd.fst, ()), ()))
  (fun n t => ∃ i : Nat, t = ((names s, joinS ((names s).take i), (i : Int), ()), ()) ∧ (i ≤ (names s).length - 1 ∨ i = 0) ∧ n = (names s).length - i)
  (fun _ => some ((joinS (names s).dropLast, ()), ())) (by
  rintro n t k ⟨i, rfl, hi, rfl⟩ hk
  dsimp only
  rw [wr1 i (by omega)]
  by_cases hlt : i + 1 < (names s).length
  ·rw [decide_eq_true (by omega), cond_true]
   have hj := joinTake_len s i
   have hj1 := joinTake_len s (i + 1)
   have hget : (names s).getD i (nilOf UInt8) ∈ names s := getD_mem _ (by omega)
   have htake : (names s).take (i + 1) = (names s).take i ++ [(names s).getD i (nilOf UInt8)] := by
    rw [List.take_add_one, List.getElem?_eq_getElem (show i < (names s).length by omega), List.getD_eq_getElem?_getD, List.getElem?_eq_getElem (show i < (names s).length by omega)]
    rfl
   have step : (if (i : Int) > 0 then joinS ((names s).take i) ++ [47] else joinS ((names s).take i)) ++ (names s).getD i (nilOf UInt8) = joinS ((names s).take (i + 1)) := by
    rw [htake]
    by_cases h0 : i = 0
    ·subst h0; simp [joinS]
    ·rw [if_pos (by omega), join_snoc _ _ (by
      intro h
      have := congrArg List.length h
      rw [List.length_take] at this; have this : min i (names s).length = 0 := this; omega)]
     simp
   refine bind_eq (x := ((names s, (if (i : Int) > 0 then joinS ((names s).take i) ++ [47] else joinS ((names s).take i)), (i : Int), ()), ())) ?_ ?_
   ·by_cases h0 : (i : Int) > 0
    ·rw [decide_eq_true h0, cond_true, if_pos h0, if_pos (by simp only [List.length_cons, List.length_nil]; show _ < 9223372036854775808; omega)]
    ·rw [decide_eq_false h0, if_neg h0]; rfl
   ·dsimp only
    rw [if_pos (by omega), Int.toNat_natCast]
    rw [if_pos (by rw [← List.length_append, step]; show _ < 9223372036854775808; omega), step]
    exact hk ((names s).length - (i + 1)) _ (by omega) ⟨i + 1, by rw [wr1 i (by omega)], .inl (by omega), rfl⟩
  ·rw [decide_eq_false (by omega), cond_false]
   have : (names s).take i = (names s).dropLast := by
    rw [List.dropLast_eq_take]
    congr 1; omega
   rw [this])
  ((names s).length + 0 + 0 + 300) ((names s).length - 0) ((names s, [], 0, ()), ()) ⟨0, rfl, by omega, rfl⟩ (by omega)
 exact bind_eq key rfl
theorem impl_parent (s : List UInt8) : m_impl_ParentOf s = some (parent s, ()) := by
 unfold m_impl_ParentOf parent
 rw [impl_names, Option.bind_some]
 dsimp only
 have hl := names_len s
 cases hn : names s with
 | nil => rfl
 | cons a r =>
  rw [← hn]
  have hpos : 0 < (names s).length := by rw [hn]; simp
  have h0 : (((names s).length : Int) == 0) = false := by rw [beq_eq_false_iff_ne]; omega
  rw [h0, cond_false, wr _ (by omega), if_pos (by omega)]
  have hd : List.drop (Int.toNat 0) (List.take (Int.toNat (((names s).length : Int) - 1)) (names s)) = (names s).dropLast := by
   rw [List.dropLast_eq_take, show Int.toNat (((names s).length : Int) - 1) = (names s).length - 1 by omega]; rfl
  rw [hd]
  have hj : (joinS (names s).dropLast).length ≤ 169 := by rw [List.dropLast_eq_take]; exact joinTake_len s _
  have : m_strings_Join (names s).dropLast [47] = some (joinS (names s).dropLast, ()) := by
   unfold m_strings_Join joinM
   rw [join_eq, if_pos ⟨by rw [List.length_dropLast]; omega, by omega⟩]
  rw [this]; rfl
theorem parent_less {s : List UInt8} (h : pathOk s = true) : Op.bytesLess (parent s) s = true := by
 have hn : names s = split s := by rw [names_ok, if_pos h]
 unfold parent
 rw [hn]
 have hs := join_split s
 have hne := split_ne s
 have hd : split s = (split s).dropLast ++ [(split s).getLast hne] := (List.dropLast_concat_getLast hne).symm
 have hlast : nameOk ((split s).getLast hne) = true := by
  unfold pathOk at h
  simp only [Bool.and_eq_true] at h
  exact List.all_eq_true.1 h.2.2 _ (List.getLast_mem hne)
 have hl1 : 1 ≤ ((split s).getLast hne).length := by
  unfold nameOk at hlast
  simp only [Bool.and_eq_true, decide_eq_true_eq] at hlast
  exact hlast.1.1
 by_cases h0 : (split s).dropLast = []
 ·rw [h0]
  rw [h0] at hd
  rw [hd] at hs
  have : s ≠ [] := by
   rintro rfl
   have e : (split []).getLast hne = [] := hs
   rw [e] at hl1; simp at hl1
  cases s with
  | nil => exact absurd rfl this
  | cons c r => rfl
 ·rw [hd, join_snoc _ _ h0] at hs
  have := less_prefix (joinS (split s).dropLast) 47 ((split s).getLast hne)
  rw [hs] at this
  exact this
def dN : NodeT := (nilOf UInt8, Int.ofNat (nat_lit 0), Int.ofNat (nat_lit 0), Int.ofNat (nat_lit 0), nilOf UInt8, nilOf UInt8, Int.ofNat (nat_lit 0))
def pth (l : List NodeT) (i : Nat) : List UInt8 := (l.getD i dN).1
def Sorted (l : List NodeT) : Prop := ∀ i, i + 1 < l.length → Op.bytesLess (pth l i) (pth l (i + 1)) = true
theorem Sorted.lt {l : List NodeT} (h : Sorted l) : ∀ {j i : Nat}, i < j → j < l.length → Op.bytesLess (pth l i) (pth l j) = true
 | 0, i, hij, _ => by omega
 | j + 1, i, hij, hj => by
  by_cases e : i = j
  ·subst e; exact h i hj
  ·exact less_trans (h.lt (show i < j by omega) (by omega)) (h j hj)
theorem Sorted.take {l : List NodeT} (h : Sorted l) (n : Nat) : Sorted (l.take n) := by
 intro i hi
 rw [List.length_take] at hi
 have e : ∀ k, k < n → pth (l.take n) k = pth l k := by
  intro k hk
  unfold pth
  rw [List.getD_eq_getElem?_getD, List.getD_eq_getElem?_getD, List.getElem?_take, if_pos hk]
 rw [e i (by omega), e (i + 1) (by omega)]
 exact h i (by omega)
def found (l : List NodeT) (p : List UInt8) (i : Nat) : Bool := decide (i < l.length) && pth l i == p
theorem wrU (x : Int) (h : 0 ≤ x ∧ x ≤ 9223372036854775807) : IntKind.wrap .u64 x = x := by
 simp [IntKind.wrap, IntKind.signed, IntKind.bits]; omega
theorem mid (i j : Nat) (hi : i ≤ 1099511627776) (hj : j ≤ 1099511627776) :
    IntKind.wrap .i64 (Int.fdiv (IntKind.wrap .u64 (IntKind.wrap .i64 ((i : Int) + (j : Int)))) (2 ^ min (Int.toNat 1) (IntKind.bits .u64))) = (((i + j) / 2 : Nat) : Int) := by
 rw [wr ((i : Int) + (j : Int)) (by omega), wrU ((i : Int) + (j : Int)) (by omega)]
 have : (2 : Int) ^ min (Int.toNat 1) (IntKind.bits .u64) = 2 := rfl
 rw [this, Int.fdiv_eq_ediv_of_nonneg _ (by omega), wr _ (by omega)]
 omega
theorem place1 (n : NodeT) (p : List UInt8) : m_impl_place_1 n p = some (Go.Lib.compareBytes n.1 p, ()) := rfl
/-- The place of a path. -/
def Place (l : List NodeT) (p : List UInt8) (i : Nat) : Prop := i ≤ l.length ∧ (∀ k, k < i → Op.bytesLess (pth l k) p = true) ∧ ∀ k, i ≤ k → k < l.length → Op.bytesLess (pth l k) p = false
theorem search (l : List NodeT) (hs : Sorted l) (hl : l.length ≤ 1099511627776) (p : List UInt8) : ∃ i, Place l p i ∧ m_slices_BinarySearchFunc_impl_Node_impl_Node_string l p = some (((i : Int), found l p i, ()), ()) := by
 unfold m_slices_BinarySearchFunc_impl_Node_impl_Node_string
 have key := loopC_some' (fun (s : (List NodeT × List UInt8 × Unit × Int × Int × Int × Unit) × Unit) (k : (List NodeT × List UInt8 × Unit × Int × Int × Int × Unit) × Unit → Option ((List NodeT × List UInt8 × Unit × Int × Int × Unit) × Unit)) =>
     bif decide (s.1.2.2.2.2.1 < s.1.2.2.2.2.2.1) then if (0 : Int) ≤ 1 then if 0 ≤ IntKind.wrap .i64 (Int.fdiv (IntKind.wrap IntKind.u64 (IntKind.wrap .i64 (s.1.2.2.2.2.1 + s.1.2.2.2.2.2.1))) (2 ^ min (Int.toNat 1) (IntKind.bits IntKind.u64))) ∧ IntKind.wrap .i64 (Int.fdiv (IntKind.wrap IntKind.u64 (IntKind.wrap .i64 (s.1.2.2.2.2.1 + s.1.2.2.2.2.2.1))) (2 ^ min (Int.toNat 1) (IntKind.bits IntKind.u64))) < (↑(List.length s.1.1) : Int) then
      Option.bind (m_impl_place_1 (List.getD s.1.1 (Int.toNat (IntKind.wrap .i64 (Int.fdiv (IntKind.wrap IntKind.u64 (IntKind.wrap .i64 (s.1.2.2.2.2.1 + s.1.2.2.2.2.2.1))) (2 ^ min (Int.toNat 1) (IntKind.bits IntKind.u64))))) dN) s.1.2.1) fun r =>
      Option.bind (bif decide (r.1 < 0) then
       some ((s.1.1, s.1.2.1, (), s.1.2.2.2.1, IntKind.wrap .i64 (IntKind.wrap .i64 (Int.fdiv (IntKind.wrap IntKind.u64 (IntKind.wrap .i64 (s.1.2.2.2.2.1 + s.1.2.2.2.2.2.1))) (2 ^ min (Int.toNat 1) (IntKind.bits IntKind.u64))) + 1), s.1.2.2.2.2.2), ()) else
       some ((s.1.1, s.1.2.1, (), s.1.2.2.2.1, s.1.2.2.2.2.1, IntKind.wrap .i64 (Int.fdiv (IntKind.wrap IntKind.u64 (IntKind.wrap .i64 (s.1.2.2.2.2.1 + s.1.2.2.2.2.2.1))) (2 ^ min (Int.toNat 1) (IntKind.bits IntKind.u64))), ()), ())) fun s => k ((s.1.1, s.1.2.1, (), s.1.2.2.2), ()) else none else none else
     some ((s.1.1, s.1.2.1, (), s.1.2.2.2.1, s.1.2.2.2.2.1, ()), ()))
  (fun c t => ∃ i j : Nat, t = ((l, p, (), (l.length : Int), (i : Int), (j : Int), ()), ()) ∧ i ≤ j ∧ j ≤ l.length ∧ (∀ k, k < i → Op.bytesLess (pth l k) p = true) ∧ (∀ k, j ≤ k → k < l.length → Op.bytesLess (pth l k) p = false) ∧ c = j - i)
  (fun r => ∃ i : Nat, r = ((l, p, (), (l.length : Int), (i : Int), ()), ()) ∧ Place l p i)
  (by
   rintro c t k ⟨i, j, rfl, hij, hj, h1, h2, rfl⟩ hk
   dsimp only
   by_cases hlt : i < j
   ·rw [decide_eq_true (by omega), cond_true, if_pos (by omega), mid i j (by omega) (by omega), if_pos (by omega), Int.toNat_natCast, place1, Option.bind_some]
    dsimp only
    have hh : (i + j) / 2 < j := by omega
    have hh2 : i ≤ (i + j) / 2 := by omega
    rcases cmp_spec (l.getD ((i + j) / 2) dN).1 p with ⟨g1, g2⟩ | ⟨g1, g2⟩ | ⟨g1, g2⟩
    ·rw [g1, decide_eq_true (by omega), cond_true, Option.bind_some]
     dsimp only
     rw [wr1 _ (by omega)]
     refine hk (j - ((i + j) / 2 + 1)) _ (by omega) ⟨(i + j) / 2 + 1, j, rfl, by omega, hj, fun k hk' => ?_, h2, rfl⟩
     by_cases e : k = (i + j) / 2
     ·subst e; exact g2
     ·exact less_trans (hs.lt (show k < (i + j) / 2 by omega) (by omega)) g2
    ·rw [g1, decide_eq_false (by omega), cond_false, Option.bind_some]
     refine hk ((i + j) / 2 - i) _ (by omega) ⟨i, (i + j) / 2, rfl, by omega, by omega, h1, fun k hk1 hk2 => ?_, rfl⟩
     have g2' : pth l ((i + j) / 2) = p := g2
     by_cases e : k = (i + j) / 2
     ·subst e; rw [g2']; exact less_irrefl p
     ·rw [← g2']; exact less_asymm (hs.lt (show (i + j) / 2 < k by omega) hk2)
    ·rw [g1, decide_eq_false (by omega), cond_false, Option.bind_some]
     refine hk ((i + j) / 2 - i) _ (by omega) ⟨i, (i + j) / 2, rfl, by omega, by omega, h1, fun k hk1 hk2 => ?_, rfl⟩
     by_cases e : k = (i + j) / 2
     ·subst e; exact less_asymm g2
     ·exact less_asymm (less_trans g2 (hs.lt (show (i + j) / 2 < k by omega) hk2))
   ·rw [decide_eq_false (by omega), cond_false]
    have : i = j := by omega
    subst this
    exact ⟨_, rfl, i, rfl, hj, h1, h2⟩)
  (l.length + p.length + Int.toNat (l.length : Int) + Int.toNat 0 + Int.toNat (l.length : Int) + 300) (l.length - 0) ((l, p, (), (l.length : Int), (0 : Int), (l.length : Int), ()), ()) ⟨0, l.length, rfl, by omega, Nat.le_refl _, fun k hk => by omega, fun k h1 h2 => by omega, rfl⟩ (by omega)
 obtain ⟨r, hr, i, rfl, hp⟩ := key
 refine ⟨i, hp, bind_eq hr ?_⟩
 dsimp only
 unfold found
 by_cases hi : i < l.length
 ·rw [decide_eq_true (by omega), cond_true, if_pos (by omega), Int.toNat_natCast]
  have e : m_impl_place_1 (l.getD i dN) p = some (Go.Lib.compareBytes (pth l i) p, ()) := rfl
  refine bind_eq (bind_eq e rfl) ?_
  dsimp only
  rw [decide_eq_true hi, Bool.true_and]
  congr 4
  rcases cmp_spec (pth l i) p with ⟨g1, g2⟩ | ⟨g1, g2⟩ | ⟨g1, g2⟩
  ·rw [g1, beq_eq_false_iff_ne.2 (less_ne g2)]; rfl
  ·rw [g1, g2]; simp
  ·rw [g1, beq_eq_false_iff_ne.2 (less_ne g2).symm]; rfl
 ·rw [decide_eq_false (by omega), cond_false, decide_eq_false hi]; rfl
theorem impl_place_eq (l : List NodeT) (hs : Sorted l) (hl : l.length ≤ 1099511627776) (p : List UInt8) : ∃ i, Place l p i ∧ m_impl_place l p = some (((i : Int), found l p i, ()), ()) := by
 obtain ⟨i, h1, h2⟩ := search l hs hl p
 exact ⟨i, h1, by unfold m_impl_place; rw [h2]; rfl⟩
/-- What stands at a path in a tree. -/
theorem found_of {l : List NodeT} (hs : Sorted l) {p : List UInt8} {i : Nat} (hp : Place l p i) {k : Nat} (hk : k < l.length) (he : pth l k = p) : k = i ∧ found l p i = true := by
 obtain ⟨h0, h1, h2⟩ := hp
 have hki : k = i := by
  rcases Nat.lt_trichotomy k i with h | h | h
  ·have := h1 k h; rw [he, less_irrefl] at this; cases this
  ·exact h
  ·have hi : i < l.length := by omega
   have := h2 i (Nat.le_refl _) hi
   rw [← he, hs.lt h hk] at this; cases this
 subst hki
 refine ⟨rfl, ?_⟩
 unfold found
 rw [decide_eq_true hk, he]; simp
def isDir (l : List NodeT) (p : List UInt8) : Bool := p == [] || l.any (fun n => n.1 == p && n.2.1 == 0)
theorem any_idx {l : List NodeT} {f : NodeT → Bool} : l.any f = true ↔ ∃ k, k < l.length ∧ f (l.getD k dN) = true := by
 rw [List.any_eq_true]
 constructor
 ·rintro ⟨x, hx, h⟩
  obtain ⟨k, hk, rfl⟩ := List.getElem_of_mem hx
  exact ⟨k, hk, by rw [List.getD_eq_getElem?_getD, List.getElem?_eq_getElem hk]; exact h⟩
 ·rintro ⟨k, hk, h⟩
  exact ⟨_, getD_mem dN hk, h⟩
theorem impl_isDirIn (l : List NodeT) (hs : Sorted l) (hl : l.length ≤ 1099511627776) (p : List UInt8) : m_impl_isDirIn l p = some (isDir l p, ()) := by
 unfold m_impl_isDirIn isDir
 obtain ⟨i, hp, he⟩ := impl_place_eq l hs hl p
 rw [he, Option.bind_some]
 dsimp only
 simp only [nilOf]
 cases hpe : p == [] with
 | true => rfl
 | false =>
  simp only [cond_false, Bool.false_or]
  cases hf : found l p i with
  | false =>
   have : l.any (fun n => n.1 == p && n.2.1 == 0) = false := by
    rw [Bool.eq_false_iff]
    intro h
    obtain ⟨k, hk, h⟩ := any_idx.1 h
    rw [Bool.and_eq_true, beq_iff_eq] at h
    have := (found_of hs hp hk h.1).2
    rw [hf] at this; cases this
   rw [this]; rfl
  | true =>
   have hf' := hf
   unfold found at hf'
   rw [Bool.and_eq_true, decide_eq_true_eq, beq_iff_eq] at hf'
   simp only [cond_true]
   rw [if_pos (by omega), Int.toNat_natCast, Option.bind_some]
   have : l.any (fun n => n.1 == p && n.2.1 == 0) = ((l.getD i dN).2.1 == 0) := by
    rw [Bool.eq_iff_iff, any_idx]
    constructor
    ·rintro ⟨k, hk, h⟩
     rw [Bool.and_eq_true, beq_iff_eq] at h
     have := (found_of hs hp hk h.1).1
     subst this; exact h.2
    ·intro h
     exact ⟨i, hf'.1, by rw [Bool.and_eq_true, beq_iff_eq]; exact ⟨hf'.2, h⟩⟩
   rw [this]; rfl
/-- The first place of a path in any nodes. -/
def atO (l : List NodeT) (p : List UInt8) : Option Nat := (List.range l.length).find? (fun i => pth l i == p)
def atV (l : List NodeT) (p : List UInt8) : Int := match atO l p with | some i => (i : Int) | none => -1
theorem atO_spec (l : List NodeT) (p : List UInt8) : (∃ i, atO l p = some i ∧ i < l.length ∧ pth l i = p) ∨ (atO l p = none ∧ ∀ i, i < l.length → pth l i ≠ p) := by
 unfold atO
 cases h : (List.range l.length).find? (fun i => pth l i == p) with
 | some i =>
  left
  have h1 := List.find?_some h
  have h2 := List.mem_of_find?_eq_some h
  exact ⟨i, rfl, List.mem_range.1 h2, by simpa using h1⟩
 | none =>
  right
  rw [List.find?_eq_none] at h
  exact ⟨rfl, fun i hi e => h i (List.mem_range.2 hi) (by simp [e])⟩
theorem allLoopP {S R : Type} (F : S → (S → Option R) → Option R) (st : Nat → S) (len : Nat) (ok : Nat → Bool) (yes no : R)
    (hstep : ∀ i k, i < len → (∀ j, j < i → ok j = true) → F (st i) k = cond (ok i) (k (st (i + 1))) (some no)) (hend : ∀ k, (∀ j, j < len → ok j = true) → F (st len) k = some yes) (fuel : Nat) (hf : len < fuel) :
    loopC fuel F (st 0) = some (cond ((List.range len).all ok) yes no) := by
 have key := loopC_inv F (fun n s => ∃ i, i ≤ len ∧ s = st i ∧ n = len - i ∧ ∀ j, j < i → ok j = true) (fun _ => some (cond ((List.range len).all ok) yes no)) (by
  rintro n s k ⟨i, hi, rfl, rfl, hj⟩ hk
  by_cases hlt : i < len
  ·rw [hstep i k hlt hj]
   cases ho : ok i with
   | false =>
    have : (List.range len).all ok = false := by
     rw [List.all_eq_false]; exact ⟨i, List.mem_range.2 hlt, by simp [ho]⟩
    rw [this]; rfl
   | true =>
    rw [cond_true]
    refine hk (len - (i + 1)) _ (by omega) ⟨i + 1, by omega, rfl, rfl, fun j hj' => ?_⟩
    by_cases h : j = i
    ·subst h; exact ho
    ·exact hj j (by omega)
  ·have : i = len := by omega
   subst this
   rw [hend k hj]
   have : (List.range i).all ok = true := by rw [List.all_eq_true]; exact fun j hj' => hj j (List.mem_range.1 hj')
   rw [this]; rfl)
 exact key fuel len _ ⟨0, by omega, rfl, by omega, fun j hj => by omega⟩ hf
theorem all_iff {n : Nat} {f : Nat → Bool} : (List.range n).all f = true ↔ ∀ i, i < n → f i = true := by
 rw [List.all_eq_true]
 exact ⟨fun h i hi => h i (List.mem_range.2 hi), fun h i hi => h i (List.mem_range.1 hi)⟩
def nd (l : List NodeT) (i : Nat) : NodeT := l.getD i dN
def grp (l : List NodeT) (i : Nat) : Int := (nd l i).2.2.2.2.2.2
def dat (l : List NodeT) (i : Nat) : List UInt8 := (nd l i).2.2.2.2.1
def alike (a b : NodeT) : Bool := a.2.2.1 == b.2.2.1 && (a.2.2.2.1 == b.2.2.2.1 && a.2.2.2.2.1 == b.2.2.2.2.1)
def sumTo (l : List NodeT) : Nat → Nat
 | 0 => 0
 | i + 1 => sumTo l i + (dat l i).length
def Small (l : List NodeT) : Prop := l.length ≤ 1048576 ∧ ∀ x ∈ l, x.2.2.2.2.1.length ≤ 1048576 ∧ x.2.2.2.2.2.1.length ≤ 1048576
theorem sumTo_le {l : List NodeT} (h : Small l) : ∀ {i : Nat}, i ≤ l.length → sumTo l i ≤ i * 1048576
 | 0, _ => Nat.zero_le _
 | i + 1, hi => by
  have h1 := sumTo_le h (show i ≤ l.length by omega)
  have h2 : (dat l i).length ≤ 1048576 := (h.2 _ (getD_mem dN (show i < l.length by omega))).1
  simp only [sumTo]; omega
def upS (l : List NodeT) (p : List UInt8) : Bool := p == [] || (match atO l p with | some k => (nd l k).2.1 == 0 | none => false)
def lessAt (l : List NodeT) (i : Nat) : Bool := i == 0 || Op.bytesLess (pth l (i - 1)) (pth l i)
def stepS (l : List NodeT) (i : Nat) : Bool := nodeOk (nd l i) && (lessAt l i && upS l (parent (pth l i)))
def mates (l : List NodeT) (g : Int) : Nat → Nat
 | 0 => 0
 | k + 1 => mates l g k + (cond (grp l k == g) 1 0)
theorem mates_le (l : List NodeT) (g : Int) : ∀ n, mates l g n ≤ n
 | 0 => Nat.le_refl _
 | n + 1 => by
  have := mates_le l g n
  simp only [mates]
  cases grp l n == g
  ·show _ + 0 ≤ _; omega
  ·show _ + 1 ≤ _; omega
def mateOk (l : List NodeT) (i k : Nat) : Bool := !(grp l k == grp l i) || alike (nd l k) (nd l i)
def okG (l : List NodeT) (i : Nat) : Bool := grp l i == 0 || ((List.range l.length).all (mateOk l i) && decide (2 ≤ mates l (grp l i) l.length))
def treeS (l : List NodeT) : Bool := decide (l.length ≤ 200) && ((List.range l.length).all (stepS l) && ((List.range l.length).all (okG l) && decide (sumTo l l.length ≤ 20000)))
theorem mget_mset {β : Type} (g h : Int) (x : β) : ∀ m : List (Int × β), mget (β := β) (.int .i64) g (mset (β := β) (.int .i64) h x m) = if g = h then some x else mget (β := β) (.int .i64) g m
 | [] => by
  by_cases e : g = h
  ·subst e; simp [mset, mget, keyEq]
  ·simp [mset, mget, keyEq, e]
 | p :: r => by
  have ih := mget_mset g h x r
  by_cases e1 : h = p.1
  ·by_cases e : g = h
   ·simp [mset, mget, keyEq, e1, e]
   ·have e2 : ¬g = p.1 := fun e' => e (e'.trans e1.symm)
    simp [mset, mget, keyEq, e1, e, e2]
  ·by_cases e : g = p.1
   ·have e2 : ¬g = h := fun e' => e1 (e'.symm.trans e)
    simp [mset, mget, keyEq, e1, e, e2]
    intro e3; exact absurd e3.symm e1
   ·simp only [mset, mget, keyEq, decide_eq_false e1, cond_false, decide_eq_false e]
    exact ih
theorem mget_mem {β : Type} (g : Int) (x : β) : ∀ m : List (Int × β), mget (β := β) (.int .i64) g m = some x → (g, x) ∈ m
 | [], h => by cases h
 | p :: r, h => by
  by_cases e : g = p.1
  ·simp only [mget, keyEq, decide_eq_true e, cond_true] at h
   injection h with h
   subst e; subst h
   exact List.mem_cons_self
  ·simp only [mget, keyEq, decide_eq_false e, cond_false] at h
   exact List.mem_cons_of_mem _ (mget_mem g x r h)
theorem mem_mget {β : Type} (g : Int) (x : β) : ∀ m : List (Int × β), (m.map Prod.fst).Nodup → (g, x) ∈ m → mget (β := β) (.int .i64) g m = some x
 | [], _, h => by cases h
 | p :: r, hn, h => by
  rw [List.map_cons, List.nodup_cons] at hn
  rcases List.mem_cons.1 h with e | h
  ·subst e; simp [mget, keyEq]
  ·have : ¬g = p.1 := by
    intro e; apply hn.1; rw [← e]; exact List.mem_map.2 ⟨_, h, rfl⟩
   simp only [mget, keyEq, decide_eq_false this, cond_false]
   exact mem_mget g x r hn.2 h
theorem mset_keys {β : Type} (g : Int) (x : β) : ∀ m : List (Int × β), (∀ k, k ∈ (mset (β := β) (.int .i64) g x m).map Prod.fst → k = g ∨ k ∈ m.map Prod.fst) ∧ ((m.map Prod.fst).Nodup → ((mset (β := β) (.int .i64) g x m).map Prod.fst).Nodup)
 | [] => ⟨fun k hk => by
     have : k ∈ [g] := hk
     exact .inl (List.mem_singleton.1 this), fun _ => by show [g].Nodup; simp⟩
 | p :: r => by
  obtain ⟨ih1, ih2⟩ := mset_keys g x r
  by_cases e : g = p.1
  ·have : mset (β := β) (.int .i64) g x (p :: r) = (g, x) :: r := by simp only [mset, keyEq, decide_eq_true e, cond_true]
   rw [this]
   constructor
   ·intro k hk
    rcases List.mem_cons.1 hk with h | h
    ·exact .inl h
    ·exact .inr (List.mem_cons_of_mem _ h)
   ·intro hn
    rw [List.map_cons] at hn ⊢
    rw [← e] at hn
    exact hn
  ·have : mset (β := β) (.int .i64) g x (p :: r) = p :: mset (β := β) (.int .i64) g x r := by simp only [mset, keyEq, decide_eq_false e, cond_false]
   rw [this]
   constructor
   ·intro k hk
    rcases List.mem_cons.1 hk with h | h
    ·exact .inr (h ▸ List.mem_cons_self)
    ·rcases ih1 k h with h | h
     ·exact .inl h
     ·exact .inr (List.mem_cons_of_mem _ h)
   ·intro hn
    rw [List.map_cons, List.nodup_cons] at hn ⊢
    refine ⟨fun hk => ?_, ih2 hn.2⟩
    rcases ih1 _ hk with h | h
    ·exact e h.symm
    ·exact hn.1 h
def Fmap (l : List NodeT) : Nat → List (Int × NodeT)
 | 0 => []
 | i + 1 => cond (grp l i == 0) (Fmap l i) (mset (β := NodeT) (.int .i64) (grp l i) (nd l i) (Fmap l i))
def Cmap (l : List NodeT) : Nat → List (Int × Int)
 | 0 => []
 | i + 1 => cond (grp l i == 0) (Cmap l i) (mset (β := Int) (.int .i64) (grp l i) (((mget (β := Int) (.int .i64) (grp l i) (Cmap l i)).getD 0) + 1) (Cmap l i))
theorem F_mem (l : List NodeT) (g : Int) (f : NodeT) : ∀ n, mget (β := NodeT) (.int .i64) g (Fmap l n) = some f → ∃ k, k < n ∧ grp l k = g ∧ f = nd l k
 | 0, h => by cases h
 | n + 1, h => by
  have up : mget (β := NodeT) (.int .i64) g (Fmap l n) = some f → ∃ k, k < n + 1 ∧ grp l k = g ∧ f = nd l k := fun h => by
   obtain ⟨k, h1, h2⟩ := F_mem l g f n h
   exact ⟨k, by omega, h2⟩
  simp only [Fmap] at h
  cases h0 : grp l n == 0 with
  | true => rw [h0, cond_true] at h; exact up h
  | false =>
   rw [h0, cond_false, mget_mset] at h
   by_cases e : g = grp l n
   ·rw [if_pos e] at h
    injection h with h
    exact ⟨n, by omega, e.symm, h.symm⟩
   ·rw [if_neg e] at h; exact up h
theorem alike_iff (a b : NodeT) : alike a b = true ↔ (a.2.2.1, a.2.2.2.1, a.2.2.2.2.1) = (b.2.2.1, b.2.2.2.1, b.2.2.2.2.1) := by
 unfold alike
 simp only [Bool.and_eq_true, beq_iff_eq, Prod.mk.injEq]
def mapOk' (l : List NodeT) (i : Nat) : Bool := grp l i == 0 || (match mget (β := NodeT) (.int .i64) (grp l i) (Fmap l i) with | some f => alike f (nd l i) | none => true)
theorem F_chain (l : List NodeT) (g : Int) (hg : g ≠ 0) : ∀ n, (∀ j, j < n → mapOk' l j = true) → (∀ f, mget (β := NodeT) (.int .i64) g (Fmap l n) = some f → ∀ k, k < n → grp l k = g → alike f (nd l k) = true) ∧ (mget (β := NodeT) (.int .i64) g (Fmap l n) = none → ∀ k, k < n → grp l k ≠ g)
 | 0, _ => ⟨fun f _ k hk => by omega, fun _ k hk => by omega⟩
 | n + 1, h => by
  obtain ⟨ih1, ih2⟩ := F_chain l g hg n (fun j hj => h j (by omega))
  have hn := h n (by omega)
  unfold mapOk' at hn
  simp only [Fmap]
  cases h0 : grp l n == 0 with
  | true =>
   rw [cond_true]
   have hne : grp l n ≠ g := by rw [beq_iff_eq] at h0; rw [h0]; exact hg.symm
   refine ⟨fun f hf k hk e => ?_, fun hf k hk => ?_⟩
   ·by_cases ek : k = n
    ·subst ek; exact absurd e hne
    ·exact ih1 f hf k (by omega) e
   ·by_cases ek : k = n
    ·subst ek; exact hne
    ·exact ih2 hf k (by omega)
  | false =>
   rw [cond_false, mget_mset]
   rw [h0, Bool.false_or] at hn
   by_cases e : g = grp l n
   ·rw [if_pos e]
    refine ⟨fun f hf k hk ek => ?_, fun hf => by cases hf⟩
    injection hf with hf
    subst hf
    by_cases ek' : k = n
    ·subst ek'; exact (alike_iff _ _).2 rfl
    ·rw [← e] at hn
     cases hm : mget (β := NodeT) (.int .i64) g (Fmap l n) with
     | none => exact absurd ek (ih2 hm k (by omega))
     | some f =>
      rw [hm] at hn
      have h1 := (alike_iff _ _).1 hn
      have h2 := (alike_iff _ _).1 (ih1 f hm k (by omega) ek)
      exact (alike_iff _ _).2 (h1.symm.trans h2)
   ·rw [if_neg e]
    refine ⟨fun f hf k hk ek => ?_, fun hf k hk => ?_⟩
    ·by_cases ek' : k = n
     ·subst ek'; exact absurd ek.symm e
     ·exact ih1 f hf k (by omega) ek
    ·by_cases ek' : k = n
     ·subst ek'; exact fun h => e h.symm
     ·exact ih2 hf k (by omega)
theorem C_nodup (l : List NodeT) : ∀ n, ((Cmap l n).map Prod.fst).Nodup
 | 0 => List.nodup_nil
 | n + 1 => by
  simp only [Cmap]
  cases grp l n == 0 with
  | true => exact C_nodup l n
  | false => exact (mset_keys _ _ _).2 (C_nodup l n)
theorem mates_yes {l : List NodeT} {g : Int} {n : Nat} (h : grp l n = g) : mates l g (n + 1) = mates l g n + 1 := by
 simp only [mates]; rw [show (grp l n == g) = true by simp [h]]; rfl
theorem mates_no {l : List NodeT} {g : Int} {n : Nat} (h : ¬grp l n = g) : mates l g (n + 1) = mates l g n := by
 simp only [mates]; rw [show (grp l n == g) = false by simp [h]]; rfl
theorem C_get (l : List NodeT) (g : Int) : ∀ n, mget (β := Int) (.int .i64) g (Cmap l n) = if g ≠ 0 ∧ 0 < mates l g n then some (mates l g n : Int) else none
 | 0 => by
  rw [if_neg (by rintro ⟨_, h⟩; exact Nat.lt_irrefl _ h)]; rfl
 | n + 1 => by
  have ih := C_get l g n
  by_cases h0 : grp l n = 0
  ·have e1 : Cmap l (n + 1) = Cmap l n := by simp only [Cmap]; rw [show (grp l n == 0) = true by simp [h0]]; rfl
   rw [e1, ih]
   by_cases hg : g = 0
   ·rw [if_neg (by rintro ⟨h, _⟩; exact h hg), if_neg (by rintro ⟨h, _⟩; exact h hg)]
   ·rw [mates_no (show ¬grp l n = g by rw [h0]; exact fun h => hg h.symm)]
  ·have e1 : Cmap l (n + 1) = mset (β := Int) (.int .i64) (grp l n) (((mget (β := Int) (.int .i64) (grp l n) (Cmap l n)).getD 0) + 1) (Cmap l n) := by
    simp only [Cmap]; rw [show (grp l n == 0) = false by simp [h0]]; rfl
   rw [e1, mget_mset]
   by_cases e : g = grp l n
   ·have hg : g ≠ 0 := by rw [e]; exact h0
    rw [if_pos e, mates_yes e.symm, if_pos ⟨hg, by omega⟩, ← e, ih]
    by_cases hm : 0 < mates l g n
    ·rw [if_pos ⟨hg, hm⟩]; rfl
    ·rw [if_neg (by rintro ⟨_, h⟩; exact hm h), show mates l g n = 0 by omega]; rfl
   ·rw [if_neg e, ih, mates_no (fun h => e h.symm)]
theorem mates_pos (l : List NodeT) (g : Int) : ∀ n, 0 < mates l g n ↔ ∃ i, i < n ∧ grp l i = g
 | 0 => ⟨fun h => absurd h (Nat.lt_irrefl _), fun ⟨i, h, _⟩ => by omega⟩
 | n + 1 => by
  have ih := mates_pos l g n
  simp only [mates]
  cases h : grp l n == g with
  | true =>
   constructor
   ·intro _; exact ⟨n, by omega, by simpa using h⟩
   ·intro _; show 0 < _ + 1; omega
  | false =>
   show 0 < mates l g n + 0 ↔ _
   rw [Nat.add_zero, ih]
   constructor
   ·rintro ⟨i, h1, h2⟩; exact ⟨i, by omega, h2⟩
   ·rintro ⟨i, h1, h2⟩
    refine ⟨i, ?_, h2⟩
    by_cases e : i = n
    ·subst e; rw [h2] at h; simp at h
    ·omega
def okI (l : List NodeT) (i : Nat) : Bool := nodeOk (nd l i) && (lessAt l i && (isDir (l.take i) (parent (pth l i)) && mapOk' l i))
def treeI (l : List NodeT) : Bool := decide (l.length ≤ 200) && ((List.range l.length).all (okI l) && ((Cmap l l.length).all (fun p => decide (2 ≤ p.2)) && decide (sumTo l l.length ≤ 20000)))
theorem sorted_of {l : List NodeT} (h : ∀ i, i < l.length → lessAt l i = true) : Sorted l := by
 intro i hi
 have := h (i + 1) hi
 unfold lessAt at this
 simpa using this
theorem nodeOk_path {x : NodeT} (h : nodeOk x = true) : pathOk x.1 = true := by
 unfold nodeOk at h
 rw [Bool.and_eq_true, Bool.and_eq_true] at h
 exact h.1.1
theorem pth_take {l : List NodeT} {n k : Nat} (h : k < n) : (l.take n).getD k dN = l.getD k dN := by
 rw [List.getD_eq_getElem?_getD, List.getD_eq_getElem?_getD, List.getElem?_take, if_pos h]
theorem up_eq {l : List NodeT} (hs : Sorted l) {i : Nat} (hi : i < l.length) (hp : pathOk (pth l i) = true) : isDir (l.take i) (parent (pth l i)) = upS l (parent (pth l i)) := by
 have hlt := parent_less hp
 generalize parent (pth l i) = p at hlt ⊢
 unfold isDir upS
 cases hpe : p == [] with
 | true => rfl
 | false =>
  rw [Bool.false_or, Bool.false_or]
  have bef : ∀ k, k < l.length → pth l k = p → k < i := by
   intro k hk e
   rcases Nat.lt_trichotomy k i with h | h | h
   ·exact h
   ·subst h; rw [e, less_irrefl] at hlt; cases hlt
   ·have := less_asymm (hs.lt h hk); rw [e, hlt] at this; cases this
  rw [Bool.eq_iff_iff, any_idx]
  rcases atO_spec l p with ⟨k, e, hk, ek⟩ | ⟨e, hn⟩
  ·rw [e]
   dsimp only
   constructor
   ·rintro ⟨j, hj, h⟩
    rw [List.length_take] at hj
    rw [pth_take (show j < i by omega), Bool.and_eq_true, beq_iff_eq] at h
    have : j = k := by
     rcases Nat.lt_trichotomy j k with h' | h' | h'
     ·have := hs.lt h' hk
      rw [ek, show pth l j = p from h.1, less_irrefl] at this; cases this
     ·exact h'
     ·have := hs.lt h' (show j < l.length by omega)
      rw [ek, show pth l j = p from h.1, less_irrefl] at this; cases this
    subst this; exact h.2
   ·intro h
    have hki := bef k hk ek
    refine ⟨k, by rw [List.length_take]; omega, ?_⟩
    rw [pth_take hki, Bool.and_eq_true, beq_iff_eq]
    exact ⟨ek, h⟩
  ·rw [e]
   constructor
   ·rintro ⟨j, hj, h⟩
    rw [List.length_take] at hj
    rw [pth_take (show j < i by omega), Bool.and_eq_true, beq_iff_eq] at h
    exact absurd h.1 (hn j (by omega))
   ·intro h; cases h
theorem treeI_eq (l : List NodeT) : treeI l = treeS l := by
 rw [Bool.eq_iff_iff]
 unfold treeI treeS
 simp only [Bool.and_eq_true, all_iff]
 constructor
 ·rintro ⟨hl, h1, h2, h3⟩
  have hs : Sorted l := sorted_of (fun i hi => by have := h1 i hi; unfold okI at this; simp only [Bool.and_eq_true] at this; exact this.2.1)
  have hm : ∀ i, i < l.length → mapOk' l i = true := fun i hi => by have := h1 i hi; unfold okI at this; simp only [Bool.and_eq_true] at this; exact this.2.2.2
  refine ⟨hl, fun i hi => ?_, fun i hi => ?_, h3⟩
  ·have h := h1 i hi
   unfold okI at h
   unfold stepS
   simp only [Bool.and_eq_true] at h ⊢
   refine ⟨h.1, h.2.1, ?_⟩
   rw [← up_eq hs hi (nodeOk_path h.1)]; exact h.2.2.1
  ·unfold okG
   by_cases h0 : grp l i = 0
   ·simp [h0]
   ·rw [show (grp l i == 0) = false by simp [h0], Bool.false_or, Bool.and_eq_true, all_iff]
    obtain ⟨c1, c2⟩ := F_chain l (grp l i) h0 l.length hm
    constructor
    ·intro k hk
     unfold mateOk
     by_cases e : grp l k = grp l i
     ·rw [show (grp l k == grp l i) = true by simp [e], Bool.not_true, Bool.false_or]
      cases hf : mget (β := NodeT) (.int .i64) (grp l i) (Fmap l l.length) with
      | none => exact absurd rfl (c2 hf i hi)
      | some f =>
       exact (alike_iff _ _).2 (((alike_iff _ _).1 (c1 f hf k hk e)).symm.trans ((alike_iff _ _).1 (c1 f hf i hi rfl)))
     ·rw [show (grp l k == grp l i) = false by simp [e]]; rfl
    ·have hpos := (mates_pos l (grp l i) l.length).2 ⟨i, hi, rfl⟩
     have hg := C_get l (grp l i) l.length
     rw [if_pos ⟨h0, hpos⟩] at hg
     have h2' := List.all_eq_true.1 h2 _ (mget_mem _ _ _ hg)
     rw [decide_eq_true_eq] at h2' ⊢
     exact Int.ofNat_le.1 h2'
 ·rintro ⟨hl, h1, h2, h3⟩
  have hs : Sorted l := sorted_of (fun i hi => by have := h1 i hi; unfold stepS at this; simp only [Bool.and_eq_true] at this; exact this.2.1)
  refine ⟨hl, fun i hi => ?_, ?_, h3⟩
  ·have h := h1 i hi
   unfold stepS at h
   unfold okI
   simp only [Bool.and_eq_true] at h ⊢
   refine ⟨h.1, h.2.1, ?_, ?_⟩
   ·rw [up_eq hs hi (nodeOk_path h.1)]; exact h.2.2
   ·unfold mapOk'
    by_cases h0 : grp l i = 0
    ·simp [h0]
    ·rw [show (grp l i == 0) = false by simp [h0], Bool.false_or]
     cases hf : mget (β := NodeT) (.int .i64) (grp l i) (Fmap l i) with
     | none => rfl
     | some f =>
      obtain ⟨k, hk, e, rfl⟩ := F_mem l _ f i hf
      have hg := h2 i hi
      unfold okG at hg
      rw [show (grp l i == 0) = false by simp [h0], Bool.false_or, Bool.and_eq_true, all_iff] at hg
      have := hg.1 k (by omega)
      unfold mateOk at this
      rw [show (grp l k == grp l i) = true by simp [e], Bool.not_true, Bool.false_or] at this
      exact this
  ·rw [List.all_eq_true]
   rintro ⟨g, v⟩ hp
   have hm := mem_mget g v _ (C_nodup l l.length) hp
   rw [C_get] at hm
   by_cases hc : g ≠ 0 ∧ 0 < mates l g l.length
   ·rw [if_pos hc] at hm
    injection hm with hm
    obtain ⟨i, hi, e⟩ := (mates_pos l g l.length).1 hc.2
    have hg := h2 i hi
    unfold okG at hg
    rw [show (grp l i == 0) = false by rw [beq_eq_false_iff_ne, e]; exact hc.1, Bool.false_or, Bool.and_eq_true, decide_eq_true_eq, e] at hg
    rw [decide_eq_true_eq]
    show (2 : Int) ≤ v
    rw [← hm]
    exact Int.ofNat_le.2 hg.2
   ·rw [if_neg hc] at hm; cases hm
theorem atO_min {l : List NodeT} {p : List UInt8} {i : Nat} (hi : i < l.length) (he : pth l i = p) (hm : ∀ j, j < i → pth l j ≠ p) : atO l p = some i := by
 unfold atO
 rw [List.find?_range_eq_some]
 exact ⟨by simp [he], by simpa using hi, fun j hj => by simp [hm j hj]⟩
theorem spec_at (l : List NodeT) (hl : l.length ≤ 1099511627776) (p : List UInt8) : m_spec_l10At l p = some (atV l p, ()) := by
 unfold m_spec_l10At
 refine joinC_of (loopC_inv _ (fun n t => ∃ i : Nat, t = ((l, p, (i : Int), ()), ()) ∧ i ≤ l.length ∧ n = l.length - i ∧ ∀ j, j < i → pth l j ≠ p)
  (fun _ => some (match atO l p with | some i => .inr ((i : Int), ()) | none => .inl ((), ()))) ?_ _ l.length _ ⟨0, rfl, by omega, rfl, fun j hj => by omega⟩ (by omega)) ?_
 ·rintro n t k ⟨i, rfl, hi, rfl, hj⟩ hk
  dsimp only
  by_cases hlt : i < l.length
  ·rw [decide_eq_true (by omega), cond_true, if_pos (by omega), Int.toNat_natCast]
   show (bif pth l i == p then _ else _) = _
   cases hp : pth l i == p with
   | true =>
    rw [atO_min hlt (by simpa using hp) hj]; rfl
   | false =>
    rw [cond_false, wr1 i (by omega)]
    refine hk (l.length - (i + 1)) _ (by omega) ⟨i + 1, rfl, by omega, rfl, fun j hj' => ?_⟩
    by_cases e : j = i
    ·subst e; simpa using hp
    ·exact hj j (by omega)
  ·rw [decide_eq_false (by omega), cond_false]
   rcases atO_spec l p with ⟨k', _, hk', e⟩ | ⟨e, _⟩
   ·exact absurd e (hj k' (by omega))
   ·rw [e]
 ·unfold atV
  cases atO l p <;> rfl
theorem up_run (l : List NodeT) (q : List UInt8) (α : Type) (f : Bool → α) :
    (bif !(q == []) then (bif decide (atV l q < 0) then some (f true) else if 0 ≤ atV l q ∧ atV l q < (l.length : Int) then some (f ((nd l (atV l q).toNat).2.1 != 0)) else none) else some (f false)) = some (f (!upS l q)) := by
 unfold upS
 cases q == [] with
 | true => rfl
 | false =>
  simp only [Bool.not_false, cond_true, Bool.false_or]
  unfold atV
  rcases atO_spec l q with ⟨k, e, hk, _⟩ | ⟨e, _⟩
  ·rw [e]
   dsimp only
   rw [decide_eq_false (by omega), cond_false, if_pos (by omega), Int.toNat_natCast]
   rfl
  ·rw [e]; rfl
theorem less_run {α : Type} {l : List NodeT} {i : Nat} (hi : i ≤ 1099511627776) (hl : i ≤ l.length) (f : Bool → α) :
    (bif decide ((i : Int) > 0) then (if (0 : Int) ≤ IntKind.wrap IntKind.i64 ((i : Int) - 1) ∧ IntKind.wrap IntKind.i64 ((i : Int) - 1) < (l.length : Int) then some (f (!Op.bytesLess (l.getD (Int.toNat (IntKind.wrap IntKind.i64 ((i : Int) - 1))) dN).1 (l.getD i dN).1)) else none) else some (f false)) = some (f (!lessAt l i)) := by
 unfold lessAt pth
 by_cases h0 : i = 0
 ·subst h0; rfl
 ·have e : IntKind.wrap .i64 ((i : Int) - 1) = ((i - 1 : Nat) : Int) := by rw [wr _ (by omega)]; omega
  rw [decide_eq_true (by omega), cond_true, e, if_pos (by omega), Int.toNat_natCast, show (i == 0) = false by simp [h0], Bool.false_or]
theorem spec_treeOk (l : List NodeT) (h : Small l) : m_spec_TreeOk l = some (treeS l, ()) := by
 unfold m_spec_TreeOk treeS
 by_cases hl : l.length ≤ 200
 ·rw [decide_eq_false (by omega), cond_false, decide_eq_true hl, Bool.true_and]
  have hsum : ∀ i, i ≤ l.length → sumTo l i ≤ 209715200 := fun i hi => by have := sumTo_le h hi; omega
  refine joinC_of (allLoop _ (fun i => ((l, (sumTo l i : Int), (i : Int), ()), ())) l.length (stepS l) (.inl ((l, (sumTo l l.length : Int), ()), ())) (.inr (false, ())) ?_ ?_ _ (by omega)) ?_
  ·intro i k hi
   dsimp only
   rw [decide_eq_true (by omega), cond_true, if_pos (by omega), Int.toNat_natCast]
   have hn : m_spec_NodeOk (nd l i) = some (nodeOk (nd l i), ()) := spec_nodeOk _ (Nat.le_trans (h.2 _ (getD_mem dN hi)).2 (by omega))
   refine bind_eq (x := ((l, (sumTo l i : Int), (i : Int), (), !(nodeOk (nd l i) && lessAt l i), ()), ((nd l i).1, (nd l i).2.1, (nd l i).2.2.1, (nd l i).2.2.2.1, (nd l i).2.2.2.2.1, (nd l i).2.2.2.2.2.1, (nd l i).2.2.2.2.2.2, ()), ())) ?_ ?_
   ·show Option.bind (m_spec_NodeOk (nd l i)) _ = _
    rw [hn, Option.bind_some]
    cases nodeOk (nd l i) with
    | false => rfl
    | true =>
     simp only [Bool.not_true, cond_false, Bool.true_and]
     exact less_run (by omega) (by omega) (fun b => (((l, (sumTo l i : Int), (i : Int), (), b, ()), ((nd l i).1, (nd l i).2.1, (nd l i).2.2.1, (nd l i).2.2.2.1, (nd l i).2.2.2.2.1, (nd l i).2.2.2.2.2.1, (nd l i).2.2.2.2.2.2, ()), ())))
   ·dsimp only
    unfold stepS
    cases hnl : (nodeOk (nd l i) && lessAt l i) with
    | false =>
     have : (nodeOk (nd l i) && (lessAt l i && upS l (parent (pth l i)))) = false := by rw [← Bool.and_assoc, hnl]; rfl
     rw [this]; rfl
    | true =>
     have : (nodeOk (nd l i) && (lessAt l i && upS l (parent (pth l i)))) = upS l (parent (pth l i)) := by rw [← Bool.and_assoc, hnl]; rfl
     rw [this]
     simp only [Bool.not_true, cond_false]
     show Option.bind (m_spec_ParentOf (pth l i)) _ = _
     rw [spec_parent, Option.bind_some]
     dsimp only
     rw [spec_at l (by omega), Option.bind_some]
     dsimp only
     have hd : (dat l i).length ≤ 1048576 := (h.2 _ (getD_mem dN hi)).1
     have hw : IntKind.wrap .i64 ((sumTo l i : Int) + ((nd l i).2.2.2.2.1.length : Int)) = (sumTo l (i + 1) : Int) := by
      have := hsum i (by omega)
      show IntKind.wrap .i64 ((sumTo l i : Int) + ((dat l i).length : Int)) = _
      rw [wr _ (by omega)]; simp [sumTo]
     rw [hw]
     refine bind_eq (up_run l (parent (pth l i)) _ (fun b => ((l, (sumTo l (i + 1) : Int), (i : Int), b, ()), ()))) ?_
     dsimp only
     rw [wr1 i (by omega)]
     cases upS l (parent (pth l i)) <;> rfl
  ·intro k; dsimp only; rw [decide_eq_false (by omega)]; rfl
  ·cases (List.range l.length).all (stepS l) with
   | false => rfl
   | true =>
    rw [cond_true, Bool.true_and, joinC_inl' rfl]
    dsimp only
    refine joinC_of (allLoop _ (fun i => ((l, (sumTo l l.length : Int), (i : Int), ()), ())) l.length (okG l) (.inl (((sumTo l l.length : Int), ()), ())) (.inr (false, ())) ?_ ?_ _ (by omega)) ?_
    ·intro i k hi
     dsimp only
     rw [decide_eq_true (by omega), cond_true]
     refine joinC_of (x := some (cond (okG l i) (.inl ((l, (sumTo l l.length : Int), (i : Int), ()), ())) (.inr (.inr (false, ()))))) ?_ ?_
     ·rw [if_pos (by omega), Int.toNat_natCast]
      show (bif grp l i == 0 then _ else _) = _
      unfold okG
      cases grp l i == 0 with
      | true => rfl
      | false =>
       rw [cond_false, Bool.false_or]
       refine joinC_of (allLoop _ (fun q => ((l, (sumTo l l.length : Int), (i : Int), (mates l (grp l i) q : Int), (q : Int), ()), ())) l.length (mateOk l i)
        (.inl ((l, (sumTo l l.length : Int), (i : Int), (mates l (grp l i) l.length : Int), ()), ())) (.inr (.inr (.inr (false, ())))) ?_ ?_ _ (by omega)) ?_
       ·intro q k hq
        have hb : (0 : Int) ≤ (i : Int) ∧ (i : Int) < (l.length : Int) := by omega
        have hb' : (0 : Int) ≤ (q : Int) ∧ (q : Int) < (l.length : Int) := by omega
        dsimp only
        rw [decide_eq_true (by omega), cond_true]
        simp only [if_pos hb, if_pos hb', Int.toNat_natCast]
        have hm := mates_le l (grp l i) q
        refine joinC_of (x := some (cond (mateOk l i q) (.inl ((l, (sumTo l l.length : Int), (i : Int), (mates l (grp l i) (q + 1) : Int), (q : Int), ()), ())) (.inr (.inr (.inr (.inr (false, ()))))))) ?_ ?_
        ·show (bif grp l q == grp l i then _ else _) = _
         unfold mateOk
         cases hg : grp l q == grp l i with
         | false =>
          rw [mates_no (by simpa using hg)]; rfl
         | true =>
          rw [cond_true, mates_yes (by simpa using hg), Bool.not_true, Bool.false_or, wr1 _ (by omega)]
          refine bind_eq (x := ((l, (sumTo l l.length : Int), (i : Int), ((mates l (grp l i) q + 1 : Nat) : Int), (q : Int), !alike (nd l q) (nd l i), ()), ())) ?_ ?_
          ·unfold alike
           show (bif (nd l q).2.2.1 != (nd l i).2.2.1 then _ else bif (nd l q).2.2.2.1 != (nd l i).2.2.2.1 then _ else some ((l, (sumTo l l.length : Int), (i : Int), ((mates l (grp l i) q + 1 : Nat) : Int), (q : Int), !((nd l q).2.2.2.2.1 == (nd l i).2.2.2.2.1), ()), ())) = _
           unfold bne
           cases (nd l q).2.2.1 == (nd l i).2.2.1 <;> cases (nd l q).2.2.2.1 == (nd l i).2.2.2.1 <;> rfl
          ·cases alike (nd l q) (nd l i) <;> rfl
        ·cases mateOk l i q with
         | false => rfl
         | true =>
          rw [cond_true, joinC_inl' rfl]
          dsimp only
          rw [wr1 q (by omega)]; rfl
       ·intro k; dsimp only; rw [decide_eq_false (by omega)]; rfl
       ·cases (List.range l.length).all (mateOk l i) with
        | false => rfl
        | true =>
         rw [cond_true, Bool.true_and]
         show (bif decide ((mates l (grp l i) l.length : Int) < 2) then _ else _) = _
         by_cases h2 : 2 ≤ mates l (grp l i) l.length
         ·rw [decide_eq_true h2, decide_eq_false (by omega)]; rfl
         ·rw [decide_eq_false h2, decide_eq_true (by omega)]; rfl
     ·cases okG l i with
      | false => rfl
      | true =>
       rw [cond_true, joinC_inl' rfl]
       dsimp only
       rw [wr1 i (by omega)]; rfl
    ·intro k; dsimp only; rw [decide_eq_false (by omega)]; rfl
    ·cases (List.range l.length).all (okG l) with
     | false => rfl
     | true =>
      show some (decide ((sumTo l l.length : Int) ≤ 20000), ()) = _
      rw [show decide ((sumTo l l.length : Int) ≤ 20000) = decide (sumTo l l.length ≤ 20000) from decide_eq_decide.2 (by omega)]
      rfl
 ·rw [decide_eq_true (by omega), decide_eq_false hl]; rfl
theorem impl_isAlike (a b : NodeT) : m_impl_isAlike a b = some (alike a b, ()) := by
 unfold m_impl_isAlike alike
 cases a.2.2.1 == b.2.2.1 <;> cases a.2.2.2.1 == b.2.2.2.1 <;> rfl
theorem sorted_take {l : List NodeT} {i : Nat} (hi : i ≤ l.length) (h : ∀ j, j < i → lessAt l j = true) : Sorted (l.take i) := by
 intro j hj
 rw [List.length_take] at hj
 have := h (j + 1) (by omega)
 unfold lessAt at this
 unfold pth
 rw [pth_take (show j < i by omega), pth_take (show j + 1 < i by omega)]
 simpa [pth] using this
theorem impl_areSmall (l : List NodeT) (h : Small l) (hl : l.length ≤ 200) : m_impl_areSmall l = some (decide (sumTo l l.length ≤ 20000), ()) := by
 unfold m_impl_areSmall
 have hsum : ∀ i, i ≤ l.length → sumTo l i ≤ 209715200 := fun i hi => by have := sumTo_le h hi; omega
 refine bind_eq (loopC_inv _ (fun n t => ∃ i : Nat, t = ((l, (sumTo l i : Int), l, (l.length : Int), (i : Int), ()), ()) ∧ i ≤ l.length ∧ n = l.length - i)
  (fun _ => some ((l, (sumTo l l.length : Int), ()), ())) ?_ _ l.length _ ⟨0, rfl, by omega, rfl⟩ (by omega)) ?_
 ·rintro n t k ⟨i, rfl, hi, rfl⟩ hk
  dsimp only
  by_cases hlt : i < l.length
  ·rw [decide_eq_true (by omega), cond_true, if_pos (by omega), Int.toNat_natCast]
   have hd : (dat l i).length ≤ 1048576 := (h.2 _ (getD_mem dN hlt)).1
   have hw : IntKind.wrap .i64 ((sumTo l i : Int) + ((dat l i).length : Int)) = (sumTo l (i + 1) : Int) := by
    have := hsum i (by omega)
    rw [wr _ (by omega)]; simp [sumTo]
   refine hk (l.length - (i + 1)) _ (by omega) ⟨i + 1, ?_, by omega, rfl⟩
   rw [wr1 i (by omega), ← hw]; rfl
  ·have : i = l.length := by omega
   subst this
   rw [decide_eq_false (by omega)]; rfl
 ·dsimp only
  rw [decide_eq_true (by omega), cond_true, Option.bind_some]
  rw [show decide ((sumTo l l.length : Int) ≤ 20000) = decide (sumTo l l.length ≤ 20000) from decide_eq_decide.2 (by omega)]
def mapT (l : List NodeT) (i : Nat) : Bool := match mget (β := NodeT) (.int .i64) (grp l i) (Fmap l i) with | some f => alike f (nd l i) | none => true
theorem anyC_all {α : Type} (f : α → Bool) : ∀ l : List α, anyC (fun p => some (f p)) l = some (!l.all (fun p => !f p))
 | [] => rfl
 | p :: r => by
  simp only [anyC, anyC_all f r, List.all_cons]
  cases f p <;> rfl
theorem C_wrap (l : List NodeT) (i : Nat) (hi : i ≤ 200) : IntKind.wrap .i64 (Option.getD (mget (β := Int) (.int .i64) (grp l i) (Cmap l i)) 0 + 1) = Option.getD (mget (β := Int) (.int .i64) (grp l i) (Cmap l i)) 0 + 1 := by
 rw [C_get]
 have := mates_le l (grp l i) i
 by_cases hc : grp l i ≠ 0 ∧ 0 < mates l (grp l i) i
 ·rw [if_pos hc]; exact wr _ (by simp only [Option.getD_some]; omega)
 ·rw [if_neg hc]; rfl
theorem impl_treeOk (l : List NodeT) (h : Small l) : m_impl_TreeOk l = some (treeS l, ()) := by
 rw [← treeI_eq]
 unfold m_impl_TreeOk treeI
 by_cases hl : l.length ≤ 200
 ·rw [decide_eq_false (by omega), cond_false, decide_eq_true hl, Bool.true_and]
  refine joinC_of (allLoopP _ (fun i => ((l, (), (), l, (l.length : Int), (i : Int), ()), Fmap l i, Cmap l i, ())) l.length (okI l) (.inl ((l, (), ()), Cmap l l.length, ())) (.inr (false, ())) ?_ ?_ _ (by omega)) ?_
  ·intro i k hi hbef
   have hsor : Sorted (l.take i) := sorted_take (by omega) (fun j hj => by have := hbef j hj; unfold okI at this; simp only [Bool.and_eq_true] at this; exact this.2.1)
   dsimp only
   rw [decide_eq_true (by omega), cond_true, if_pos (by omega), Int.toNat_natCast]
   have hdir : ∀ q, m_impl_isDirIn (List.drop (Int.toNat 0) (List.take i l)) q = some (isDir (l.take i) q, ()) := fun q => impl_isDirIn (l.take i) hsor (by rw [List.length_take]; omega) q
   refine joinC_of (x := some (cond (okI l i) (.inl ((l, (), (), l, (l.length : Int), (i : Int), ()), Fmap l (i + 1), Cmap l (i + 1), ())) (.inr (.inr (false, ()))))) ?_ ?_
   ·refine bind_eq (x := ((l, (), (), (), l, (l.length : Int), (i : Int), !(nodeOk (nd l i) && (lessAt l i && isDir (l.take i) (parent (pth l i)))), ()), Fmap l i, Cmap l i, ((nd l i).1, (nd l i).2.1, (nd l i).2.2.1, (nd l i).2.2.2.1, (nd l i).2.2.2.2.1, (nd l i).2.2.2.2.2.1, (nd l i).2.2.2.2.2.2, ()), ())) ?_ ?_
    ·show Option.bind (m_impl_NodeOk (nd l i)) _ = _
     rw [impl_nodeOk, Option.bind_some]
     cases nodeOk (nd l i) with
     | false => rfl
     | true =>
      simp only [Bool.not_true, cond_false, Bool.true_and]
      have tail : (if (0 : Int) ≤ 0 ∧ (0 : Int) ≤ (i : Int) ∧ (i : Int) ≤ (l.length : Int) then
          Option.bind (m_impl_ParentOf (nd l i).1) fun r => Option.bind (m_impl_isDirIn (List.drop (Int.toNat 0) (List.take i l)) r.1) fun r =>
           some ((l, (), (), (), l, (l.length : Int), (i : Int), !r.1, ()), Fmap l i, Cmap l i, ((nd l i).1, (nd l i).2.1, (nd l i).2.2.1, (nd l i).2.2.2.1, (nd l i).2.2.2.2.1, (nd l i).2.2.2.2.2.1, (nd l i).2.2.2.2.2.2, ()), ())
          else none) = some ((l, (), (), (), l, (l.length : Int), (i : Int), !isDir (l.take i) (parent (pth l i)), ()), Fmap l i, Cmap l i, ((nd l i).1, (nd l i).2.1, (nd l i).2.2.1, (nd l i).2.2.2.1, (nd l i).2.2.2.2.1, (nd l i).2.2.2.2.2.1, (nd l i).2.2.2.2.2.2, ()), ()) := by
       rw [if_pos (by omega), impl_parent, Option.bind_some]
       dsimp only
       rw [hdir, Option.bind_some]; rfl
      unfold lessAt
      by_cases h0 : i = 0
      ·subst h0
       exact tail
      ·have e : IntKind.wrap .i64 ((i : Int) - 1) = ((i - 1 : Nat) : Int) := by rw [wr _ (by omega)]; omega
       rw [decide_eq_true (by omega), cond_true, e, if_pos (by omega), Int.toNat_natCast, show (i == 0) = false by simp [h0], Bool.false_or]
       show (bif !Op.bytesLess (pth l (i - 1)) (pth l i) then _ else _) = _
       cases Op.bytesLess (pth l (i - 1)) (pth l i) with
       | false => rfl
       | true =>
        rw [Bool.true_and]
        exact tail
    ·dsimp only
     unfold okI
     cases hb : (nodeOk (nd l i) && (lessAt l i && isDir (l.take i) (parent (pth l i)))) with
     | false =>
      have : (nodeOk (nd l i) && (lessAt l i && (isDir (l.take i) (parent (pth l i)) && mapOk' l i))) = false := by
       rw [← Bool.and_assoc (lessAt l i), ← Bool.and_assoc, hb]; rfl
      rw [this]; rfl
     | true =>
      have : (nodeOk (nd l i) && (lessAt l i && (isDir (l.take i) (parent (pth l i)) && mapOk' l i))) = mapOk' l i := by
       rw [← Bool.and_assoc (lessAt l i), ← Bool.and_assoc, hb]; rfl
      rw [this]
      simp only [Bool.not_true, cond_false]
      unfold mapOk'
      simp only [Fmap, Cmap]
      show (bif grp l i == 0 then _ else _) = _
      cases grp l i == 0 with
      | true => rfl
      | false =>
       simp only [cond_false, Bool.false_or]
       refine bind_eq (x := ((l, (), (), (), l, (l.length : Int), (i : Int), !mapT l i, ()), Fmap l i, Cmap l i, ((nd l i).1, (nd l i).2.1, (nd l i).2.2.1, (nd l i).2.2.2.1, (nd l i).2.2.2.2.1, (nd l i).2.2.2.2.2.1, (nd l i).2.2.2.2.2.2, ()), ())) ?_ ?_
       ·show (bif Option.isSome (mget (β := NodeT) (.int .i64) (grp l i) (Fmap l i)) then Option.bind (m_impl_isAlike (Option.getD (mget (β := NodeT) (.int .i64) (grp l i) (Fmap l i)) dN) (nd l i)) _ else _) = _
        unfold mapT
        cases mget (β := NodeT) (.int .i64) (grp l i) (Fmap l i) with
        | none => rfl
        | some f =>
         simp only [Option.isSome_some, cond_true, Option.getD_some]
         rw [impl_isAlike, Option.bind_some]
       ·show (bif !mapT l i then _ else _) = some (bif mapT l i then _ else _)
        cases mapT l i with
        | false => rfl
        | true =>
         simp only [Bool.not_true, cond_false, cond_true]
         have := C_wrap l i (by omega)
         show some (Sum.inl ((l, (), (), l, (l.length : Int), (i : Int), ()), _, mset (Ty.int .i64) (grp l i) (IntKind.wrap .i64 (Option.getD (mget (β := Int) (.int .i64) (grp l i) (Cmap l i)) 0 + 1)) (Cmap l i), ())) = _
         rw [this]; rfl
   ·cases okI l i with
    | false => rfl
    | true =>
     rw [cond_true, joinC_inl' rfl]
     dsimp only
     rw [wr1 i (by omega)]; rfl
  ·intro k _; dsimp only; rw [decide_eq_false (by omega)]; rfl
  ·cases (List.range l.length).all (okI l) with
   | false => rfl
   | true =>
    rw [cond_true, joinC_inl' rfl, Bool.true_and]
    dsimp only
    refine bind_eq (anyC_all (fun p : Int × Int => decide (p.2 < 2)) (Cmap l l.length)) ?_
    have e : (fun p : Int × Int => !decide (p.2 < 2)) = (fun p => decide (2 ≤ p.2)) := by
     funext p
     by_cases hp : 2 ≤ p.2
     ·rw [decide_eq_true hp, decide_eq_false (by omega)]; rfl
     ·rw [decide_eq_false hp, decide_eq_true (by omega)]; rfl
    rw [e]
    cases (Cmap l l.length).all (fun p => decide (2 ≤ p.2)) with
    | false => rfl
    | true =>
     simp only [Bool.not_true, cond_false, Bool.true_and]
     rw [impl_areSmall l h hl]; rfl
 ·rw [decide_eq_true (by omega), decide_eq_false hl]; rfl
theorem prep_append (c : List UInt8) : ∀ (a b : List (List UInt8)), a ≠ [] → prep c (a ++ b) = prep c a ++ b
 | [], _, h => absurd rfl h
 | x :: r, b, _ => rfl
theorem split_app : ∀ (a b : List UInt8), split (a ++ 47 :: b) = split a ++ split b
 | [], b => by
  show split (47 :: b) = _
  rw [split_slash rfl]; rfl
 | c :: r, b => by
  have ih := split_app r b
  rw [List.cons_append]
  by_cases hc : c = 47
  ·rw [split_slash hc, split_slash hc, ih]; rfl
  ·rw [split_other hc, split_other hc, ih, prep_append _ _ _ (split_ne r)]
theorem names_of {p : List UInt8} (hp : pathOk p = true) : names p = split p := by rw [names_ok, if_pos hp]
def noG (n : NodeT) : NodeT := (n.1, n.2.1, n.2.2.1, n.2.2.2.1, n.2.2.2.2.1, n.2.2.2.2.2.1, 0)
def loneN (l : List NodeT) (i : Nat) : NodeT := cond (decide (mates l (grp l i) l.length < 2)) (noG (nd l i)) (nd l i)
def loneV (l : List NodeT) : List NodeT := (List.range l.length).map (loneN l)
theorem loneV_len (l : List NodeT) : (loneV l).length = l.length := by unfold loneV; simp
theorem loneV_take (l : List NodeT) {i : Nat} (h : i < l.length) : (loneV l).take (i + 1) = (loneV l).take i ++ [loneN l i] := by
 rw [List.take_add_one]
 unfold loneV
 rw [List.getElem?_map, List.getElem?_range h]; rfl
theorem lone_step (l o : List NodeT) {i : Nat} (hi : i < l.length) (ho : o.length = l.length) (h1 : o.take i = (loneV l).take i) (h2 : o.drop i = l.drop i) :
    o.getD i dN = nd l i ∧ (∀ y, y = loneN l i → (o.set i y).length = l.length ∧ (o.set i y).take (i + 1) = (loneV l).take (i + 1) ∧ (o.set i y).drop (i + 1) = l.drop (i + 1)) ∧ (loneN l i = nd l i → o.take (i + 1) = (loneV l).take (i + 1) ∧ o.drop (i + 1) = l.drop (i + 1)) := by
 have hoi : o[i]? = l[i]? := by
  have := congrArg (fun x : List NodeT => x[0]?) h2
  simpa only [List.getElem?_drop, Nat.add_zero] using this
 have hg : o.getD i dN = nd l i := by unfold nd; rw [List.getD_eq_getElem?_getD, List.getD_eq_getElem?_getD, hoi]
 have hd2 : o.drop (i + 1) = l.drop (i + 1) := by rw [← List.drop_drop (i := 1) (j := i) (l := o), ← List.drop_drop (i := 1) (j := i) (l := l), h2]
 refine ⟨hg, ?_, ?_⟩
 ·rintro y rfl
  refine ⟨by rw [List.length_set]; exact ho, ?_, ?_⟩
  ·rw [List.take_add_one, List.take_set_of_le (by omega), List.getElem?_set_self (by omega), loneV_take l hi, h1]; rfl
  ·rw [List.drop_set_of_lt (by omega)]; exact hd2
 ·intro e
  refine ⟨?_, hd2⟩
  rw [List.take_add_one, loneV_take l hi, h1, e, hoi, List.getElem?_eq_getElem hi]
  unfold nd
  rw [List.getD_eq_getElem?_getD, List.getElem?_eq_getElem hi]; rfl
theorem treeS_sorted {l : List NodeT} (h : treeS l = true) : Sorted l := by
 unfold treeS at h
 simp only [Bool.and_eq_true, all_iff] at h
 exact sorted_of (fun i hi => by have := h.2.1 i hi; unfold stepS at this; simp only [Bool.and_eq_true] at this; exact this.2.1)
def fv (l : List NodeT) (p : List UInt8) : Int := cond (treeS l) (atV l p) (-1)
theorem impl_find (l : List NodeT) (h : Small l) (p : List UInt8) : m_impl_Find l p = some (fv l p, ()) := by
 have hl := h.1
 unfold m_impl_Find fv
 rw [impl_treeOk l h, Option.bind_some]
 cases ht : treeS l with
 | false => rfl
 | true =>
  simp only [Bool.not_true, cond_false, cond_true]
  have hsor := treeS_sorted ht
  obtain ⟨i, hpl, he⟩ := impl_place_eq l hsor (by omega) p
  rw [he, Option.bind_some]
  dsimp only
  unfold atV
  rcases atO_spec l p with ⟨k, e, hk, ek⟩ | ⟨e, hno⟩
  ·obtain ⟨rfl, hfo⟩ := found_of hsor hpl hk ek
   rw [e, hfo]; rfl
  ·have hfo : found l p i = false := by
    unfold found
    by_cases hi : i < l.length
    ·rw [beq_eq_false_iff_ne.2 (hno i hi), Bool.and_false]
    ·rw [decide_eq_false hi, Bool.false_and]
   rw [e, hfo]; rfl
def Cur (s : List Int × Int × Int × Unit) : Prop := 0 ≤ s.2.1 ∧ s.2.1 ≤ (s.1.length : Int) ∧ s.1.length ≤ 1048576
theorem and255 (x : Int) : 0 ≤ bitsOf .and .i64 x 255 ∧ bitsOf .and .i64 x 255 ≤ 255 := by
 have h : (BitVec.ofInt 64 x &&& BitVec.ofInt 64 255).toNat ≤ 255 := by rw [BitVec.toNat_and]; exact Nat.and_le_right
 show 0 ≤ IntKind.wrap .i64 ((BitVec.ofInt 64 x &&& BitVec.ofInt 64 255).toNat : Int) ∧ IntKind.wrap .i64 ((BitVec.ofInt 64 x &&& BitVec.ofInt 64 255).toNat : Int) ≤ 255
 rw [wr _ (by omega)]; omega
theorem byte_some (s : List Int × Int × Int × Unit) (h : Cur s) : ∃ b s', m_spec_l01Byte s = some (b, s', ()) ∧ 0 ≤ b ∧ b ≤ 255 ∧ Cur s' := by
 obtain ⟨c, i, x, u⟩ := s
 obtain ⟨h1, h2, h3⟩ := h
 simp only at h1 h2 h3
 unfold m_spec_l01Byte
 rw [if_pos (by decide), if_pos (by decide)]
 dsimp only
 by_cases hl : i < (c.length : Int)
 ·rw [decide_eq_true hl, cond_true, if_pos ⟨h1, hl⟩]
  refine ⟨_, _, rfl, (and255 _).1, (and255 _).2, ?_⟩
  refine ⟨?_, ?_, h3⟩
  ·show 0 ≤ IntKind.wrap .i64 (i + 1); rw [wr _ (by omega)]; omega
  ·show IntKind.wrap .i64 (i + 1) ≤ _; rw [wr _ (by omega)]; show i + 1 ≤ (c.length : Int); omega
 ·rw [decide_eq_false hl, cond_false]
  exact ⟨_, _, rfl, (and255 _).1, (and255 _).2, h1, h2, h3⟩
theorem below_some (n : Int) (hn : 0 < n) (s : List Int × Int × Int × Unit) (h : Cur s) : ∃ b s', m_spec_l01Below n s = some (b, s', ()) ∧ (n ≤ 256 → 0 ≤ b ∧ b < n) ∧ Cur s' := by
 obtain ⟨c, i, x, u⟩ := s
 unfold m_spec_l01Below
 rw [decide_eq_false (show ¬ n ≤ 0 by omega), cond_false]
 by_cases h256 : n ≤ 256
 ·rw [decide_eq_true h256, cond_true]
  obtain ⟨b, s', e, hb1, hb2, hc⟩ := byte_some (c, i, x, ()) h
  obtain ⟨c', i', x', u'⟩ := s'
  simp only
  rw [e, Option.bind_some]
  simp only
  rw [if_pos (by omega)]
  exact ⟨_, _, rfl, fun _ => ⟨Int.tmod_nonneg _ hb1, Int.tmod_lt_of_pos _ hn⟩, hc⟩
 ·rw [decide_eq_false h256, cond_false]
  obtain ⟨b, s1, e, _, _, hc⟩ := byte_some (c, i, x, ()) h
  obtain ⟨c1, i1, x1, u1⟩ := s1
  simp only
  rw [e, Option.bind_some]
  simp only
  obtain ⟨b2, s2, e2, _, _, hc2⟩ := byte_some (c1, i1, x1, ()) hc
  obtain ⟨c2, i2, x2, u2⟩ := s2
  rw [e2, Option.bind_some]
  simp only
  obtain ⟨b3, s3, e3, _, _, hc3⟩ := byte_some (c2, i2, x2, ()) hc2
  obtain ⟨c3, i3, x3, u3⟩ := s3
  rw [e3, Option.bind_some]
  simp only
  obtain ⟨b4, s4, e4, _, _, hc4⟩ := byte_some (c3, i3, x3, ()) hc3
  obtain ⟨c4, i4, x4, u4⟩ := s4
  rw [e4, Option.bind_some]
  simp only
  rw [if_pos (by omega)]
  exact ⟨_, _, rfl, fun h => absurd h h256, hc4⟩
theorem once_some (n : Int) (hn : 0 < n) (s : List Int × Int × Int × Unit) (h : Cur s) : ∃ b s', m_spec_l01Once n s = some (b, s', ()) ∧ Cur s' := by
 obtain ⟨c, i, x, u⟩ := s
 unfold m_spec_l01Once
 obtain ⟨b, s1, e, _, hc⟩ := below_some n hn (c, i, x, ()) h
 obtain ⟨c1, i1, x1, u1⟩ := s1
 simp only
 rw [e, Option.bind_some]
 exact ⟨_, _, rfl, hc⟩
theorem pick_some (l : List (List UInt8)) (hl : 0 < l.length) (hl2 : l.length ≤ 256) (m : Nat) (hm : ∀ x ∈ l, x.length ≤ m) (s : List Int × Int × Int × Unit) (h : Cur s) : ∃ t s', m_spec_l01Pick l s = some (t, s', ()) ∧ t.length ≤ m ∧ Cur s' := by
 obtain ⟨c, i, x, u⟩ := s
 unfold m_spec_l01Pick
 obtain ⟨b, s1, e, hb, hc⟩ := below_some (l.length : Int) (by omega) (c, i, x, ()) h
 obtain ⟨c1, i1, x1, u1⟩ := s1
 obtain ⟨hb1, hb2⟩ := hb (by omega)
 simp only
 rw [e, Option.bind_some]
 simp only
 rw [if_pos ⟨hb1, hb2⟩]
 refine ⟨_, _, rfl, ?_, hc⟩
 have hlt : b.toNat < l.length := by omega
 rw [List.getD_eq_getElem?_getD, List.getElem?_eq_getElem hlt]
 exact hm _ (List.getElem_mem hlt)
theorem new_some (c : List Int) (hc : c.length ≤ 1048576) : ∃ r, m_spec_l01New c = some r ∧ Cur r.2.1 := by
 unfold m_spec_l01New
 refine bind_some' (Q := fun r => r.1.1 = c) (loopC_some' _ (fun n s => ∃ (x : Int) (i : Nat), s = ((c, x, (i : Int), ()), ()) ∧ i ≤ c.length ∧ n = c.length - i) _ ?_ _ c.length _ ⟨_, 0, rfl, by omega, rfl⟩ (by omega)) ?_
 ·rintro n s k ⟨x, i, rfl, hi, rfl⟩ hk
  dsimp only
  by_cases hl : i < c.length
  ·rw [decide_eq_true (show (i : Int) < (c.length : Int) by omega), cond_true, Option.bind_some]
   dsimp only
   cases decide ((i : Int) < 4000) with
   | true =>
    rw [cond_true, if_pos (by omega)]
    exact hk (c.length - (i + 1)) _ (by omega) ⟨_, i + 1, by rw [wr _ (show -9223372036854775808 ≤ (i : Int) + 1 ∧ (i : Int) + 1 ≤ 9223372036854775807 by omega)]; rfl, by omega, rfl⟩
   | false => rw [cond_false]; exact ⟨_, rfl, rfl⟩
  ·rw [decide_eq_false (by omega), cond_false, Option.bind_some]
   exact ⟨_, rfl, rfl⟩
 ·rintro ⟨⟨c', x, u⟩, u2⟩ hq
  have hq' : c' = c := hq
  subst hq'
  exact ⟨_, rfl, by show (0 : Int) ≤ 0; omega, by show (0 : Int) ≤ _; omega, hc⟩
theorem pick_some' (l : List (List UInt8)) (m : Nat) (s : List Int × Int × Int × Unit) (hl : 0 < l.length ∧ l.length ≤ 256 ∧ ∀ x ∈ l, x.length ≤ m) (h : Cur s) : ∃ r, m_spec_l01Pick l s = some r ∧ r.1.length ≤ m ∧ Cur r.2.1 := by
 obtain ⟨t, s', e, ht, hc⟩ := pick_some l hl.1 hl.2.1 m hl.2.2 s h
 exact ⟨_, e, ht, hc⟩
theorem name_some (s : List Int × Int × Int × Unit) (h : Cur s) : ∃ r, m_spec_l02Name s = some r ∧ r.1.length ≤ 10 ∧ Cur r.2.1 := by
 obtain ⟨c, i, x, u⟩ := s
 unfold m_spec_l02Name
 refine bind_some' (pick_some' _ 10 (c, i, x, ()) (by decide) h) ?_
 rintro ⟨t, ⟨c1, i1, x1, u1⟩, u2⟩ ⟨ht, hc⟩
 exact ⟨_, rfl, ht, hc⟩
/-- What is still to be shown of l01Text. -/
def TextOk : Prop := ∀ (n : Int) (s : List Int × Int × Int × Unit), 0 ≤ n → n ≤ 100000 → Cur s → ∃ r, m_spec_l01Text n s = some r ∧ r.1.length ≤ n.toNat ∧ Cur r.2.1
def w64 (n : Int) : Int := (n + 9223372036854775808) % 18446744073709551616 - 9223372036854775808
theorem wrap_w64 (x : Int) : IntKind.wrap .i64 x = w64 x := by
 simp [IntKind.wrap, IntKind.signed, IntKind.bits, w64]; omega
def lcg (h : Int) : Int := w64 (w64 (h * 6364136223846793005) + 1442695040888963407)
def gz (h : Int) : Int := 6364136223846793005 * h + 1442695040888963407
def lit (f : Int → Int) : Nat → Int → Int
 | 0, h => h
 | n + 1, h => lit f n (f h)
theorem it_add (f : Int → Int) (m n : Nat) (h : Int) : lit f (m + n) h = lit f n (lit f m h) := by
 induction m generalizing h with
 | zero => rw [Nat.zero_add]; rfl
 | succ m ih => rw [Nat.succ_add]; exact ih (f h)
def uz : Nat → Int
 | 0 => 1591034055961698251
 | k + 1 => uz k + 2 * 2 ^ k * (uz k * uz k)
def vz : Nat → Int
 | 0 => 721347520444481703
 | k + 1 => vz k + (2 * vz k + 1) * (2 ^ k * uz k)
theorem gz_pow (k : Nat) : ∀ h, lit gz (2 ^ k) h = (1 + 4 * 2 ^ k * uz k) * h + 2 ^ k * (2 * vz k + 1) := by
 induction k with
 | zero => intro h; show gz h = _; unfold gz uz vz; omega
 | succ k ih =>
  intro h
  have e : 2 ^ (k + 1) = 2 ^ k + 2 ^ k := by rw [Nat.pow_succ]; omega
  rw [e, it_add, ih, ih]
  have e2 : (2 : Int) ^ (k + 1) = 2 * 2 ^ k := by rw [Int.pow_succ]; omega
  rw [e2]
  simp only [uz, vz]
  generalize (2 : Int) ^ k = p
  generalize uz k = u
  generalize vz k = v
  grind
theorem gz_reach (h t : Int) (k : Nat) : ∃ n, n < 2 ^ k ∧ ∃ q : Int, lit gz n h = t + 2 ^ k * q := by
 induction k with
 | zero => exact ⟨0, by decide, h - t, by simp [lit]; omega⟩
 | succ k ih =>
  obtain ⟨n, hn, q, hq⟩ := ih
  have e3 : 2 ^ (k + 1) = 2 ^ k + 2 ^ k := by rw [Nat.pow_succ]; omega
  have e2 : (2 : Int) ^ (k + 1) = 2 * 2 ^ k := by rw [Int.pow_succ]; omega
  rcases Int.emod_two_eq q with h0 | h1
  ·refine ⟨n, by omega, q / 2, ?_⟩
   rw [hq, e2]
   have : q = 2 * (q / 2) := by omega
   generalize (2 : Int) ^ k = p
   generalize q / 2 = z at *
   subst this
   grind
  ·refine ⟨n + 2 ^ k, by omega, ?_⟩
   rw [it_add, gz_pow, hq, e2]
   have : q = 2 * (q / 2) + 1 := by omega
   generalize (2 : Int) ^ k = p
   generalize q / 2 = z at *
   generalize uz k = u
   generalize vz k = v
   subst this
   exact ⟨z + 1 + v + 2 * u * (t + p * (2 * z + 1)), by grind⟩
theorem w64_mod (x : Int) : ∃ q, w64 x = x + 18446744073709551616 * q := by
 unfold w64
 exact ⟨-((x + 9223372036854775808) / 18446744073709551616), by omega⟩
theorem w64_congr {x y q : Int} (h : x = y + 18446744073709551616 * q) : w64 x = w64 y := by
 unfold w64; omega
theorem w64_idem (x : Int) : w64 (w64 x) = w64 x := by unfold w64; omega
theorem nx_gz (h : Int) : lcg h = w64 (gz h) := by
 unfold lcg gz
 obtain ⟨q, hq⟩ := w64_mod (h * 6364136223846793005)
 rw [hq]
 exact w64_congr (q := q) (by omega)
theorem gz_wrap (h : Int) : w64 (gz (w64 h)) = w64 (gz h) := by
 obtain ⟨q, hq⟩ := w64_mod h
 exact w64_congr (q := 6364136223846793005 * q) (by rw [hq]; unfold gz; omega)
theorem it_nx (n : Nat) : ∀ h, w64 (lit lcg n h) = w64 (lit gz n h) := by
 have key : ∀ n h, w64 (lit gz n (w64 h)) = w64 (lit gz n h) := by
  intro n
  induction n with
  | zero => intro h; exact w64_idem h
  | succ n ih => intro h; show w64 (lit gz n (gz (w64 h))) = w64 (lit gz n (gz h)); rw [← ih, gz_wrap, ih]
 induction n with
 | zero => intro h; rfl
 | succ n ih =>
  intro h
  show w64 (lit lcg n (lcg h)) = w64 (lit gz n (gz h))
  rw [ih, nx_gz, key]
/-- From every state the sequence comes to every state. -/
theorem nx_reach (h t : Int) (ht : w64 t = t) : ∃ n, n < 18446744073709551616 ∧ lit lcg (n + 1) h = t := by
 obtain ⟨n, hn, q, hq⟩ := gz_reach (gz h) t 64
 refine ⟨n, hn, ?_⟩
 have last : ∀ n h, lit lcg (n + 1) h = lcg (lit lcg n h) := by
  intro n
  induction n with
  | zero => intro h; rfl
  | succ n ih => intro h; exact ih (lcg h)
 have w : w64 (lit lcg (n + 1) h) = lit lcg (n + 1) h := by
  rw [last]; unfold lcg; exact w64_idem _
 rw [← w, it_nx]
 show w64 (lit gz n (gz h)) = t
 rw [hq, ← ht]
 rw [ht]
 conv => rhs; rw [← ht]
 have e : (2 : Int) ^ 64 = 18446744073709551616 := by decide
 rw [e]
 exact w64_congr (q := q) rfl
def lbv (h : Int) : Int := bitsOf BinOp.and IntKind.i64 (bitsOf BinOp.xor IntKind.i64 (Int.fdiv (lcg h) ((2 : Int) ^ min (Int.toNat (33 : Int)) (IntKind.bits IntKind.i64))) (Int.fdiv (lcg h) ((2 : Int) ^ min (Int.toNat (45 : Int)) (IntKind.bits IntKind.i64)))) (255 : Int)
theorem lsix : ∀ d : Nat, d < 6 → Int.tmod (lbv (lit lcg d 33)) 5 ≠ 1 ∧ Int.tmod (lbv (lit lcg d 33)) 5 ≠ 2 := by
 decide +kernel
theorem byte_mv (c : List Int) (i h : Int) (hc : Cur (c, i, h, ())) : ∃ b i' h', m_spec_l01Byte (c, i, h, ()) = some (b, (c, i', h', ()), ()) ∧ 0 ≤ b ∧ b ≤ 255 ∧ Cur (c, i', h', ()) ∧ (i < (c.length : Int) → i < i') ∧ (i = (c.length : Int) → i' = (c.length : Int) ∧ b = lbv h ∧ h' = lcg h) := by
 obtain ⟨h1, h2, h3⟩ := hc
 simp only at h1 h2 h3
 unfold m_spec_l01Byte
 rw [if_pos (by decide), if_pos (by decide)]
 dsimp only
 by_cases hl : i < (c.length : Int)
 ·rw [decide_eq_true hl, cond_true, if_pos ⟨h1, hl⟩]
  refine ⟨_, _, _, rfl, (and255 _).1, (and255 _).2, ⟨?_, ?_, h3⟩, ?_, ?_⟩
  ·show 0 ≤ IntKind.wrap .i64 (i + 1); rw [wr _ (by omega)]; omega
  ·show IntKind.wrap .i64 (i + 1) ≤ _; rw [wr _ (by omega)]; show i + 1 ≤ (c.length : Int); omega
  ·intro _; show i < IntKind.wrap .i64 (i + 1); rw [wr (i + 1) (by omega)]; omega
  ·intro _; omega
 ·rw [decide_eq_false hl, cond_false]
  refine ⟨_, _, _, rfl, (and255 _).1, (and255 _).2, ⟨h1, h2, h3⟩, fun h => absurd h hl, fun he => ⟨he, ?_, ?_⟩⟩
  ·unfold lbv lcg; simp only [← wrap_w64]
  ·unfold lcg; simp only [← wrap_w64]
theorem below_mv (n : Int) (hn : 0 < n) (c : List Int) (i h : Int) (hc : Cur (c, i, h, ())) : ∃ b i' h', m_spec_l01Below n (c, i, h, ()) = some (b, (c, i', h', ()), ()) ∧ 0 ≤ b ∧ b < n ∧ Cur (c, i', h', ()) ∧ (i < (c.length : Int) → i < i') ∧ (i = (c.length : Int) → i' = (c.length : Int) ∧ (n ≤ 256 → b = Int.tmod (lbv h) n ∧ h' = lcg h) ∧ (256 < n → h' = lit lcg 4 h)) := by
 unfold m_spec_l01Below
 rw [decide_eq_false (show ¬ n ≤ 0 by omega), cond_false]
 by_cases h256 : n ≤ 256
 ·rw [decide_eq_true h256, cond_true]
  obtain ⟨b, i1, x1, e, hb1, hb2, hc1, m1, f1⟩ := byte_mv c i h hc
  dsimp only
  rw [e, Option.bind_some]
  dsimp only
  rw [if_pos (by omega)]
  refine ⟨_, _, _, rfl, Int.tmod_nonneg _ hb1, Int.tmod_lt_of_pos _ hn, hc1, m1, fun he => ?_⟩
  obtain ⟨g1, g2, g3⟩ := f1 he
  exact ⟨g1, fun _ => ⟨by rw [g2], g3⟩, fun h => by omega⟩
 ·rw [decide_eq_false h256, cond_false]
  obtain ⟨b1, i1, x1, e1, hb1, hb1', hc1, m1, f1⟩ := byte_mv c i h hc
  obtain ⟨b2, i2, x2, e2, hb2, hb2', hc2, m2, f2⟩ := byte_mv c i1 x1 hc1
  obtain ⟨b3, i3, x3, e3, hb3, hb3', hc3, m3, f3⟩ := byte_mv c i2 x2 hc2
  obtain ⟨b4, i4, x4, e4, hb4, hb4', hc4, m4, f4⟩ := byte_mv c i3 x3 hc3
  dsimp only
  rw [e1, Option.bind_some]
  dsimp only
  rw [e2, Option.bind_some]
  dsimp only
  rw [e3, Option.bind_some]
  dsimp only
  rw [e4, Option.bind_some]
  dsimp only
  rw [if_pos (by omega)]
  have z : 0 ≤ IntKind.wrap IntKind.i64 (IntKind.wrap IntKind.i64 (IntKind.wrap IntKind.i64 (IntKind.wrap IntKind.i64 (b1 * (16777216 : Int)) + IntKind.wrap IntKind.i64 (b2 * (65536 : Int))) + IntKind.wrap IntKind.i64 (b3 * (256 : Int))) + b4) := by
   rw [wr (b1 * 16777216) (by omega), wr (b2 * 65536) (by omega), wr (b3 * 256) (by omega), wr (b1 * 16777216 + b2 * 65536) (by omega), wr (b1 * 16777216 + b2 * 65536 + b3 * 256) (by omega), wr _ (by omega)]
   omega
  refine ⟨_, _, _, rfl, Int.tmod_nonneg _ z, Int.tmod_lt_of_pos _ hn, hc4, fun hl => ?_, fun he => ?_⟩
  ·have := m1 hl
   have k2 : i1 ≤ i2 := by
    by_cases q : i1 < (c.length : Int)
    ·have := m2 q; omega
    ·have q2 : i1 ≤ (c.length : Int) := hc1.2.1; have := (f2 (by omega)).1; omega
   have k3 : i2 ≤ i3 := by
    by_cases q : i2 < (c.length : Int)
    ·have := m3 q; omega
    ·have q2 : i2 ≤ (c.length : Int) := hc2.2.1; have := (f3 (by omega)).1; omega
   have k4 : i3 ≤ i4 := by
    by_cases q : i3 < (c.length : Int)
    ·have := m4 q; omega
    ·have q2 : i3 ≤ (c.length : Int) := hc3.2.1; have := (f4 (by omega)).1; omega
   omega
  ·obtain ⟨g1, _, g1'⟩ := f1 he
   obtain ⟨g2, _, g2'⟩ := f2 g1
   obtain ⟨g3, _, g3'⟩ := f3 g2
   obtain ⟨g4, _, g4'⟩ := f4 g3
   exact ⟨g4, fun h => absurd h h256, fun _ => by rw [g4', g3', g2', g1']; rfl⟩
theorem below_keep {n : Int} {c : List Int} {i h : Int} {b i' h' : Int} (hc : Cur (c, i, h, ())) (m : i < (c.length : Int) → i < i') (f : i = (c.length : Int) → i' = (c.length : Int) ∧ (n ≤ 256 → b = Int.tmod (lbv h) n ∧ h' = lcg h) ∧ (256 < n → h' = lit lcg 4 h)) : i ≤ i' := by
 by_cases q : i < (c.length : Int)
 ·have := m q; omega
 ·have := hc.2.1; simp only at this; have := (f (by omega)).1; omega
/-- One round without a byte more: the cursor is behind where lit was; at its end the number has moved by one, three or lsix. -/
def NextP (c : List Int) (i h i' h' : Int) : Prop :=
 (i < (c.length : Int) → i < i') ∧ (i = (c.length : Int) → i' = (c.length : Int) ∧ (Int.tmod (lbv h) 5 = 1 ∨ Int.tmod (lbv h) 5 = 2) ∧ (h' = lit lcg 1 h ∨ h' = lit lcg 3 h ∨ h' = lit lcg 6 h))
abbrev TS := (Unit × Int × Unit × Unit) × (List Int × Int × Int × Unit) × List Int × Unit
def BR (n : Int) (out : List Int) (c : List Int) (i h : Int) (r : TS) : Prop :=
 ∃ out' i' h', r = (((), n, (), ()), (c, i', h', ()), out', ()) ∧ Cur (c, i', h', ()) ∧ ((out.length < out'.length ∧ out'.length ≤ out.length + 30) ∨ (out' = out ∧ NextP c i h i' h'))
def Rem (q : Nat) (h : Int) : Prop := ∃ (N p : Nat) (h0 : Int), lit lcg (N + 1) h0 = 33 ∧ h = lit lcg p h0 ∧ p + q = N + 6
def Okb (B : Nat) (c : List Int) (i h : Int) : Prop := (i < (c.length : Int) → B = 18446744073709551622 + (c.length - i.toNat)) ∧ (i = (c.length : Int) → Rem B h ∧ B < 18446744073709551622) ∧ B < 18446744073711648768
theorem okb_enter (c : List Int) (i h : Int) (hc : Cur (c, i, h, ())) : ∃ B, Okb B c i h := by
 obtain ⟨h1, h2, h3⟩ := hc
 simp only at h1 h2 h3
 by_cases hl : i < (c.length : Int)
 ·exact ⟨18446744073709551622 + (c.length - i.toNat), fun _ => rfl, fun h => by omega, by omega⟩
 ·obtain ⟨N, hN, e⟩ := nx_reach h 33 (by unfold w64; omega)
  exact ⟨N + 6, fun h => absurd h hl, fun _ => ⟨⟨N, 0, h, e, rfl, by omega⟩, by omega⟩, by omega⟩
theorem okb_step {c : List Int} {i h i' h' : Int} {B : Nat} (hc' : Cur (c, i', h', ())) (hB : Okb B c i h) (hc : Cur (c, i, h, ())) (hn : NextP c i h i' h') : ∃ B', B' < B ∧ Okb B' c i' h' := by
 obtain ⟨b1, b2, b3⟩ := hB
 obtain ⟨h1, h2, h3⟩ := hc
 have hcc := hc'
 obtain ⟨g1, g2, g3⟩ := hc'
 simp only at h1 h2 h3 g1 g2
 by_cases hl : i < (c.length : Int)
 ·have hm := hn.1 hl
  have hb := b1 hl
  by_cases hl' : i' < (c.length : Int)
  ·exact ⟨18446744073709551622 + (c.length - i'.toNat), by omega, fun _ => rfl, fun h => by omega, by omega⟩
  ·obtain ⟨B', hB'⟩ := okb_enter c i' h' hcc
   exact ⟨B', by have := (hB'.2.1 (by omega)).2; omega, hB'⟩
 ·have he : i = (c.length : Int) := by omega
  obtain ⟨e', hb, hh⟩ := hn.2 he
  obtain ⟨⟨N, p, h0, r1, r2, r3⟩, b4⟩ := b2 he
  have hp : p ≤ N := by
   apply Classical.byContradiction
   intro hp
   have e : h = lit lcg (p - (N + 1)) 33 := by
    rw [r2]
    conv => lhs; rw [show p = (N + 1) + (p - (N + 1)) by omega, it_add, r1]
   have := lsix (p - (N + 1)) (by omega)
   rw [← e] at this
   rcases hb with hb | hb
   ·exact this.1 hb
   ·exact this.2 hb
  rcases hh with hh | hh | hh
  ·exact ⟨B - 1, by omega, fun h => by omega, fun _ => ⟨⟨N, p + 1, h0, r1, by rw [hh, it_add, ← r2], by omega⟩, by omega⟩, by omega⟩
  ·exact ⟨B - 3, by omega, fun h => by omega, fun _ => ⟨⟨N, p + 3, h0, r1, by rw [hh, it_add, ← r2], by omega⟩, by omega⟩, by omega⟩
  ·exact ⟨B - 6, by omega, fun h => by omega, fun _ => ⟨⟨N, p + 6, h0, r1, by rw [hh, it_add, ← r2], by omega⟩, by omega⟩, by omega⟩
theorem big100 {m : Nat} (h : m < 1267650600228229401496703205376) : m < 2 ^ 100 := h
theorem text_some : TextOk := by
 rintro n ⟨c, i, x, u⟩ h0 hn hc
 unfold m_spec_l01Text
 obtain ⟨B0, hB0⟩ := okb_enter c i x hc
 refine bind_some' (Q := fun r => r.1.1 = n ∧ n.toNat ≤ r.2.2.1.length ∧ Cur r.2.1) (loopC_some' _ (fun m s => ∃ (out : List Int) (i x : Int), s = (((), n, (), ()), (c, i, x, ()), out, ()) ∧ Cur (c, i, x, ()) ∧ out.length ≤ n.toNat + 30 ∧ ∃ B, Okb B c i x ∧ m = (n.toNat - out.length) * 18446744073711648768 + B) _ ?_ _ ((n.toNat - 0) * 18446744073711648768 + B0) _ ⟨[], i, x, rfl, hc, by show 0 ≤ _; omega, B0, hB0, rfl⟩ (big100 (by have := hB0.2.2; omega))) ?_
 ·rintro m s k ⟨out, i, x, rfl, hc, hl, B, hB, rfl⟩ hk
  dsimp only
  by_cases hlt : (out.length : Int) < n
  ·rw [decide_eq_true hlt, cond_true]
   obtain ⟨r, i1, x1, e1, hr0, hr5, hc1, m1, f1⟩ := below_mv 5 (by omega) c i x hc
   rw [e1, Option.bind_some]
   dsimp only
   refine bind_some' (Q := BR n out c i x) ?_ ?_
   ·by_cases q0 : r = 0
    ·rw [show (r == (0 : Int)) = true by simp [q0], cond_true]
     obtain ⟨b, i2, x2, e2, hb0, hb5, hc2, m2, f2⟩ := byte_mv c i1 x1 hc1
     rw [e2, Option.bind_some]
     dsimp only
     rw [if_pos (by simp only [List.length_cons, List.length_nil]; omega)]
     exact ⟨_, rfl, _, _, _, rfl, hc2, .inl (by simp only [List.length_append, List.length_cons, List.length_nil]; omega)⟩
    ·rw [show (r == (0 : Int)) = false by simp [q0], cond_false]
     refine bind_some' (Q := BR n out c i x) ?_ (by rintro _ ⟨o, i', x', rfl, z⟩; exact ⟨_, rfl, o, i', x', rfl, z⟩)
     by_cases q1 : r = 1
     ·rw [show (r == (1 : Int)) = true by simp [q1], cond_true]
      obtain ⟨kk, i2, x2, e2, hb0, hb5, hc2, m2, f2⟩ := below_mv 9 (by omega) c i1 x1 hc1
      rw [e2, Option.bind_some]
      dsimp only
      obtain ⟨y, i3, x3, e3, hy0, hy5, hc3, m3, f3⟩ := below_mv 4 (by omega) c i2 x2 hc2
      rw [e3, Option.bind_some]
      dsimp only
      have k2 := below_keep hc1 m2 f2
      have k3 := below_keep hc2 m3 f3
      refine bind_some' (Q := BR n out c i x) (loopC_some' _ (fun m s => ∃ (o : List Int) (j : Nat), s = (((), n, (), kk, _, (j : Int), ()), (c, i3, x3, ()), o, ()) ∧ o.length = out.length + j ∧ (j = 0 → o = out) ∧ (j : Int) ≤ kk ∧ m = kk.toNat - j) _ ?_ _ kk.toNat _ ⟨out, 0, rfl, by omega, fun _ => rfl, by omega, rfl⟩ (big100 (by omega))) (by rintro _ ⟨o, i', x', rfl, z⟩; exact ⟨_, rfl, o, i', x', rfl, z⟩)
      rintro m s k ⟨o, j, rfl, ho, hz, hj, rfl⟩ hk
      dsimp only
      by_cases hjl : (j : Int) < kk
      ·rw [decide_eq_true hjl, cond_true, if_pos (by simp only [List.length_cons, List.length_nil]; omega)]
       exact hk (kk.toNat - (j + 1)) _ (by omega) ⟨_, j + 1, by rw [wr _ (show -9223372036854775808 ≤ (j : Int) + 1 ∧ (j : Int) + 1 ≤ 9223372036854775807 by omega)]; rfl, by simp only [List.length_append, List.length_cons, List.length_nil]; omega, fun h => by omega, by omega, rfl⟩
      ·rw [decide_eq_false hjl, cond_false]
       refine ⟨_, rfl, o, i3, x3, rfl, hc3, ?_⟩
       by_cases jz : j = 0
       ·refine .inr ⟨hz jz, fun hl => ?_, fun he => ?_⟩
        ·have := m1 hl; omega
        ·obtain ⟨g1, g2, _⟩ := f1 he
         obtain ⟨g3, g4, _⟩ := f2 g1
         obtain ⟨g5, g6, _⟩ := f3 g3
         exact ⟨g5, .inl (by rw [← (g2 (by omega)).1]; exact q1), .inr (.inl (by rw [(g6 (by omega)).2, (g4 (by omega)).2, (g2 (by omega)).2]; rfl))⟩
       ·exact .inl (by omega)
     ·rw [show (r == (1 : Int)) = false by simp [q1], cond_false]
      refine bind_some' (Q := BR n out c i x) ?_ (by rintro _ ⟨o, i', x', rfl, z⟩; exact ⟨_, rfl, o, i', x', rfl, z⟩)
      by_cases q2 : r = 2
      ·rw [show (r == (2 : Int)) = true by simp [q2], cond_true]
       refine bind_some' (Q := BR n out c i x) ?_ (by rintro _ ⟨o, i', x', rfl, z⟩; exact ⟨_, rfl, o, i', x', rfl, z⟩)
       by_cases q3 : (out.length : Int) > 0
       ·rw [decide_eq_true q3, cond_true]
        obtain ⟨f, i2, x2, e2, hb0, hb5, hc2, m2, f2⟩ := below_mv (out.length : Int) q3 c i1 x1 hc1
        rw [e2, Option.bind_some]
        dsimp only
        obtain ⟨kk, i3, x3, e3, hy0, hy5, hc3, m3, f3⟩ := below_mv 20 (by omega) c i2 x2 hc2
        rw [e3, Option.bind_some]
        dsimp only
        have k2 := below_keep hc1 m2 f2
        have k3 := below_keep hc2 m3 f3
        refine bind_some' (Q := BR n out c i x) (loopC_some' _ (fun m s => ∃ (o : List Int) (j : Nat), s = (((), n, (), f, kk, (j : Int), ()), (c, i3, x3, ()), o, ()) ∧ o.length = out.length + j ∧ (j = 0 → o = out) ∧ (j : Int) ≤ kk ∧ m = kk.toNat - j) _ ?_ _ kk.toNat _ ⟨out, 0, rfl, by omega, fun _ => rfl, by omega, rfl⟩ (big100 (by omega))) (by rintro _ ⟨o, i', x', rfl, z⟩; exact ⟨_, rfl, o, i', x', rfl, z⟩)
        rintro m s k ⟨o, j, rfl, ho, hz, hj, rfl⟩ hk
        dsimp only
        have hw : IntKind.wrap IntKind.i64 (f + (j : Int)) = f + (j : Int) := wr _ (by omega)
        by_cases hjl : (j : Int) < kk
        ·rw [decide_eq_true hjl, cond_true, Option.bind_some]
         dsimp only
         rw [hw, decide_eq_true (show f + (j : Int) < (o.length : Int) by omega), cond_true, if_pos (by omega), if_pos (by omega), if_pos (by simp only [List.length_cons, List.length_nil]; omega)]
         exact hk (kk.toNat - (j + 1)) _ (by omega) ⟨_, j + 1, by rw [wr _ (show -9223372036854775808 ≤ (j : Int) + 1 ∧ (j : Int) + 1 ≤ 9223372036854775807 by omega)]; rfl, by simp only [List.length_append, List.length_cons, List.length_nil]; omega, fun h => by omega, by omega, rfl⟩
        ·rw [decide_eq_false hjl, cond_false, Option.bind_some]
         dsimp only
         rw [cond_false]
         refine ⟨_, rfl, o, i3, x3, rfl, hc3, ?_⟩
         by_cases jz : j = 0
         ·refine .inr ⟨hz jz, fun hl => ?_, fun he => ?_⟩
          ·have := m1 hl; omega
          ·obtain ⟨g1, g2, _⟩ := f1 he
           obtain ⟨g3, g4, g4'⟩ := f2 g1
           obtain ⟨g5, g6, _⟩ := f3 g3
           refine ⟨g5, .inr (by rw [← (g2 (by omega)).1]; exact q2), ?_⟩
           by_cases big : (out.length : Int) ≤ 256
           ·exact .inr (.inl (by rw [(g6 (by omega)).2, (g4 big).2, (g2 (by omega)).2]; rfl))
           ·exact .inr (.inr (by rw [(g6 (by omega)).2, g4' (by omega), (g2 (by omega)).2]; rfl))
         ·exact .inl (by omega)
       ·rw [decide_eq_false q3, cond_false]
        refine ⟨_, rfl, out, i1, x1, rfl, hc1, .inr ⟨rfl, m1, fun he => ?_⟩⟩
        obtain ⟨g1, g2, _⟩ := f1 he
        exact ⟨g1, .inr (by rw [← (g2 (by omega)).1]; exact q2), .inl (by rw [(g2 (by omega)).2]; rfl)⟩
      ·rw [show (r == (2 : Int)) = false by simp [q2], cond_false]
       obtain ⟨b, i2, x2, e2, hb0, hb5, hc2, m2, f2⟩ := below_mv 26 (by omega) c i1 x1 hc1
       rw [e2, Option.bind_some]
       dsimp only
       rw [if_pos (by simp only [List.length_cons, List.length_nil]; omega)]
       exact ⟨_, rfl, _, _, _, rfl, hc2, .inl (by simp only [List.length_append, List.length_cons, List.length_nil]; omega)⟩
   ·rintro _ ⟨o, i', x', rfl, hc', z⟩
    dsimp only
    rcases z with ⟨z1, z2⟩ | ⟨rfl, z⟩
    ·obtain ⟨B', hB'⟩ := okb_enter c i' x' hc'
     refine hk _ _ ?_ ⟨o, i', x', rfl, hc', by omega, B', hB', rfl⟩
     have := hB'.2.2
     omega
    ·obtain ⟨B', hlt', hB'⟩ := okb_step hc' hB hc z
     exact hk _ _ (by omega) ⟨o, i', x', rfl, hc', hl, B', hB', rfl⟩
  ·rw [decide_eq_false hlt, cond_false]
   exact ⟨_, rfl, rfl, by show n.toNat ≤ out.length; omega, hc⟩
 ·rintro ⟨⟨n', u1⟩, ⟨c1, i1, x1, u2⟩, o, u3⟩ ⟨hn', ho, hc'⟩
  have hn' : n' = n := hn'
  subst hn'
  have ho : n'.toNat ≤ o.length := ho
  dsimp only
  rw [if_pos (by omega)]
  refine ⟨_, rfl, ?_, hc'⟩
  simp only [List.length_map, List.length_drop, List.length_take]
  omega
abbrev CurT := List Int × Int × Int × Unit
theorem pick_mem (l : List (List UInt8)) (Q : List UInt8 → Prop) (s : CurT) (hl : 0 < l.length ∧ l.length ≤ 256 ∧ ∀ x ∈ l, Q x) (h : Cur s) : ∃ r, m_spec_l01Pick l s = some r ∧ Q r.1 ∧ Cur r.2.1 := by
 obtain ⟨c, i, x, u⟩ := s
 unfold m_spec_l01Pick
 obtain ⟨b, s1, e, hb, hc⟩ := below_some (l.length : Int) (by omega) (c, i, x, ()) h
 obtain ⟨c1, i1, x1, u1⟩ := s1
 obtain ⟨hb1, hb2⟩ := hb (by omega)
 simp only
 rw [e, Option.bind_some]
 simp only
 rw [if_pos ⟨hb1, hb2⟩]
 refine ⟨_, rfl, ?_, hc⟩
 exact hl.2.2 _ (getD_mem _ (by omega))
theorem once_some' (n : Int) (hn : 0 < n) (s : CurT) (h : Cur s) : ∃ r, m_spec_l01Once n s = some r ∧ Cur r.2.1 := by
 obtain ⟨b, s', e, hc⟩ := once_some n hn s h
 exact ⟨_, e, hc⟩
theorem below_some' (n : Int) (hn : 0 < n) (hn2 : n ≤ 256) (s : CurT) (h : Cur s) : ∃ r, m_spec_l01Below n s = some r ∧ (0 ≤ r.1 ∧ r.1 < n) ∧ Cur r.2.1 := by
 obtain ⟨b, s', e, hb, hc⟩ := below_some n hn s h
 exact ⟨_, e, hb hn2, hc⟩
def SmT (x : NodeT) : Prop := x.1.length ≤ 200 ∧ x.2.2.2.2.1.length ≤ 100 ∧ x.2.2.2.2.2.1.length ≤ 100
def AllS (o : List NodeT) : Prop := ∀ x ∈ o, SmT x
theorem smT_dN : SmT dN := ⟨Nat.zero_le _, Nat.zero_le _, Nat.zero_le _⟩
theorem allS_get {o : List NodeT} (h : AllS o) (k : Nat) : SmT (o.getD k dN) := by
 by_cases hk : k < o.length
 ·exact h _ (getD_mem dN hk)
 ·rw [List.getD_eq_getElem?_getD, List.getElem?_eq_none (by omega)]; exact smT_dN
theorem allS_set {o : List NodeT} (h : AllS o) (k : Nat) {y : NodeT} (hy : SmT y) : AllS (o.set k y) := by
 intro x hx
 rcases List.mem_or_eq_of_mem_set hx with hx | rfl
 ·exact h x hx
 ·exact hy
theorem size_some (c : List Int) (hc : c.length ≤ 1048576) : ∃ r, m_spec_l01Size c 14 = some r ∧ (1 ≤ r.1 ∧ r.1 ≤ 14) := by
 unfold m_spec_l01Size
 have hd : Int.tdiv (c.length : Int) 20 = ((c.length / 20 : Nat) : Int) := rfl
 rw [if_pos (by decide), hd, wr ((c.length / 20 : Nat) : Int) (by omega), wr ((2 : Int) + ((c.length / 20 : Nat) : Int)) (by omega)]
 by_cases h : (2 : Int) + ((c.length / 20 : Nat) : Int) > 14
 ·rw [decide_eq_true h]; exact ⟨_, rfl, by decide, by decide⟩
 ·rw [decide_eq_false h]; exact ⟨_, rfl, by show 1 ≤ (2 : Int) + _; omega, by show (2 : Int) + _ ≤ 14; omega⟩
theorem loneV_allS {l : List NodeT} (h : AllS l) : AllS (loneV l) := by
 intro x hx
 unfold loneV at hx
 obtain ⟨i, hi, rfl⟩ := List.mem_map.1 hx
 rw [List.mem_range] at hi
 unfold loneN
 have := allS_get h i
 cases decide (mates l (grp l i) l.length < 2)
 ·exact this
 ·exact this
theorem spec_lone2 (l : List NodeT) (hl : l.length ≤ 1048576) : m_spec_l10Lone l = some ((), loneV l, ()) := by
 unfold m_spec_l10Lone
 rw [if_pos (by simp only [nilOf, List.length_nil]; omega)]
 refine bind_eq (loopC_inv _ (fun n t => ∃ (i : Nat) (o : List NodeT), t = ((l, (), (i : Int), ()), o, ()) ∧ i ≤ l.length ∧ o.length = l.length ∧ o.take i = (loneV l).take i ∧ o.drop i = l.drop i ∧ n = l.length - i)
  (fun _ => some (((), ()), loneV l, ())) ?_ _ l.length _ ⟨0, l, rfl, by omega, rfl, rfl, rfl, rfl⟩ (by omega)) rfl
 rintro n t k ⟨i, o, rfl, hi, ho, h1, h2, rfl⟩ hk
 dsimp only
 by_cases hlt : i < l.length
 ·obtain ⟨hg, hset, hkeep⟩ := lone_step l o hlt ho h1 h2
  rw [decide_eq_true (by omega), cond_true]
  refine bind_eq (loopC_inv _ (fun n t => ∃ q : Nat, t = ((l, (), (i : Int), (mates l (grp l i) q : Int), (q : Int), ()), o, ()) ∧ q ≤ l.length ∧ n = l.length - q)
   (fun _ => some ((l, (), (i : Int), (mates l (grp l i) l.length : Int), ()), o, ())) ?_ _ l.length _ ⟨0, rfl, by omega, rfl⟩ (by omega)) ?_
  ·rintro n t kk ⟨q, rfl, hq, rfl⟩ hkk
   dsimp only
   by_cases hlq : q < l.length
   ·rw [decide_eq_true (by omega), cond_true, if_pos (by omega), if_pos (by omega)]
    have hm := mates_le l (grp l i) q
    refine bind_eq (x := ((l, (), (i : Int), (mates l (grp l i) (q + 1) : Int), (q : Int), ()), o, ())) ?_ ?_
    ·rw [Int.toNat_natCast, Int.toNat_natCast]
     show (bif grp l q == grp l i then _ else _) = _
     cases hgq : grp l q == grp l i with
     | true => rw [mates_yes (by simpa using hgq), cond_true, wr1 _ (by omega)]
     | false => rw [mates_no (by simpa using hgq)]; rfl
    ·dsimp only
     rw [wr1 q (by omega)]
     exact hkk (l.length - (q + 1)) _ (by omega) ⟨q + 1, rfl, by omega, rfl⟩
   ·have : q = l.length := by omega
    subst this
    rw [decide_eq_false (by omega)]; rfl
  ·dsimp only
   by_cases hc : mates l (grp l i) l.length < 2
   ·have e : loneN l i = noG (nd l i) := by unfold loneN; rw [decide_eq_true hc]; rfl
    obtain ⟨g1, g2, g3⟩ := hset _ e.symm
    rw [decide_eq_true (show (mates l (grp l i) l.length : Int) < 2 by omega), cond_true, if_pos (by omega), if_pos (by rw [Int.toNat_natCast]; omega), Option.bind_some]
    dsimp only
    rw [wr1 i (by omega), Int.toNat_natCast]
    have : o.set i ((o.getD i dN).1, (o.getD i dN).2.1, (o.getD i dN).2.2.1, (o.getD i dN).2.2.2.1, (o.getD i dN).2.2.2.2.1, (o.getD i dN).2.2.2.2.2.1, 0) = o.set i (noG (nd l i)) := by rw [hg]; rfl
    refine (congrArg k (?_ : _ = ((l, (), ((i + 1 : Nat) : Int), ()), o.set i (noG (nd l i)), ()))).trans ?_
    ·exact congrArg (fun z => ((l, (), ((i + 1 : Nat) : Int), ()), z, ())) this
    ·exact hk (l.length - (i + 1)) _ (by omega) ⟨i + 1, _, rfl, by omega, g1, g2, g3, rfl⟩
   ·have e : loneN l i = nd l i := by unfold loneN; rw [decide_eq_false hc]; rfl
    obtain ⟨g2, g3⟩ := hkeep e
    rw [decide_eq_false (show ¬(mates l (grp l i) l.length : Int) < 2 by omega), cond_false, Option.bind_some]
    dsimp only
    rw [wr1 i (by omega)]
    exact hk (l.length - (i + 1)) _ (by omega) ⟨i + 1, o, rfl, by omega, ho, g2, g3, rfl⟩
 ·have : i = l.length := by omega
  subst this
  rw [decide_eq_false (by omega), cond_false]
  rw [List.take_of_length_le (by omega), List.take_of_length_le (by rw [loneV_len]; omega)] at h1
  rw [h1]
def neP (p : List UInt8) (x : NodeT) : Bool := !(x.1 == p)
def ltP (p : List UInt8) (x : NodeT) : Bool := Op.bytesLess x.1 p
def putV (l : List NodeT) (n : NodeT) : List NodeT := l.filter (ltP n.1) ++ n :: l.filter (fun x => !ltP n.1 x && neP n.1 x)
theorem nd_pth (l : List NodeT) (i : Nat) : (l.getD i dN).1 = pth l i := rfl
theorem mem_take_nd {l : List NodeT} {i : Nat} {x : NodeT} (h : x ∈ l.take i) : ∃ k, k < i ∧ k < l.length ∧ x = l.getD k dN := by
 obtain ⟨k, hk, e⟩ := List.mem_iff_getElem.1 h
 rw [List.length_take] at hk
 refine ⟨k, by omega, by omega, ?_⟩
 rw [← e, List.getElem_take, List.getD_eq_getElem?_getD, List.getElem?_eq_getElem (by omega)]; rfl
theorem mem_drop_nd {l : List NodeT} {i : Nat} {x : NodeT} (h : x ∈ l.drop i) : ∃ k, i ≤ k ∧ k < l.length ∧ x = l.getD k dN := by
 obtain ⟨k, hk, e⟩ := List.mem_iff_getElem.1 h
 rw [List.length_drop] at hk
 refine ⟨i + k, by omega, by omega, ?_⟩
 rw [← e, List.getElem_drop, List.getD_eq_getElem?_getD, List.getElem?_eq_getElem (by omega)]; rfl
theorem putV_at {l : List NodeT} {n : NodeT} {j : Nat} (hp : Place l n.1 j) : putV l n = l.take j ++ n :: (l.drop j).filter (neP n.1) := by
 obtain ⟨h1, h2, h3⟩ := hp
 unfold putV
 have hsplit : l = l.take j ++ l.drop j := (List.take_append_drop j l).symm
 have a1 : (l.take j).filter (ltP n.1) = l.take j := List.filter_eq_self.2 fun x hx => by
  obtain ⟨k, hk, _, rfl⟩ := mem_take_nd hx
  exact h2 k hk
 have a2 : (l.drop j).filter (ltP n.1) = [] := List.filter_eq_nil_iff.2 fun x hx => by
  obtain ⟨k, hk, hkl, rfl⟩ := mem_drop_nd hx
  have := h3 k hk hkl
  unfold ltP; rw [nd_pth, this]; simp
 have a3 : (l.take j).filter (fun x => !ltP n.1 x && neP n.1 x) = [] := List.filter_eq_nil_iff.2 fun x hx => by
  obtain ⟨k, hk, _, rfl⟩ := mem_take_nd hx
  have := h2 k hk
  unfold ltP; rw [nd_pth, this]; simp
 have a4 : (l.drop j).filter (fun x => !ltP n.1 x && neP n.1 x) = (l.drop j).filter (neP n.1) := List.filter_congr fun x hx => by
  obtain ⟨k, hk, hkl, rfl⟩ := mem_drop_nd hx
  have := h3 k hk hkl
  unfold ltP; rw [nd_pth, this]; rfl
 have e1 : l.filter (ltP n.1) = l.take j := by
  conv => lhs; rw [hsplit]
  rw [List.filter_append, a1, a2, List.append_nil]
 have e2 : l.filter (fun x => !ltP n.1 x && neP n.1 x) = (l.drop j).filter (neP n.1) := by
  conv => lhs; rw [hsplit]
  rw [List.filter_append, a3, a4, List.nil_append]
 rw [e1, e2]
theorem filter_one {α : Type} (f : α → Bool) (x : α) : List.filter f [x] = cond (f x) [x] [] := by
 cases h : f x <;> simp [h]
def outP (l : List NodeT) (n : NodeT) (j i : Nat) : List NodeT := if i ≤ j then l.take i else l.take j ++ n :: ((l.drop j).take (i - j)).filter (neP n.1)
theorem outP_len (l : List NodeT) (n : NodeT) (j i : Nat) : (outP l n j i).length ≤ i + 1 := by
 unfold outP
 split
 ·rw [List.length_take]; omega
 ·have := List.length_filter_le (neP n.1) ((l.drop j).take (i - j))
  rw [List.length_append, List.length_cons, List.length_take]
  rw [List.length_take] at this
  omega
theorem spec_put_eq (l : List NodeT) (hs : Sorted l) (hl : l.length ≤ 1048575) (n : NodeT) : m_spec_l10Put l n = some ((), putV l n, ()) := by
 unfold m_spec_l10Put
 obtain ⟨j, hp, _⟩ := impl_place_eq l hs (by omega) n.1
 rw [putV_at hp]
 obtain ⟨h1, h2, h3⟩ := hp
 refine bind_eq (x := (((), (), decide (j < l.length), ()), (n.1, n.2.1, n.2.2.1, n.2.2.2.1, n.2.2.2.2.1, n.2.2.2.2.2.1, n.2.2.2.2.2.2, ()), outP l n j l.length, ())) (loopC_inv _ (fun c t => ∃ i : Nat, t = ((l, (), (), decide (j < i), (i : Int), ()), (n.1, n.2.1, n.2.2.1, n.2.2.2.1, n.2.2.2.2.1, n.2.2.2.2.2.1, n.2.2.2.2.2.2, ()), outP l n j i, ()) ∧ i ≤ l.length ∧ c = l.length - i)
  (fun _ => some (((), (), decide (j < l.length), ()), (n.1, n.2.1, n.2.2.1, n.2.2.2.1, n.2.2.2.2.1, n.2.2.2.2.2.1, n.2.2.2.2.2.2, ()), outP l n j l.length, ())) ?_ _ l.length _ ⟨0, ?_, by omega, rfl⟩ (by omega)) ?_
 ·rintro c t k ⟨i, rfl, hi, rfl⟩ hk
  dsimp only
  by_cases hlt : i < l.length
  ·have hx : (0 : Int) ≤ (i : Int) ∧ (i : Int) < (l.length : Int) := by omega
   rw [decide_eq_true (show (i : Int) < (l.length : Int) by omega), cond_true]
   simp only [if_pos hx, Int.toNat_natCast]
   have hol := outP_len l n j i
   refine bind_eq (x := ((l, (), (), decide (j < i), (i : Int), decide (i = j), ()), (n.1, n.2.1, n.2.2.1, n.2.2.2.1, n.2.2.2.2.1, n.2.2.2.2.2.1, n.2.2.2.2.2.2, ()), outP l n j i, ())) ?_ ?_
   ·rcases Nat.lt_trichotomy i j with h | h | h
    ·rw [decide_eq_false (show ¬j < i by omega), decide_eq_false (show ¬i = j by omega), Bool.not_false, cond_true]
     show some ((l, (), (), false, (i : Int), !Op.bytesLess (pth l i) n.1, ()), _) = _
     rw [h2 i h]; rfl
    ·rw [decide_eq_false (show ¬j < i by omega), decide_eq_true h, Bool.not_false, cond_true]
     show some ((l, (), (), false, (i : Int), !Op.bytesLess (pth l i) n.1, ()), _) = _
     rw [h3 i (by omega) hlt]; rfl
    ·rw [decide_eq_true (show j < i by omega), decide_eq_false (show ¬i = j by omega)]; rfl
   dsimp only
   refine bind_eq (x := ((l, (), (), decide (j < i + 1), (i : Int), ()), (n.1, n.2.1, n.2.2.1, n.2.2.2.1, n.2.2.2.2.1, n.2.2.2.2.2.1, n.2.2.2.2.2.2, ()), outP l n j i ++ cond (decide (i = j)) [n] [], ())) ?_ ?_
   ·by_cases h : i = j
    ·rw [decide_eq_true h, decide_eq_true (show j < i + 1 by omega)]
     simp only [cond_true]
     rw [if_pos (by simp only [List.length_cons, List.length_nil]; omega)]
    ·rw [decide_eq_false h, show decide (j < i + 1) = decide (j < i) from decide_eq_decide.2 (by omega)]
     simp only [cond_false, List.append_nil]
   dsimp only
   have hout : outP l n j (i + 1) = (outP l n j i ++ cond (decide (i = j)) [n] []) ++ cond (neP n.1 (l.getD i dN)) [l.getD i dN] [] := by
    rcases Nat.lt_trichotomy i j with h | h | h
    ·rw [decide_eq_false (show ¬i = j by omega)]
     have hne : neP n.1 (l.getD i dN) = true := by
      unfold neP; rw [nd_pth, Bool.not_eq_true', beq_eq_false_iff_ne]; exact less_ne (h2 i h)
     rw [hne]
     unfold outP
     rw [if_pos (by omega), if_pos (by omega), List.take_add_one, List.getD_eq_getElem?_getD, List.getElem?_eq_getElem hlt]
     simp
    ·subst h
     rw [decide_eq_true rfl]
     unfold outP
     rw [if_neg (by omega), if_pos (Nat.le_refl _), show i + 1 - i = 1 by omega, drop_getD dN hlt]
     show l.take i ++ n :: List.filter (neP n.1) [l.getD i dN] = _
     rw [filter_one, cond_true, List.append_assoc]
     rfl
    ·rw [decide_eq_false (show ¬i = j by omega)]
     unfold outP
     rw [if_neg (by omega), if_neg (by omega), show i + 1 - j = (i - j) + 1 by omega, List.take_add_one, List.getElem?_drop, show j + (i - j) = i by omega, List.getElem?_eq_getElem hlt]
     have hg : l.getD i dN = l[i] := by rw [List.getD_eq_getElem?_getD, List.getElem?_eq_getElem hlt]; rfl
     rw [hg]
     cases hne : neP n.1 l[i] <;> simp [List.filter_append, List.filter_cons, hne]
   rw [if_pos hx]
   refine bind_eq (x := ((l, (), (), decide (j < i + 1), (i : Int), ()), (n.1, n.2.1, n.2.2.1, n.2.2.2.1, n.2.2.2.2.1, n.2.2.2.2.2.1, n.2.2.2.2.2.2, ()), outP l n j (i + 1), ())) ?_ ?_
   ·rw [hout, if_pos hx, Int.toNat_natCast]
    have hcl : (cond (decide (i = j)) [n] []).length ≤ 1 := by cases decide (i = j) <;> simp
    show (bif neP n.1 (l.getD i dN) then _ else _) = _
    cases neP n.1 (l.getD i dN) with
    | true => simp only [cond_true]; rw [if_pos (by simp only [List.length_append, List.length_cons, List.length_nil]; omega)]; rfl
    | false => simp only [cond_false, List.append_nil]
   ·dsimp only
    rw [wr1 i (by omega)]
    exact hk (l.length - (i + 1)) _ (by omega) ⟨i + 1, rfl, by omega, rfl⟩
  ·have : i = l.length := by omega
   subst this
   rw [decide_eq_false (by omega), cond_false]
 ·have : outP l n j 0 = [] := by unfold outP; rw [if_pos (by omega)]; rfl
  rw [this]; rfl
 ·dsimp only
  have hol := outP_len l n j l.length
  refine bind_eq (x := (((), ()), l.take j ++ n :: (l.drop j).filter (neP n.1), ())) ?_ rfl
  by_cases hj : j < l.length
  ·rw [decide_eq_true hj, Bool.not_true, cond_false]
   unfold outP
   rw [if_neg (show ¬l.length ≤ j by omega), show l.length - j = (l.drop j).length by rw [List.length_drop], List.take_length]
  ·have : j = l.length := by omega
   subst this
   rw [decide_eq_false hj, Bool.not_false, cond_true, if_pos (by simp only [List.length_cons, List.length_nil]; omega)]
   unfold outP
   rw [if_pos (Nat.le_refl _), List.drop_length]
   rfl
theorem putV_mem {l : List NodeT} {n x : NodeT} (h : x ∈ putV l n) : x ∈ l ∨ x = n := by
 unfold putV at h
 rcases List.mem_append.1 h with h | h
 ·exact .inl (List.mem_filter.1 h).1
 ·rcases List.mem_cons.1 h with h | h
  ·exact .inr h
  ·exact .inl (List.mem_filter.1 h).1
theorem putV_len {l : List NodeT} {n : NodeT} {j : Nat} (hp : Place l n.1 j) : (putV l n).length ≤ l.length + 1 := by
 rw [putV_at hp]
 have := List.length_filter_le (neP n.1) (l.drop j)
 rw [List.length_append, List.length_cons, List.length_take]
 rw [List.length_drop] at this
 have := hp.1
 omega
def gr (x : NodeT) : Int := x.2.2.2.2.2.2
def cnt (l : List NodeT) (g : Int) : Nat := (l.filter (fun x => gr x == g)).length
def dsum (l : List NodeT) : Nat := (l.map (fun x => x.2.2.2.2.1.length)).sum
structure RightP (l : List NodeT) : Prop where
 len : l.length ≤ 200
 ok : ∀ x ∈ l, nodeOk x = true
 sorted : Sorted l
 up : ∀ x ∈ l, parent x.1 = [] ∨ ∃ y ∈ l, y.1 = parent x.1 ∧ y.2.1 = 0
 like : ∀ x ∈ l, ∀ y ∈ l, gr x ≠ 0 → gr y = gr x → alike y x = true
 two : ∀ x ∈ l, gr x ≠ 0 → 2 ≤ cnt l (gr x)
 sum : dsum l ≤ 20000
theorem nd_mem {l : List NodeT} {i : Nat} (h : i < l.length) : nd l i ∈ l := getD_mem dN h
theorem mem_nd {l : List NodeT} {x : NodeT} (h : x ∈ l) : ∃ i, i < l.length ∧ nd l i = x := by
 obtain ⟨i, hi, e⟩ := List.mem_iff_getElem.1 h
 refine ⟨i, hi, ?_⟩
 unfold nd
 rw [List.getD_eq_getElem?_getD, List.getElem?_eq_getElem hi]
 exact e
theorem sorted_uniq {l : List NodeT} (hs : Sorted l) {i j : Nat} (hi : i < l.length) (hj : j < l.length) (h : pth l i = pth l j) : i = j := by
 rcases Nat.lt_trichotomy i j with h1 | h1 | h1
 ·have := hs.lt h1 hj
  rw [h, less_irrefl] at this; cases this
 ·exact h1
 ·have := hs.lt h1 hi
  rw [h, less_irrefl] at this; cases this
theorem sorted_mem {l : List NodeT} (hs : Sorted l) {x y : NodeT} (hx : x ∈ l) (hy : y ∈ l) (h : x.1 = y.1) : x = y := by
 obtain ⟨i, hi, rfl⟩ := mem_nd hx
 obtain ⟨j, hj, rfl⟩ := mem_nd hy
 rw [sorted_uniq hs hi hj h]
theorem atO_at {l : List NodeT} (hs : Sorted l) {i : Nat} (hi : i < l.length) : atO l (pth l i) = some i := by
 rcases atO_spec l (pth l i) with ⟨k, e, hk, ek⟩ | ⟨_, hno⟩
 ·rw [e, sorted_uniq hs hk hi ek]
 ·exact absurd rfl (hno i hi)
theorem take_nd (l : List NodeT) {i : Nat} (h : i < l.length) : l.take (i + 1) = l.take i ++ [nd l i] := by
 rw [List.take_add_one, List.getElem?_eq_getElem h]
 unfold nd
 rw [List.getD_eq_getElem?_getD, List.getElem?_eq_getElem h]; rfl
theorem mates_cnt (l : List NodeT) (g : Int) : ∀ k, k ≤ l.length → mates l g k = cnt (l.take k) g
 | 0, _ => by simp [mates, cnt]
 | k + 1, h => by
  have ih := mates_cnt l g k (by omega)
  unfold cnt at ih ⊢
  rw [take_nd l (by omega), List.filter_append, List.length_append, ← ih, filter_one]
  simp only [mates]
  show _ + cond (gr (nd l k) == g) 1 0 = _
  cases gr (nd l k) == g <;> rfl
theorem mates_all (l : List NodeT) (g : Int) : mates l g l.length = cnt l g := by
 rw [mates_cnt l g _ (Nat.le_refl _), List.take_length]
theorem sumTo_take (l : List NodeT) : ∀ k, k ≤ l.length → sumTo l k = dsum (l.take k)
 | 0, _ => by simp [sumTo, dsum]
 | k + 1, h => by
  have ih := sumTo_take l k (by omega)
  unfold dsum at ih ⊢
  rw [take_nd l (by omega), List.map_append, List.sum_append, ← ih]
  simp only [sumTo, List.map_cons, List.map_nil, List.sum_cons, List.sum_nil, Nat.add_zero]
  rfl
theorem sumTo_all (l : List NodeT) : sumTo l l.length = dsum l := by
 rw [sumTo_take l _ (Nat.le_refl _), List.take_length]
theorem treeS_of {l : List NodeT} (h : RightP l) : treeS l = true := by
 unfold treeS
 simp only [Bool.and_eq_true, decide_eq_true_eq, all_iff]
 refine ⟨h.len, fun i hi => ?_, fun i hi => ?_, by rw [sumTo_all]; exact h.sum⟩
 ·unfold stepS upS
  simp only [Bool.and_eq_true, Bool.or_eq_true]
  refine ⟨h.ok _ (nd_mem hi), ?_, ?_⟩
  ·unfold lessAt
   rw [Bool.or_eq_true]
   by_cases h0 : i = 0
   ·left; simp [h0]
   ·right
    have := h.sorted (i - 1) (by omega)
    rw [show i - 1 + 1 = i by omega] at this
    exact this
  ·rcases h.up _ (nd_mem hi) with e | ⟨y, hy, e1, e2⟩
   ·left
    show (parent (pth l i) == []) = true
    rw [show parent (pth l i) = [] from e]; rfl
   ·right
    obtain ⟨k, hk, rfl⟩ := mem_nd hy
    rw [show parent (pth l i) = pth l k from e1.symm, atO_at h.sorted hk]
    simpa using e2
 ·unfold okG
  rw [Bool.or_eq_true]
  by_cases hg : grp l i = 0
  ·left; simpa using hg
  ·right
   rw [Bool.and_eq_true, all_iff, decide_eq_true_eq, mates_all]
   refine ⟨fun k hk => ?_, h.two _ (nd_mem hi) hg⟩
   unfold mateOk
   rw [Bool.or_eq_true]
   by_cases he : grp l k = grp l i
   ·right; exact h.like _ (nd_mem hi) _ (nd_mem hk) hg he
   ·left; simp [he]
theorem sorted_pair {l : List NodeT} : Sorted l ↔ l.Pairwise (fun a b => Op.bytesLess a.1 b.1 = true) := by
 rw [List.pairwise_iff_getElem]
 have e : ∀ i (h : i < l.length), pth l i = (l[i]).1 := fun i h => by
  unfold pth; rw [List.getD_eq_getElem?_getD, List.getElem?_eq_getElem h]; rfl
 constructor
 ·intro h i j hi hj hij
  have := h.lt hij hj
  rw [e i hi, e j hj] at this
  exact this
 ·intro h i hi
  rw [e i (by omega), e (i + 1) hi]
  exact h i (i + 1) (by omega) hi (by omega)
theorem noG_ok {x : NodeT} (h : nodeOk x = true) : nodeOk (noG x) = true := by
 unfold nodeOk at h ⊢
 rw [Bool.and_eq_true] at h ⊢
 refine ⟨h.1, ?_⟩
 have h2 := h.2
 unfold nodeKind at h2 ⊢
 show cond (x.2.1 == 0) (x.2.2.2.2.1 == [] && (x.2.2.2.2.2.1 == [] && (0 : Int) == 0)) _ = true
 cases h0 : x.2.1 == 0 with
 | true =>
  rw [h0] at h2
  simp only [cond_true, Bool.and_eq_true] at h2 ⊢
  exact ⟨h2.1, h2.2.1, rfl⟩
 | false =>
  rw [h0] at h2
  simp only [cond_false] at h2 ⊢
  show cond (x.2.1 == 1) (decide ((x.2.2.2.2.1.length : Int) ≤ 20000) && (x.2.2.2.2.2.1 == [] && inI 0 0 200)) _ = true
  cases h1 : x.2.1 == 1 with
  | true =>
   rw [h1] at h2
   simp only [cond_true, Bool.and_eq_true] at h2 ⊢
   exact ⟨h2.1, h2.2.1, rfl⟩
  | false =>
   rw [h1] at h2
   simp only [cond_false] at h2 ⊢
   show cond (x.2.1 == 2) ((x.2.2.2.2.1 == [] && (x.2.2.1 == 0 && ((0 : Int) == 0 && inI (x.2.2.2.2.2.1.length : Int) 1 60))) && !(x.2.2.2.2.2.1.any (· == 10))) false = true
   cases h3 : x.2.1 == 2 with
   | true =>
    rw [h3] at h2
    simp only [cond_true, Bool.and_eq_true] at h2 ⊢
    exact ⟨⟨h2.1.1, h2.1.2.1, rfl, h2.1.2.2.2⟩, h2.2⟩
   | false => rw [h3] at h2; cases h2
def lone1 (l : List NodeT) (x : NodeT) : NodeT := cond (decide (cnt l (gr x) < 2)) (noG x) x
theorem loneV_map (l : List NodeT) : loneV l = l.map (lone1 l) := by
 unfold loneV
 refine List.ext_getElem (by simp) (fun i h1 h2 => ?_)
 simp only [List.length_map, List.length_range] at h1
 rw [List.getElem_map, List.getElem_map, List.getElem_range]
 unfold loneN lone1
 rw [mates_all]
 have : nd l i = l[i] := by unfold nd; rw [List.getD_eq_getElem?_getD, List.getElem?_eq_getElem h1]; rfl
 show cond (decide (cnt l (gr (nd l i)) < 2)) _ _ = _
 rw [this]
theorem lone1_cases (l : List NodeT) (x : NodeT) : lone1 l x = x ∨ (lone1 l x = noG x ∧ cnt l (gr x) < 2) := by
 unfold lone1
 by_cases h : cnt l (gr x) < 2
 ·rw [decide_eq_true h]; exact .inr ⟨rfl, h⟩
 ·rw [decide_eq_false h]; exact .inl rfl
theorem lone1_path (l : List NodeT) (x : NodeT) : (lone1 l x).1 = x.1 := by
 rcases lone1_cases l x with h | ⟨h, _⟩ <;> rw [h]; rfl
theorem lone1_kind (l : List NodeT) (x : NodeT) : (lone1 l x).2.1 = x.2.1 := by
 rcases lone1_cases l x with h | ⟨h, _⟩ <;> rw [h]; rfl
theorem lone1_data (l : List NodeT) (x : NodeT) : (lone1 l x).2.2.2.2.1 = x.2.2.2.2.1 := by
 rcases lone1_cases l x with h | ⟨h, _⟩ <;> rw [h]; rfl
theorem lone1_keep {l : List NodeT} {x : NodeT} (h : gr (lone1 l x) ≠ 0) : lone1 l x = x := by
 rcases lone1_cases l x with h1 | ⟨h1, _⟩
 ·exact h1
 ·rw [h1] at h; exact absurd rfl h
theorem putV_keeps {l : List NodeT} {n x : NodeT} (h : x ∈ l) (hne : x.1 ≠ n.1) : x ∈ putV l n := by
 unfold putV
 rw [List.mem_append, List.mem_cons, List.mem_filter, List.mem_filter]
 cases hl : ltP n.1 x with
 | true => exact .inl ⟨h, rfl⟩
 | false =>
  refine .inr (.inr ⟨h, ?_⟩)
  unfold neP
  rw [show (x.1 == n.1) = false by rw [beq_eq_false_iff_ne]; exact hne]; rfl
structure RightQ (l : List NodeT) : Prop where
 ok : ∀ x ∈ l, nodeOk x = true
 sorted : Sorted l
 up : ∀ x ∈ l, parent x.1 = [] ∨ ∃ y ∈ l, y.1 = parent x.1 ∧ y.2.1 = 0
 like : ∀ x ∈ l, ∀ y ∈ l, gr x ≠ 0 → gr y = gr x → alike y x = true
theorem right_lone {F : List NodeT} (h : RightQ F) (hl : F.length ≤ 200) (hsum : dsum F ≤ 20000) : RightP (loneV F) := by
 rw [loneV_map]
 refine ⟨by rw [List.length_map]; exact hl, ?_, ?_, ?_, ?_, ?_, ?_⟩
 ·intro y hy
  obtain ⟨x, hx, rfl⟩ := List.mem_map.1 hy
  have := h.ok x hx
  rcases lone1_cases F x with e | ⟨e, _⟩
  ·rw [e]; exact this
  ·rw [e]; exact noG_ok this
 ·have hs := sorted_pair.1 h.sorted
  rw [sorted_pair, List.pairwise_map]
  refine hs.imp ?_
  intro a b hab
  rw [lone1_path, lone1_path]; exact hab
 ·intro y hy
  obtain ⟨x, hx, rfl⟩ := List.mem_map.1 hy
  rw [lone1_path]
  rcases h.up x hx with e | ⟨z, hz, e1, e2⟩
  ·exact .inl e
  ·exact .inr ⟨lone1 F z, List.mem_map.2 ⟨z, hz, rfl⟩, by rw [lone1_path]; exact e1, by rw [lone1_kind]; exact e2⟩
 ·intro x' hx' y' hy' hg he
  obtain ⟨x, hx, rfl⟩ := List.mem_map.1 hx'
  obtain ⟨y, hy, rfl⟩ := List.mem_map.1 hy'
  have ex := lone1_keep hg
  have ey := lone1_keep (l := F) (x := y) (by rw [he]; exact hg)
  rw [ex] at hg he ⊢
  rw [ey] at he ⊢
  exact h.like x hx y hy hg he
 ·intro x' hx hg
  obtain ⟨x, hx, rfl⟩ := List.mem_map.1 hx
  have ex := lone1_keep hg
  have hg' := hg
  rw [ex] at hg ⊢
  have h2 : ¬cnt F (gr x) < 2 := by
   intro hlt
   unfold lone1 at hg'
   rw [decide_eq_true hlt] at hg'
   exact hg' rfl
  have : cnt (F.map (lone1 F)) (gr x) = cnt F (gr x) := by
   unfold cnt
   rw [List.filter_map, List.length_map]
   congr 1
   refine List.filter_congr fun y hy => ?_
   show (gr (lone1 F y) == gr x) = (gr y == gr x)
   rcases lone1_cases F y with e | ⟨e, hlt⟩
   ·rw [e]
   ·rw [e]
    have a : (gr (noG y) == gr x) = false := by
     rw [beq_eq_false_iff_ne]; intro e2; exact hg e2.symm
    have b : (gr y == gr x) = false := by
     rw [beq_eq_false_iff_ne]; intro e2; rw [e2] at hlt; exact h2 hlt
    rw [a, b]
  rw [this]; omega
 ·have : dsum (F.map (lone1 F)) = dsum F := by
   unfold dsum
   rw [List.map_map]
   congr 1
   refine List.map_congr_left fun x _ => ?_
   show (lone1 F x).2.2.2.2.1.length = _
   rw [lone1_data]
  rw [this]
  exact hsum
/-- Nodes without groups. -/
structure RightZ (l : List NodeT) : Prop where
 ok : ∀ x ∈ l, nodeOk x = true
 sorted : Sorted l
 up : ∀ x ∈ l, parent x.1 = [] ∨ ∃ y ∈ l, y.1 = parent x.1 ∧ y.2.1 = 0
 zero : ∀ x ∈ l, gr x = 0
theorem RightZ.q {l : List NodeT} (h : RightZ l) : RightQ l := ⟨h.ok, h.sorted, h.up, fun x hx y hy h0 => absurd (h.zero x hx) h0⟩
theorem sorted_put {l : List NodeT} (hs : Sorted l) (n : NodeT) (hno : ∀ x ∈ l, x.1 ≠ n.1) : Sorted (putV l n) := by
 have hp := sorted_pair.1 hs
 rw [sorted_pair]
 unfold putV
 rw [List.pairwise_append]
 refine ⟨hp.filter _, ?_, ?_⟩
 ·rw [List.pairwise_cons]
  refine ⟨fun y hy => ?_, hp.filter _⟩
  obtain ⟨hy1, hy2⟩ := List.mem_filter.1 hy
  rw [Bool.and_eq_true, Bool.not_eq_true'] at hy2
  rcases less_total y.1 n.1 with h | h | h
  ·rw [show ltP n.1 y = Op.bytesLess y.1 n.1 from rfl, h] at hy2; cases hy2.1
  ·exact absurd h (hno y hy1)
  ·exact h
 ·intro a ha b hb
  obtain ⟨ha1, ha2⟩ := List.mem_filter.1 ha
  have ha2 : Op.bytesLess a.1 n.1 = true := ha2
  rcases List.mem_cons.1 hb with rfl | hb
  ·exact ha2
  ·obtain ⟨hb1, hb2⟩ := List.mem_filter.1 hb
   rw [Bool.and_eq_true, Bool.not_eq_true'] at hb2
   rcases less_total b.1 n.1 with h | h | h
   ·rw [show ltP n.1 b = Op.bytesLess b.1 n.1 from rfl, h] at hb2; cases hb2.1
   ·exact absurd h (hno b hb1)
   ·exact less_trans ha2 h
theorem rightZ_put {l : List NodeT} (h : RightZ l) {n : NodeT} (hno : ∀ x ∈ l, x.1 ≠ n.1) (hok : nodeOk n = true) (hg : gr n = 0) (hup : parent n.1 = [] ∨ ∃ y ∈ l, y.1 = parent n.1 ∧ y.2.1 = 0) : RightZ (putV l n) := by
 have keep : ∀ y ∈ l, y ∈ putV l n := fun y hy => putV_keeps hy (hno y hy)
 refine ⟨fun x hx => ?_, sorted_put h.sorted n hno, fun x hx => ?_, fun x hx => ?_⟩
 ·rcases putV_mem hx with hx | rfl
  ·exact h.ok x hx
  ·exact hok
 ·rcases putV_mem hx with hx | rfl
  ·rcases h.up x hx with e | ⟨y, hy, e⟩
   ·exact .inl e
   ·exact .inr ⟨y, keep y hy, e⟩
  ·rcases hup with e | ⟨y, hy, e⟩
   ·exact .inl e
   ·exact .inr ⟨y, keep y hy, e⟩
 ·rcases putV_mem hx with hx | rfl
  ·exact h.zero x hx
  ·exact hg
theorem split_plain : ∀ b : List UInt8, b.all okB = true → split b = [b]
 | [], _ => rfl
 | c :: r, h => by
  rw [List.all_cons, Bool.and_eq_true] at h
  rw [split_other (by rintro rfl; exact absurd h.1 (by decide)), split_plain r h.2]; rfl
theorem split_name {b : List UInt8} (h : nameOk b = true) : split b = [b] := by
 unfold nameOk at h
 simp only [Bool.and_eq_true] at h
 exact split_plain b h.2.2.2
theorem join_right (a b : List UInt8) (ha : a.length ≤ 1000) (hb : b.length ≤ 1000) : ∃ r, m_spec_JoinPath a b = some r ∧ r.1.length ≤ 168 ∧ (r.1 = [] ∨ (pathOk r.1 = true ∧ parent r.1 = a)) := by
 unfold m_spec_JoinPath
 have h63 : ∀ n : Nat, n ≤ 100000 → n < 2 ^ 63 := fun n hn => by show n < 9223372036854775808; omega
 obtain ⟨p, hp, hpl, hpe⟩ : ∃ p : List UInt8, (bif !a == [] then if a.length + ([47] : List UInt8).length < 2 ^ 63 then if (a ++ [47]).length + b.length < 2 ^ 63 then some ((a, b, a ++ [47] ++ b, ()), ()) else none else none else some ((a, b, b, ()), ())) = some ((a, b, p, ()), ()) ∧ p.length ≤ 2001 ∧ p = (if a = [] then b else a ++ 47 :: b) := by
  cases h : (a == []) with
  | true => exact ⟨b, rfl, by omega, by rw [if_pos (by simpa using h)]⟩
  | false =>
   refine ⟨a ++ [47] ++ b, ?_, by simp; omega, by rw [if_neg (by simpa using h)]; simp⟩
   rw [Bool.not_false, cond_true, if_pos (h63 _ (by simp; omega)), if_pos (h63 _ (by simp; omega))]
 refine bind_some' (Q := fun r => r = ((a, b, p, ()), ())) ⟨_, hp, rfl⟩ ?_
 rintro t rfl
 dsimp only
 refine bind_some' (Q := fun r => ∃ bad : Bool, r = ((p, bad, ()), ()) ∧ (bad = false → pathOk p = true ∧ nameOk b = true ∧ (a = [] ∨ pathOk a = true))) ?_ ?_
 ·have hnm := spec_nameOk b (by omega)
  cases h : (a == []) with
  | true =>
   rw [Bool.not_true, cond_false, hnm, Option.bind_some]
   cases hb2 : nameOk b with
   | false => exact ⟨_, rfl, true, rfl, fun h => by cases h⟩
   | true =>
    simp only [Bool.not_true, cond_false]
    rw [spec_pathOk]
    exact ⟨_, rfl, !pathOk p, rfl, fun hx => ⟨by simpa using hx, (by first | rfl | exact trivial), .inl (by simpa using h)⟩⟩
  | false =>
   rw [Bool.not_false, cond_true, spec_pathOk, Option.bind_some]
   cases ha2 : pathOk a with
   | false => exact ⟨_, rfl, true, rfl, fun h => by cases h⟩
   | true =>
    simp only [Bool.not_true, cond_false]
    rw [hnm, Option.bind_some]
    cases hb2 : nameOk b with
    | false => exact ⟨_, rfl, true, rfl, fun h => by cases h⟩
    | true =>
     simp only [Bool.not_true, cond_false]
     rw [spec_pathOk]
     exact ⟨_, rfl, !pathOk p, rfl, fun hx => ⟨by simpa using hx, (by first | rfl | exact trivial), .inr (by first | rfl | exact trivial)⟩⟩
 ·rintro t ⟨bad, rfl, hb2⟩
  dsimp only
  cases bad with
  | true => exact ⟨_, rfl, Nat.zero_le _, .inl rfl⟩
  | false =>
   obtain ⟨h1, h2, h3⟩ := hb2 rfl
   have hl := h1
   unfold pathOk at hl
   rw [Bool.and_eq_true, decide_eq_true_eq] at hl
   refine ⟨_, rfl, hl.1, .inr ⟨h1, ?_⟩⟩
   show parent p = a
   unfold parent
   rw [names_of h1, hpe]
   by_cases h0 : a = []
   ·rw [if_pos h0, split_name h2, h0]; rfl
   ·rw [if_neg h0, split_app, split_name h2, List.dropLast_concat, join_split]
theorem pickInt_mem (l : List Int) (s : CurT) (hl : 0 < l.length ∧ l.length ≤ 256) (h : Cur s) : ∃ r, m_spec_l01PickInt l s = some r ∧ r.1 ∈ l ∧ Cur r.2.1 := by
 obtain ⟨c, i, x, u⟩ := s
 unfold m_spec_l01PickInt
 obtain ⟨b, s1, e, hb, hc⟩ := below_some (l.length : Int) (by omega) (c, i, x, ()) h
 obtain ⟨hb1, hb2⟩ := hb (by omega)
 rw [e, Option.bind_some]
 simp only
 rw [if_pos ⟨hb1, hb2⟩]
 exact ⟨_, rfl, getD_mem _ (by omega), hc⟩
def setG (x : NodeT) (g : Int) : NodeT := (x.1, x.2.1, x.2.2.1, x.2.2.2.1, x.2.2.2.2.1, x.2.2.2.2.2.1, g)
def setP (x : NodeT) (p : List UInt8) : NodeT := (p, x.2.1, x.2.2.1, x.2.2.2.1, x.2.2.2.2.1, x.2.2.2.2.2.1, x.2.2.2.2.2.2)
structure GI (o : List NodeT) (fi : Int) (i : Nat) : Prop where
 ok : ∀ x ∈ o, nodeOk x = true
 sorted : Sorted o
 up : ∀ x ∈ o, parent x.1 = [] ∨ ∃ y ∈ o, y.1 = parent x.1 ∧ y.2.1 = 0
 no : fi < 0 → ∀ x ∈ o, gr x = 0
 yes : ∀ q : Nat, fi = q → q < i ∧ q < o.length ∧ (nd o q).2.1 = 1 ∧ ∀ x ∈ o, gr x ≠ 0 → gr x = 3 ∧ alike x (nd o q) = true
theorem getD_set_self {α : Type} (o : List α) (i : Nat) (x d : α) (h : i < o.length) : (o.set i x).getD i d = x := by
 rw [List.getD_eq_getElem?_getD, List.getElem?_set_self h]; rfl
theorem getD_set_other {α : Type} (o : List α) (i j : Nat) (x d : α) (h : i ≠ j) : (o.set i x).getD j d = o.getD j d := by
 rw [List.getD_eq_getElem?_getD, List.getElem?_set_ne h, List.getD_eq_getElem?_getD]
theorem gi_eq (o : List NodeT) (A : NodeT) (p : List UInt8) (q i : Nat) (hq : q < o.length) (hi : i < o.length) :
    (((o.set q A).set i ((o.set q A).getD q dN)).set i (setP (((o.set q A).set i ((o.set q A).getD q dN)).getD i dN) p)) = (o.set q A).set i (setP A p) := by
 rw [List.set_set, getD_set_self o q A dN hq, getD_set_self (o.set q A) i A dN (by rw [List.length_set]; exact hi)]
theorem alike_3 {a b : NodeT} : alike a b = true ↔ a.2.2.1 = b.2.2.1 ∧ a.2.2.2.1 = b.2.2.2.1 ∧ a.2.2.2.2.1 = b.2.2.2.2.1 := by
 unfold alike
 simp only [Bool.and_eq_true, beq_iff_eq]
theorem up_same {o o' : List NodeT} (hl : o'.length = o.length) (hs : ∀ k, k < o.length → pth o' k = pth o k ∧ (nd o' k).2.1 = (nd o k).2.1)
    (up : ∀ x ∈ o, parent x.1 = [] ∨ ∃ y ∈ o, y.1 = parent x.1 ∧ y.2.1 = 0) : ∀ x ∈ o', parent x.1 = [] ∨ ∃ y ∈ o', y.1 = parent x.1 ∧ y.2.1 = 0 := by
 intro x hx
 obtain ⟨k, hk, rfl⟩ := mem_nd hx
 obtain ⟨e1, e2⟩ := hs k (by omega)
 have e1' : (nd o' k).1 = (nd o k).1 := e1
 rw [e1']
 rcases up _ (nd_mem (l := o) (i := k) (by omega)) with e | ⟨y, hy, a, b⟩
 ·exact .inl e
 ·obtain ⟨j, hj, rfl⟩ := mem_nd hy
  obtain ⟨f1, f2⟩ := hs j hj
  exact .inr ⟨nd o' j, nd_mem (by omega), (show (nd o' j).1 = (nd o j).1 from f1).trans a, f2.trans b⟩
theorem sorted_same {o o' : List NodeT} (hl : o'.length = o.length) (hs : ∀ k, k < o.length → pth o' k = pth o k) (h : Sorted o) : Sorted o' := by
 intro i hi
 rw [hs i (by omega), hs (i + 1) (by omega)]
 exact h i (by omega)
theorem setG_ok {x : NodeT} (h : nodeOk x = true) (hk : x.2.1 = 1) : nodeOk (setG x 3) = true := by
 unfold nodeOk at h ⊢
 rw [Bool.and_eq_true] at h ⊢
 refine ⟨h.1, ?_⟩
 have h2 := h.2
 unfold nodeKind at h2 ⊢
 have e : (setG x 3).2.1 = 1 := hk
 rw [hk] at h2
 rw [e]
 simp only [show ((1 : Int) == 0) = false from rfl, show ((1 : Int) == 1) = true from rfl, cond_false, cond_true, Bool.and_eq_true] at h2 ⊢
 exact ⟨h2.1, h2.2.1, rfl⟩
theorem setP_ok {x y : NodeT} (h : nodeOk x = true) (hy : nodeOk y = true) : nodeOk (setP x y.1) = true := by
 unfold nodeOk at h hy ⊢
 rw [Bool.and_eq_true, Bool.and_eq_true] at h hy ⊢
 exact ⟨⟨hy.1.1, h.1.2⟩, h.2⟩
theorem gi_step {o : List NodeT} {q i : Nat} (h : GI o (q : Int) i) (hi : i < o.length) (hk : (nd o i).2.1 = 1) : GI ((o.set q (setG (nd o q) 3)).set i (setP (setG (nd o q) 3) (pth o i))) (q : Int) (i + 1) := by
 obtain ⟨hqi, hq, hqk, hg⟩ := h.yes q rfl
 generalize hA : setG (nd o q) 3 = A
 have hAp : A.1 = pth o q := by rw [← hA]; rfl
 have hAk : A.2.1 = 1 := by rw [← hA]; exact hqk
 have hAok : nodeOk A = true := by rw [← hA]; exact setG_ok (h.ok _ (nd_mem hq)) hqk
 have hl : ((o.set q A).set i (setP A (pth o i))).length = o.length := by rw [List.length_set, List.length_set]
 have gi : nd ((o.set q A).set i (setP A (pth o i))) i = setP A (pth o i) := getD_set_self _ _ _ _ (by rw [List.length_set]; exact hi)
 have gq : nd ((o.set q A).set i (setP A (pth o i))) q = A := by
  unfold nd
  rw [getD_set_other _ _ _ _ _ (by omega), getD_set_self _ _ _ _ hq]
 have go : ∀ k, k ≠ i → k ≠ q → nd ((o.set q A).set i (setP A (pth o i))) k = nd o k := fun k h1 h2 => by
  unfold nd
  rw [getD_set_other _ _ _ _ _ (fun e => h1 e.symm), getD_set_other _ _ _ _ _ (fun e => h2 e.symm)]
 have hm : ∀ x ∈ (o.set q A).set i (setP A (pth o i)), x = setP A (pth o i) ∨ x = A ∨ x ∈ o := fun x hx => by
  rcases List.mem_or_eq_of_mem_set hx with hx | rfl
  ·rcases List.mem_or_eq_of_mem_set hx with hx | rfl
   ·exact .inr (.inr hx)
   ·exact .inr (.inl rfl)
  ·exact .inl rfl
 have same : ∀ k, k < o.length → pth ((o.set q A).set i (setP A (pth o i))) k = pth o k ∧ (nd ((o.set q A).set i (setP A (pth o i))) k).2.1 = (nd o k).2.1 := fun k hk2 => by
  by_cases h1 : k = i
  ·subst h1
   refine ⟨?_, ?_⟩
   ·show (nd _ k).1 = _
    rw [gi]; rfl
   ·rw [gi, hk]; exact hAk
  ·by_cases h2 : k = q
   ·subst h2
    refine ⟨?_, by rw [gq, hAk, hqk]⟩
    show (nd _ k).1 = _
    rw [gq]; exact hAp
   ·have := go k h1 h2
    refine ⟨?_, by rw [this]⟩
    show (nd _ k).1 = _
    rw [this]; rfl
 refine ⟨fun x hx => ?_, sorted_same hl (fun k hk2 => (same k hk2).1) h.sorted, up_same hl same h.up, fun hn => by omega, fun q' e => ?_⟩
 ·rcases hm x hx with rfl | rfl | hx
  ·exact setP_ok hAok (h.ok _ (nd_mem hi))
  ·exact hAok
  ·exact h.ok x hx
 ·have e : q' = q := by omega
  subst e
  refine ⟨by omega, by omega, by rw [gq]; exact hAk, fun x hx h0 => ?_⟩
  rw [gq]
  have hA3 : gr A = 3 := by rw [← hA]; rfl
  rcases hm x hx with rfl | rfl | hx
  ·exact ⟨hA3, by rw [alike_3]; exact ⟨rfl, rfl, rfl⟩⟩
  ·exact ⟨hA3, by rw [alike_3]; exact ⟨rfl, rfl, rfl⟩⟩
  ·obtain ⟨g1, g2⟩ := hg x hx h0
   refine ⟨g1, ?_⟩
   rw [alike_3] at g2 ⊢
   rw [← hA]; exact g2
theorem gi_q {o : List NodeT} {fi : Int} {i : Nat} (h : GI o fi i) (hf : fi < 0 ∨ ∃ q : Nat, fi = q) : RightQ o := by
 refine ⟨h.ok, h.sorted, h.up, fun x hx y hy h0 he => ?_⟩
 rcases hf with hf | ⟨q, rfl⟩
 ·exact absurd (h.no hf x hx) h0
 ·obtain ⟨_, _, _, hg⟩ := h.yes q rfl
  have a := (hg x hx h0).2
  have b := (hg y hy (by rw [he]; exact h0)).2
  rw [alike_3] at a b ⊢
  exact ⟨b.1.trans a.1.symm, b.2.1.trans a.2.1.symm, b.2.2.trans a.2.2.symm⟩
theorem gi_first {o : List NodeT} {fi : Int} {i : Nat} (h : GI o fi i) (hf : fi < 0) (hi : i < o.length) (hk : (nd o i).2.1 = 1) : GI o (i : Int) (i + 1) :=
 ⟨h.ok, h.sorted, h.up, fun hn => by omega, fun q e => by
  have : q = i := by omega
  subst this
  exact ⟨by omega, hi, hk, fun x hx h0 => absurd (h.no hf x hx) h0⟩⟩
theorem gi_more {o : List NodeT} {fi : Int} {i : Nat} (h : GI o fi i) : GI o fi (i + 1) :=
 ⟨h.ok, h.sorted, h.up, h.no, fun q e => by
  obtain ⟨a, b⟩ := h.yes q e
  exact ⟨by omega, b⟩⟩
theorem dsum_small : ∀ {o : List NodeT}, AllS o → dsum o ≤ o.length * 100
 | [], _ => Nat.le_refl _
 | x :: o, h => by
  have ih := dsum_small (o := o) (fun y hy => h y (List.mem_cons_of_mem _ hy))
  have hx := (h x (List.mem_cons_self ..)).2.1
  unfold dsum at ih ⊢
  rw [List.map_cons, List.sum_cons, List.length_cons]
  omega
theorem node_right (p : List UInt8) (hok : pathOk p = true) (hp : p.length ≤ 200) (s : CurT) (h : Cur s) : ∃ r, m_spec_l10Node p s = some r ∧ r.1.1 = p ∧ nodeOk r.1 = true ∧ gr r.1 = 0 ∧ SmT r.1 ∧ Cur r.2.1 := by
 unfold m_spec_l10Node
 refine bind_some' (pickInt_mem [0, 1, 1, 1, 2] s (by decide) h) ?_
 rintro ⟨kd, s1, u1⟩ ⟨hkd, h1⟩
 have hkd : kd ∈ ([0, 1, 1, 1, 2] : List Int) := hkd
 refine bind_some' (pickInt_mem [420, 493, 384, 511, 0] s1 (by decide) h1) ?_
 rintro ⟨md, s2, u2⟩ ⟨hmd, h2⟩
 have hmd : md ∈ ([420, 493, 384, 511, 0] : List Int) := hmd
 refine bind_some' (below_some' 6 (by omega) (by omega) s2 h2) ?_
 rintro ⟨tm, s3, u3⟩ ⟨htm, h3⟩
 have htm : 0 ≤ tm ∧ tm < 6 := htm
 dsimp only
 rw [wr ((100 : Int) + tm) (by omega)]
 have hmd2 : 0 ≤ md ∧ md ≤ 511 := by simp at hmd; omega
 have mk : ∀ (m : Int) (data tgt : List UInt8), 0 ≤ m ∧ m ≤ 511 → nodeKind kd m data tgt 0 = true → nodeOk (p, kd, m, 100 + tm, data, tgt, 0) = true := fun m data tgt hm hk => by
  unfold nodeOk inI
  simp only [Bool.and_eq_true, decide_eq_true_eq]
  exact ⟨⟨hok, by omega, by omega⟩, hk⟩
 refine bind_some' (Q := fun r => ∃ (m : Int) (data tgt : List UInt8) (cu : CurT), r.2.1 = cu ∧ r.2.2.2.1 = (p, kd, m, 100 + tm, data, tgt, 0, ()) ∧ nodeOk (p, kd, m, 100 + tm, data, tgt, 0) = true ∧ data.length ≤ 100 ∧ tgt.length ≤ 100 ∧ Cur cu) ?_ ?_
 ·cases hk1 : kd == 1 with
  | true =>
   have hk1 : kd = 1 := by simpa using hk1
   subst hk1
   simp only [cond_true]
   refine bind_some' (below_some' 40 (by omega) (by omega) s3 h3) ?_
   rintro ⟨b, s4, u4⟩ ⟨hb, h4⟩
   have hb : 0 ≤ b ∧ b < 40 := hb
   refine bind_some' (text_some b s4 hb.1 (by omega) h4) ?_
   rintro ⟨tx, s5, u5⟩ ⟨ht, h5⟩
   have ht : tx.length ≤ b.toNat := ht
   exact ⟨_, rfl, md, tx, [], s5, rfl, rfl, mk md tx [] hmd2 (by
    unfold nodeKind
    simp only [show ((1 : Int) == 0) = false from rfl, show ((1 : Int) == 1) = true from rfl, cond_false, cond_true, Bool.and_eq_true, decide_eq_true_eq]
    exact ⟨by omega, rfl, rfl⟩), by omega, Nat.zero_le _, h5⟩
  | false =>
   simp only [cond_false]
   refine bind_some' (Q := fun r => ∃ (m : Int) (data tgt : List UInt8) (cu : CurT), r.2.1 = cu ∧ r.2.2.2.1 = (p, kd, m, 100 + tm, data, tgt, 0, ()) ∧ nodeOk (p, kd, m, 100 + tm, data, tgt, 0) = true ∧ data.length ≤ 100 ∧ tgt.length ≤ 100 ∧ Cur cu) ?_ (fun r hr => ⟨_, rfl, hr⟩)
   cases hk2 : kd == 2 with
   | true =>
    have hk2 : kd = 2 := by simpa using hk2
    subst hk2
    simp only [cond_true]
    refine bind_some' (pick_mem _ (fun x => x.length ≤ 60 ∧ 1 ≤ x.length ∧ (!(x.any (· == 10))) = true) s3 (by decide) h3) ?_
    rintro ⟨q, s4, u4⟩ ⟨⟨hq1, hq2, hq3⟩, h4⟩
    have hq1 : q.length ≤ 60 := hq1
    have hq2 : 1 ≤ q.length := hq2
    have hq3 : (!(q.any (· == 10))) = true := hq3
    exact ⟨_, rfl, 0, [], q, s4, rfl, rfl, mk 0 [] q (by omega) (by
     unfold nodeKind inI
     simp only [show ((2 : Int) == 0) = false from rfl, show ((2 : Int) == 1) = false from rfl, show ((2 : Int) == 2) = true from rfl, cond_false, cond_true, Bool.and_eq_true, decide_eq_true_eq]
     exact ⟨⟨rfl, rfl, rfl, by omega, by omega⟩, hq3⟩), Nat.zero_le _, by omega, h4⟩
   | false =>
    have hk0 : kd = 0 := by simp at hkd hk1 hk2; omega
    subst hk0
    exact ⟨_, rfl, md, [], [], s3, rfl, rfl, mk md [] [] hmd2 rfl, Nat.zero_le _, Nat.zero_le _, h3⟩
 ·rintro ⟨u0, s6, w, ⟨a1, a2, a3, a4, a5, a6, a7, u7⟩, u8⟩ ⟨m, data, tgt, cu, e1, e2, g1, g2, g3, g4⟩
  simp only [Prod.mk.injEq] at e1 e2
  obtain ⟨rfl, rfl, rfl, rfl, rfl, rfl, rfl, _⟩ := e2
  subst e1
  exact ⟨_, rfl, rfl, g1, rfl, ⟨hp, g2, g3⟩, g4⟩
theorem tree_right (b : Int) (hb0 : 0 ≤ b) (hb : b ≤ 14) (s : CurT) (h : Cur s) : ∃ r, m_spec_l10Tree b s = some r ∧ r.2.2.1.length ≤ 14 ∧ AllS r.2.2.1 ∧ RightP r.2.2.1 ∧ Cur r.2.1 := by
 unfold m_spec_l10Tree
 refine bind_some' (Q := fun r => r.2.2.1.length ≤ 14 ∧ AllS r.2.2.1 ∧ RightZ r.2.2.1 ∧ Cur r.2.1) (loopC_some' _ (fun c t => ∃ (j : Nat) (cu : CurT) (o : List NodeT), t = (((), b, (), (j : Int), ()), cu, o, ()) ∧ (j : Int) ≤ b ∧ o.length ≤ j ∧ AllS o ∧ RightZ o ∧ Cur cu ∧ c = b.toNat - j) _ ?_ _ b.toNat _ ⟨0, s, [], rfl, by omega, by simp, fun x hx => by simp at hx, ⟨fun x hx => by simp at hx, fun i hi => by simp at hi, fun x hx => by simp at hx, fun x hx => by simp at hx⟩, h, by omega⟩ (by omega)) ?_
 ·rintro c t k ⟨j, cu, o, rfl, hj, ho, hA, hZ, hc, rfl⟩ hk
  dsimp only
  by_cases hlt : (j : Int) < b
  ·rw [decide_eq_true hlt, cond_true]
   refine bind_some' (Q := fun r => ∃ (cu : CurT) (o : List NodeT), r = (((), b, (), (j : Int), ()), cu, o, ()) ∧ o.length ≤ j + 1 ∧ AllS o ∧ RightZ o ∧ Cur cu) ?_ ?_
   ·refine bind_some' (Q := fun r => ∃ (f : Bool) (cu : CurT), r = (((), b, (), (j : Int), [], f, ()), cu, o, ()) ∧ (f = true → 0 < o.length) ∧ Cur cu) ?_ ?_
    ·by_cases h0 : (o.length : Int) > 0
     ·rw [decide_eq_true h0, cond_true]
      refine bind_some' (once_some' 3 (by omega) cu hc) ?_
      rintro ⟨f, c1, u1⟩ h1
      exact ⟨_, rfl, !f, c1, rfl, fun _ => by omega, h1⟩
     ·rw [decide_eq_false h0]; exact ⟨_, rfl, false, cu, rfl, (fun h => by cases h), hc⟩
    rintro t ⟨f, c1, rfl, hf, h1⟩
    dsimp only
    refine bind_some' (Q := fun r => ∃ (p : List UInt8) (cu : CurT), r = (((), b, (), (j : Int), p, ()), cu, o, ()) ∧ p.length ≤ 200 ∧ (p = [] ∨ ∃ y ∈ o, y.1 = p ∧ y.2.1 = 0) ∧ Cur cu) ?_ ?_
    ·cases f with
     | false => exact ⟨_, rfl, [], c1, rfl, Nat.zero_le _, .inl rfl, h1⟩
     | true =>
      have h0 := hf rfl
      rw [cond_true]
      refine bind_some' (below_some' (o.length : Int) (by omega) (by omega) c1 h1) ?_
      rintro ⟨q, c2, u2⟩ ⟨hq, h2⟩
      have hq : 0 ≤ q ∧ q < (o.length : Int) := hq
      obtain ⟨qn, rfl⟩ := Int.eq_ofNat_of_zero_le hq.1
      have hqn : qn < o.length := by omega
      dsimp only
      rw [Int.toNat_natCast, if_pos hq, if_pos hqn]
      refine bind_some' (Q := fun r => ∃ (p : List UInt8), r = (((), b, (), (j : Int), p, ()), c2, o, ()) ∧ p.length ≤ 200 ∧ (p = [] ∨ ∃ y ∈ o, y.1 = p ∧ y.2.1 = 0)) ?_ ?_
      ·show ∃ r, (bif (nd o qn).2.1 == 0 then _ else _) = some r ∧ _
       cases hkd : (nd o qn).2.1 == 0 with
       | true => rw [cond_true, if_pos hq, if_pos hqn]; exact ⟨_, rfl, _, rfl, (allS_get hA qn).1, .inr ⟨nd o qn, nd_mem hqn, rfl, by simpa using hkd⟩⟩
       | false => exact ⟨_, rfl, [], rfl, Nat.zero_le _, .inl rfl⟩
      ·rintro t ⟨p, rfl, hp, hd⟩
       exact ⟨_, rfl, p, c2, rfl, hp, hd, h2⟩
    rintro t ⟨p, c2, rfl, hp, hd, h2⟩
    dsimp only
    refine bind_some' (name_some c2 h2) ?_
    rintro ⟨nm, c3, u3⟩ ⟨hn, h3⟩
    have hn : nm.length ≤ 10 := hn
    dsimp only
    refine bind_some' (join_right p nm (by omega) (by omega)) ?_
    rintro ⟨jp, u4⟩ ⟨hjp, hjr⟩
    have hjp : jp.length ≤ 168 := hjp
    have hjr : jp = [] ∨ (pathOk jp = true ∧ parent jp = p) := hjr
    dsimp only
    refine bind_some' (Q := fun r => ∃ f : Bool, r = (((), b, (), (j : Int), jp, f, ()), c3, o, ()) ∧ (f = false → jp ≠ [] ∧ ∀ x ∈ o, x.1 ≠ jp)) ?_ ?_
    ·cases hjn : jp == [] with
     | true => exact ⟨_, rfl, true, rfl, fun h => by cases h⟩
     | false =>
      rw [cond_false, spec_at o (by omega), Option.bind_some]
      refine ⟨_, rfl, _, rfl, fun hf => ⟨by simpa using hjn, fun x hx e => ?_⟩⟩
      obtain ⟨k, hk, rfl⟩ := mem_nd hx
      have := atO_at hZ.sorted hk
      rw [show pth o k = jp from e] at this
      unfold atV at hf
      rw [this] at hf
      have hf : decide ((k : Int) ≥ 0) = false := hf
      rw [decide_eq_true (by omega)] at hf
      cases hf
    rintro t ⟨f, rfl, hf2⟩
    dsimp only
    cases f with
    | true => exact ⟨_, rfl, c3, o, rfl, by omega, hA, hZ, h3⟩
    | false =>
     rw [cond_false]
     obtain ⟨hne, hno⟩ := hf2 rfl
     obtain ⟨hjok, hjpar⟩ := hjr.resolve_left hne
     refine bind_some' (node_right jp hjok (by omega) c3 h3) ?_
     rintro ⟨n, c4, u5⟩ ⟨hn1, hn2, hn3, hn4, h4⟩
     have hn1 : n.1 = jp := hn1
     dsimp only
     rw [spec_put_eq o hZ.sorted (by omega) n, Option.bind_some]
     dsimp only
     have hlen : (putV o n).length ≤ o.length + 1 := by
      obtain ⟨jj, hp, _⟩ := impl_place_eq o hZ.sorted (by omega) n.1
      exact putV_len hp
     refine ⟨_, rfl, c4, putV o n, rfl, by omega, fun x hx => ?_, rightZ_put hZ (by rw [hn1]; exact hno) hn2 hn3 (by rw [hn1, hjpar]; exact hd), h4⟩
     rcases putV_mem hx with hx | rfl
     ·exact hA x hx
     ·exact hn4
   ·rintro t ⟨c1, o1, rfl, h1, h2, hZ2, h3⟩
    dsimp only
    rw [wr1 j (by omega)]
    exact hk (b.toNat - (j + 1)) _ (by omega) ⟨j + 1, c1, o1, rfl, by omega, h1, h2, hZ2, h3, rfl⟩
  ·rw [decide_eq_false hlt, cond_false]
   exact ⟨_, rfl, by show o.length ≤ 14; omega, hA, hZ, hc⟩
 ·rintro ⟨u0, cu, o, u1⟩ ⟨ho, hA, hZ, hc⟩
  have ho : o.length ≤ 14 := ho
  have hA : AllS o := hA
  have hZ : RightZ o := hZ
  dsimp only
  refine bind_some' (once_some' 3 (by omega) cu hc) ?_
  rintro ⟨f, c1, u2⟩ h1
  dsimp only
  refine bind_some' (Q := fun r => ∃ (cu : CurT) (o : List NodeT), r = (((), ()), cu, o, ()) ∧ o.length ≤ 14 ∧ AllS o ∧ RightQ o ∧ Cur cu) ?_ ?_
  ·cases f with
   | false => exact ⟨_, rfl, c1, o, rfl, ho, hA, hZ.q, h1⟩
   | true =>
    rw [cond_true]
    refine bind_some' (Q := fun r => ∃ (cu : CurT) (o : List NodeT), r = (((), ()), cu, o, ()) ∧ o.length ≤ 14 ∧ AllS o ∧ RightQ o ∧ Cur cu) (loopC_some' _ (fun c t => ∃ (i : Nat) (fi : Int) (cu : CurT) (o2 : List NodeT), t = (((), (), fi, (i : Int), ()), cu, o2, ()) ∧ i ≤ o.length ∧ o2.length = o.length ∧ AllS o2 ∧ GI o2 fi i ∧ Cur cu ∧ (fi < 0 ∨ ∃ q : Nat, fi = q ∧ q < o.length) ∧ c = o.length - i) _ ?_ _ o.length _ ⟨0, -1, c1, o, rfl, by omega, rfl, hA, ⟨hZ.ok, hZ.sorted, hZ.up, fun _ => hZ.zero, fun q e => by omega⟩, h1, .inl (by omega), rfl⟩ (by omega)) ?_
    ·rintro c t k ⟨i, fi, cu, o2, rfl, hi, ho2, hA2, hG, hc2, hfi, rfl⟩ hk
     dsimp only
     by_cases hlt : i < o.length
     ·have hx : (0 : Int) ≤ (i : Int) ∧ (i : Int) < (o2.length : Int) := by omega
      have hxn : i < o2.length := by omega
      rw [decide_eq_true (show (i : Int) < (o2.length : Int) by omega), cond_true, if_pos hx, Int.toNat_natCast, if_pos hxn]
      refine bind_some' (Q := fun r => ∃ (fi : Int) (cu : CurT) (o2 : List NodeT), r = (((), (), fi, (i : Int), ()), cu, o2, ()) ∧ o2.length = o.length ∧ AllS o2 ∧ GI o2 fi (i + 1) ∧ Cur cu ∧ (fi < 0 ∨ ∃ q : Nat, fi = q ∧ q < o.length)) ?_ ?_
      ·show ∃ r, (bif (nd o2 i).2.1 == 1 then _ else _) = some r ∧ _
       cases hkd : (nd o2 i).2.1 == 1 with
       | false => exact ⟨_, rfl, fi, cu, o2, rfl, ho2, hA2, gi_more hG, hc2, hfi⟩
       | true =>
        have hk1 : (nd o2 i).2.1 = 1 := by simpa using hkd
        rw [cond_true]
        refine bind_some' (Q := fun r => ∃ (fi : Int) (cu : CurT) (o2 : List NodeT), r = (((), (), fi, (i : Int), ()), cu, o2, ()) ∧ o2.length = o.length ∧ AllS o2 ∧ GI o2 fi (i + 1) ∧ Cur cu ∧ (fi < 0 ∨ ∃ q : Nat, fi = q ∧ q < o.length)) ?_ ?_
        ·by_cases hf0 : fi < 0
         ·rw [decide_eq_true hf0]
          exact ⟨_, rfl, _, cu, o2, rfl, ho2, hA2, gi_first hG hf0 hxn hk1, hc2, .inr ⟨i, rfl, hlt⟩⟩
         ·rw [decide_eq_false hf0, cond_false]
          obtain ⟨q, rfl, hq⟩ := hfi.resolve_left hf0
          refine bind_some' (once_some' 2 (by omega) cu hc2) ?_
          rintro ⟨g, c3, u3⟩ h3
          dsimp only
          refine bind_some' (Q := fun r => ∃ (fi : Int) (cu : CurT) (o2 : List NodeT), r = (((), (), fi, (i : Int), ()), cu, o2, ()) ∧ o2.length = o.length ∧ AllS o2 ∧ GI o2 fi (i + 1) ∧ Cur cu ∧ (fi < 0 ∨ ∃ q : Nat, fi = q ∧ q < o.length)) ?_ ?_
          ·cases g with
           | false => exact ⟨_, rfl, _, c3, o2, rfl, ho2, hA2, gi_more hG, h3, .inr ⟨q, rfl, hq⟩⟩
           | true =>
            have hyq : (0 : Int) ≤ (q : Int) ∧ (q : Int) < (o2.length : Int) := by omega
            have hyn : q < o2.length := by omega
            rw [cond_true]
            simp only [List.length_set, if_pos hx, if_pos hxn, if_pos hyq, if_pos hyn, Int.toNat_natCast]
            refine ⟨_, rfl, _, c3, _, rfl, by simp only [List.length_set]; exact ho2, ?_, ?_, h3, .inr ⟨q, rfl, hq⟩⟩
            rotate_left
            ·have e := gi_eq o2 (setG (nd o2 q) 3) (pth o2 i) q i hyn hxn
             have g := gi_step hG hxn hk1
             rw [← e] at g
             exact g
            have s1 : AllS (o2.set q ((o2.getD q dN).1, (o2.getD q dN).2.1, (o2.getD q dN).2.2.1, (o2.getD q dN).2.2.2.1, (o2.getD q dN).2.2.2.2.1, (o2.getD q dN).2.2.2.2.2.1, 3)) := allS_set hA2 q (allS_get hA2 q)
            have s2 := allS_set s1 i (allS_get s1 q)
            exact allS_set s2 i ⟨(allS_get hA2 i).1, (allS_get s2 i).2⟩
          ·rintro t ⟨a, b2, c4, rfl, g1⟩
           exact ⟨_, rfl, a, b2, c4, rfl, g1⟩
        ·rintro t ⟨a, b2, c4, rfl, g1⟩
         exact ⟨_, rfl, a, b2, c4, rfl, g1⟩
      ·rintro t ⟨fi2, c3, o3, rfl, g1, g2, gG, g3, g4⟩
       dsimp only
       rw [wr1 i (by omega)]
       exact hk (o.length - (i + 1)) _ (by omega) ⟨i + 1, fi2, c3, o3, rfl, by omega, g1, g2, gG, g3, g4, rfl⟩
     ·rw [decide_eq_false (show ¬(i : Int) < (o2.length : Int) by omega), cond_false]
      exact ⟨_, rfl, cu, o2, rfl, by omega, hA2, gi_q hG (hfi.imp_right fun ⟨q, e, _⟩ => ⟨q, e⟩), hc2⟩
    ·rintro t ⟨c2, o2, rfl, g1⟩
     exact ⟨_, rfl, c2, o2, rfl, g1⟩
  ·rintro t ⟨c2, o2, rfl, g1, g2, gQ, g3⟩
   dsimp only
   rw [spec_lone2 o2 (by omega), Option.bind_some]
   have hd := dsum_small g2
   exact ⟨_, rfl, by show (loneV o2).length ≤ 14; rw [loneV_len]; exact g1, loneV_allS g2, right_lone gQ (by omega) (by omega), g3⟩
def chI (l : List NodeT) (d : List UInt8) : Nat → List (List UInt8)
 | 0 => []
 | i + 1 => cond (parent (pth l i) == d) (chI l d i ++ [pth l i]) (chI l d i)
theorem chI_len (l : List NodeT) (d : List UInt8) : ∀ i, (chI l d i).length ≤ i
 | 0 => Nat.zero_le _
 | i + 1 => by
  have := chI_len l d i
  simp only [chI]
  cases parent (pth l i) == d
  ·rw [cond_false]; omega
  ·rw [cond_true, List.length_append]; simp only [List.length_cons, List.length_nil]; omega
def chil (l : List NodeT) (d : List UInt8) : List (List UInt8) := cond (treeS l) (chI l d l.length) []
theorem impl_chil (l : List NodeT) (h : Small l) (d : List UInt8) : m_impl_Children l d = some (chil l d, ()) := by
 have hl : l.length ≤ 1048576 := h.1
 unfold m_impl_Children chil
 rw [impl_treeOk l h, Option.bind_some]
 cases treeS l with
 | false => rfl
 | true =>
  simp only [Bool.not_true, cond_false, cond_true]
  refine bind_eq (loopC_inv _ (fun n t => ∃ i : Nat, t = ((d, (), l, (l.length : Int), (i : Int), ()), chI l d i, ()) ∧ i ≤ l.length ∧ n = l.length - i)
   (fun _ => some (((), ()), chI l d l.length, ())) ?_ _ l.length _ ⟨0, rfl, by omega, rfl⟩ (by omega)) rfl
  rintro n t k ⟨i, rfl, hi, rfl⟩ hk
  dsimp only
  by_cases hlt : i < l.length
  ·rw [decide_eq_true (by omega), cond_true, if_pos (by omega), Int.toNat_natCast]
   show Option.bind (m_impl_ParentOf (pth l i)) _ = _
   rw [impl_parent, Option.bind_some]
   refine bind_eq (x := ((d, (), l, (l.length : Int), (i : Int), ()), chI l d (i + 1), ())) ?_ ?_
   ·simp only [chI]
    have hc := chI_len l d i
    cases parent (pth l i) == d with
    | false => rfl
    | true =>
     rw [cond_true, cond_true, if_pos (by simp only [List.length_cons, List.length_nil]; omega)]
     rfl
   ·dsimp only
    rw [wr1 i (by omega)]
    exact hk (l.length - (i + 1)) _ (by omega) ⟨i + 1, rfl, by omega, rfl⟩
  ·have : i = l.length := by omega
   subst this
   rw [decide_eq_false (by omega)]; rfl
def parF (d : List UInt8) (x : NodeT) : Bool := parent x.1 == d
theorem chI_filter (l : List NodeT) (d : List UInt8) : ∀ i, i ≤ l.length → chI l d i = ((l.take i).filter (parF d)).map (·.1)
 | 0, _ => by simp [chI]
 | i + 1, h => by
  have ih := chI_filter l d i (by omega)
  simp only [chI]
  rw [take_nd l (by omega), List.filter_append, List.map_append, ih, filter_one]
  have e : (parent (pth l i) == d) = parF d (nd l i) := rfl
  rw [e]
  cases parF d (nd l i)
  ·rw [cond_false, cond_false, List.map_nil, List.append_nil]
  ·rfl
theorem chil_filter {l : List NodeT} (ht : treeS l = true) (d : List UInt8) : chil l d = (l.filter (parF d)).map (·.1) := by
 unfold chil
 rw [ht, cond_true, chI_filter l d _ (Nat.le_refl _), List.take_length]
theorem hasText_yes (l : List (List UInt8)) (hl : l.length ≤ 1000000) (p : List UInt8) (h : p ∈ l) : m_laws_hasText l p = some (true, ()) := by
 unfold m_laws_hasText
 refine joinC_of (loopC_inv _ (fun n t => ∃ k : Nat, t = ((l, p, (k : Int), ()), ()) ∧ p ∈ l.drop k ∧ k ≤ l.length ∧ n = l.length - k) (fun _ => some (.inr (true, ()))) ?_ _ l.length _ ⟨0, rfl, h, by omega, rfl⟩ (by omega)) rfl
 rintro n t kk ⟨k, rfl, hm, hk, rfl⟩ hkk
 dsimp only
 have hlt : k < l.length := by
  rcases Nat.lt_or_ge k l.length with h | h
  ·exact h
  ·rw [List.drop_eq_nil_of_le h] at hm; cases hm
 rw [decide_eq_true (by omega), cond_true, if_pos (by omega), Int.toNat_natCast]
 rw [drop_getD (nilOf UInt8) hlt] at hm
 cases he : l.getD k (nilOf UInt8) == p with
 | true => rfl
 | false =>
  rw [cond_false, wr1 k (by omega)]
  have hm2 : p ∈ l.drop (k + 1) := by
   rcases List.mem_cons.1 hm with e | hm
   ·rw [← e, beq_self_eq_true] at he; cases he
   ·exact hm
  exact hkk (l.length - (k + 1)) _ (by omega) ⟨k + 1, rfl, hm2, by omega, rfl⟩
theorem sum_cons (x : NodeT) (m : List NodeT) : ∀ ps : List (List UInt8), (ps.map (fun p => ((x :: m).filter (parF p)).length)).sum = (ps.map (fun p => (m.filter (parF p)).length)).sum + ps.count (parent x.1)
 | [] => rfl
 | p :: ps => by
  have ih := sum_cons x m ps
  rw [List.map_cons, List.sum_cons, List.map_cons, List.sum_cons, ih, List.count_cons]
  have hf : ((x :: m).filter (parF p)).length = (m.filter (parF p)).length + cond (parF p x) 1 0 := by
   rw [List.filter_cons]
   cases parF p x <;> simp
  rw [hf, show parF p x = (parent x.1 == p) from rfl]
  by_cases e : parent x.1 = p
  ·rw [show (parent x.1 == p) = true by rw [beq_iff_eq]; exact e, show (p == parent x.1) = true by rw [beq_iff_eq]; exact e.symm]
   simp only [if_true, cond_true]; omega
  ·rw [show (parent x.1 == p) = false by rw [beq_eq_false_iff_ne]; exact e, show (p == parent x.1) = false by rw [beq_eq_false_iff_ne]; exact fun h => e h.symm]
   simp only [Bool.false_eq_true, if_false, cond_false]; omega
theorem count_one : ∀ {ps : List (List UInt8)} {q : List UInt8}, ps.Pairwise (fun a b => a ≠ b) → q ∈ ps → ps.count q = 1
 | p :: ps, q, h, hm => by
  rw [List.pairwise_cons] at h
  rw [List.count_cons]
  rcases List.mem_cons.1 hm with rfl | hm
  ·have : ps.count q = 0 := List.count_eq_zero.2 fun hq => h.1 q hq rfl
   simp [this]
  ·have hne : p ≠ q := h.1 q hm
   rw [count_one h.2 hm, show (p == q) = false by rw [beq_eq_false_iff_ne]; exact hne]; rfl
theorem paths_ne {l : List NodeT} (hs : Sorted l) : (l.map (·.1)).Pairwise (fun a b => a ≠ b) := by
 rw [List.pairwise_map]
 exact (sorted_pair.1 hs).imp fun h => less_ne h
theorem path_ne_nil {x : NodeT} (h : nodeOk x = true) : x.1 ≠ [] := by
 intro e
 have := nodeOk_path h
 rw [e] at this
 exact absurd this (by decide)
theorem total {l : List NodeT} (h : RightP l) : ∀ m : List NodeT, (∀ x ∈ m, x ∈ l) → (m.filter (parF [])).length + ((l.map (·.1)).map (fun p => (m.filter (parF p)).length)).sum = m.length
 | [], _ => by
  have : ∀ ps : List (List UInt8), (ps.map (fun p => (([] : List NodeT).filter (parF p)).length)).sum = 0 := by
   intro ps
   induction ps with
   | nil => rfl
   | cons p ps ih => rw [List.map_cons, List.sum_cons, ih]; rfl
  rw [this]; rfl
 | x :: m, hm => by
  have ih := total h m fun y hy => hm y (List.mem_cons_of_mem _ hy)
  have hx := hm x (List.mem_cons_self ..)
  rw [sum_cons, List.filter_cons, List.length_cons]
  rcases h.up x hx with e | ⟨y, hy, e1, e2⟩
  ·have h0 : (l.map (·.1)).count (parent x.1) = 0 := List.count_eq_zero.2 fun hq => by
    obtain ⟨z, hz, ez⟩ := List.mem_map.1 hq
    exact path_ne_nil (h.ok z hz) (ez.trans e)
   rw [h0]
   have : parF [] x = true := by unfold parF; rw [e]; rfl
   rw [this]
   simp only [if_true, List.length_cons]; omega
  ·have h1 : (l.map (·.1)).count (parent x.1) = 1 := count_one (paths_ne h.sorted) (List.mem_map.2 ⟨y, hy, e1⟩)
   rw [h1]
   have : parF [] x = false := by
    unfold parF
    rw [beq_eq_false_iff_ne, ← e1]; exact path_ne_nil (h.ok y hy)
   rw [this]
   simp only [Bool.false_eq_true, if_false]; omega
theorem no_children {l : List NodeT} (h : RightP l) {n : NodeT} (hn : n ∈ l) (hk : n.2.1 ≠ 0) : l.filter (parF n.1) = [] := by
 rw [List.filter_eq_nil_iff]
 intro x hx hp
 have hp : parent x.1 = n.1 := by unfold parF at hp; simpa using hp
 rcases h.up x hx with e | ⟨y, hy, e1, e2⟩
 ·exact path_ne_nil (h.ok n hn) (hp.symm.trans e)
 ·rw [sorted_mem h.sorted hy hn (e1.trans hp)] at e2
  exact hk e2
theorem smallS2 {l : List NodeT} (h : AllS l) (hl : l.length ≤ 1000) : Small l := ⟨by omega, fun x hx => by
 have := h x hx
 unfold SmT at this
 omega⟩
theorem bne_self' (a : Bool) : (!(a == a)) = false := by cases a <;> rfl
theorem same_self {l : List NodeT} (h : RightP l) (hA : AllS l) (hl : l.length ≤ 200) : m_impl_SameGroups l l = some (true, ()) := by
 have ht := treeS_of h
 have hS := smallS2 hA (by omega)
 unfold m_impl_SameGroups
 refine bind_eq (x := ((l, l, false, ()), ())) ?_ ?_
 ·rw [impl_treeOk l hS, Option.bind_some, ht]
  simp only [Bool.not_true, cond_false, Option.bind_some]
  rw [show (((l.length : Int)) != (l.length : Int)) = false by simp]
 dsimp only
 rw [cond_false]
 refine joinC_of (loopC_inv _ (fun n t => ∃ i : Nat, t = ((l, l, l, (l.length : Int), (i : Int), ()), ()) ∧ i ≤ l.length ∧ n = l.length - i) (fun _ => some (.inl ((), ()))) ?_ _ l.length _ ⟨0, rfl, by omega, rfl⟩ (by omega)) rfl
 rintro n t k ⟨i, rfl, hi, rfl⟩ hk
 dsimp only
 by_cases hlt : i < l.length
 ·have hx : (0 : Int) ≤ (i : Int) ∧ (i : Int) < (l.length : Int) := by omega
  rw [decide_eq_true (show (i : Int) < (l.length : Int) by omega), cond_true, if_pos hx, if_pos hx, Int.toNat_natCast]
  refine joinC_of (loopC_inv _ (fun n t => ∃ q : Nat, t = ((l, l, (), (), l, (l.length : Int), (i : Int), (i : Int), (q : Int), ()), ((nd l i).1, (nd l i).2.1, (nd l i).2.2.1, (nd l i).2.2.2.1, (nd l i).2.2.2.2.1, (nd l i).2.2.2.2.2.1, (nd l i).2.2.2.2.2.2, ()), ((nd l i).1, (nd l i).2.1, (nd l i).2.2.1, (nd l i).2.2.2.1, (nd l i).2.2.2.2.1, (nd l i).2.2.2.2.2.1, (nd l i).2.2.2.2.2.2, ()), ()) ∧ q ≤ i ∧ n = i - q)
   (fun _ => some (.inl ((l, l, (), (), l, (l.length : Int), (i : Int), ()), ((nd l i).1, (nd l i).2.1, (nd l i).2.2.1, (nd l i).2.2.2.1, (nd l i).2.2.2.2.1, (nd l i).2.2.2.2.2.1, (nd l i).2.2.2.2.2.2, ()), ((nd l i).1, (nd l i).2.1, (nd l i).2.2.1, (nd l i).2.2.2.1, (nd l i).2.2.2.2.1, (nd l i).2.2.2.2.2.1, (nd l i).2.2.2.2.2.2, ()), ()))) ?_ _ i _ ⟨0, rfl, by omega, rfl⟩ (by omega)) ?_
  ·rintro n t kk ⟨q, rfl, hq, rfl⟩ hkk
   dsimp only
   by_cases hlq : q < i
   ·have hy : (0 : Int) ≤ (q : Int) ∧ (q : Int) < (l.length : Int) := by omega
    rw [decide_eq_true (show (q : Int) < (i : Int) by omega), cond_true]
    refine bind_eq (x := ((l, l, (), (), l, (l.length : Int), (i : Int), (i : Int), (q : Int), false, ()), ((nd l i).1, (nd l i).2.1, (nd l i).2.2.1, (nd l i).2.2.2.1, (nd l i).2.2.2.2.1, (nd l i).2.2.2.2.2.1, (nd l i).2.2.2.2.2.2, ()), ((nd l i).1, (nd l i).2.1, (nd l i).2.2.1, (nd l i).2.2.2.1, (nd l i).2.2.2.2.1, (nd l i).2.2.2.2.2.1, (nd l i).2.2.2.2.2.2, ()), ())) ?_ ?_
    ·cases decide ((nd l i).2.2.2.2.2.2 > 0) with
     | true =>
      rw [cond_true, if_pos hy, cond_true, if_pos hy, bne_self']
     | false => rfl
    ·dsimp only
     rw [cond_false, wr1 q (by omega)]
     exact hkk (i - (q + 1)) _ (by omega) ⟨q + 1, rfl, by omega, rfl⟩
   ·have : q = i := by omega
    subst this
    rw [decide_eq_false (by omega)]; rfl
  ·show (bif !_ then _ else _) = _
   simp only [beq_self_eq_true, Bool.and_true, Bool.not_true, cond_false]
   rw [wr1 i (by omega)]
   exact hk (l.length - (i + 1)) _ (by omega) ⟨i + 1, rfl, by omega, rfl⟩
 ·have : i = l.length := by omega
  subst this
  rw [decide_eq_false (by omega)]; rfl
theorem drawTree_right (c : List Int) (hc : c.length ≤ 1048576) : ∃ r, m_spec_DrawTree c = some r ∧ r.1.length ≤ 14 ∧ AllS r.1 ∧ RightP r.1 := by
 unfold m_spec_DrawTree
 refine bind_some' (new_some c hc) ?_
 rintro ⟨u0, s0, u1⟩ h0
 refine bind_some' (size_some c hc) ?_
 rintro ⟨z, u2⟩ hz
 have hz : 1 ≤ z ∧ z ≤ 14 := hz
 dsimp only
 refine bind_some' (tree_right z (by omega) (by omega) s0 h0) ?_
 rintro ⟨u3, s1, l, u4⟩ ⟨a, b, c, _⟩
 exact ⟨_, rfl, a, b, c⟩
/-- The sums of a right tree are there, and as long as one another. -/
def SumsOk : Prop := ∀ l : List NodeT, RightP l → AllS l → l.length ≤ 14 → ∃ a b : List UInt8, m_impl_TreeSum l = some (a, ()) ∧ m_spec_TreeSum l = some (b, ()) ∧ a.length = b.length
theorem law_of_sums (hsums : SumsOk) (c : List Int) : m_laws_FnChildren c = some (true, ()) := by
 unfold m_laws_FnChildren
 have hbig : m_laws_big c = some (decide ((c.length : Int) > 1048576), ()) := rfl
 rw [hbig, Option.bind_some]
 by_cases hb : (c.length : Int) > 1048576
 ·rw [decide_eq_true hb]; rfl
 rw [decide_eq_false hb, cond_false]
 refine bind_ex (drawTree_right c (by omega)) ?_
 rintro ⟨l, u0⟩ ⟨hl, hA, hR⟩
 have hl : l.length ≤ 14 := hl
 have hA : AllS l := hA
 have hR : RightP l := hR
 have hS := smallS2 hA (by omega)
 have ht := treeS_of hR
 have hch : ∀ d, m_impl_Children l d = some ((l.filter (parF d)).map (·.1), ()) := fun d => by rw [impl_chil l hS, chil_filter ht]
 dsimp only
 rw [show m_impl_Children l (nilOf UInt8) = _ from hch [], Option.bind_some]
 dsimp only
 have hle : ∀ d, (l.filter (parF d)).length ≤ 14 := fun d => Nat.le_trans (List.length_filter_le _ _) hl
 have hsumle : ∀ ps : List (List UInt8), (ps.map (fun p => (l.filter (parF p)).length)).sum ≤ ps.length * 14 := by
  intro ps
  induction ps with
  | nil => exact Nat.le_refl _
  | cons p ps ih => rw [List.map_cons, List.sum_cons, List.length_cons]; have := hle p; omega
 refine joinC_of (loopC_inv _ (fun n t => ∃ i : Nat, t = ((l, (((l.filter (parF [])).length + (((l.take i).map (·.1)).map (fun p => (l.filter (parF p)).length)).sum : Nat) : Int), (i : Int), ()), ()) ∧ i ≤ l.length ∧ n = l.length - i)
  (fun _ => some (.inl ((l, (l.length : Int), ()), ()))) ?_ _ l.length _ ⟨0, by simp, by omega, rfl⟩ (by omega)) ?_
 ·rintro n t k ⟨i, rfl, hi, rfl⟩ hk
  dsimp only
  by_cases hlt : i < l.length
  ·have hx : (0 : Int) ≤ (i : Int) ∧ (i : Int) < (l.length : Int) := by omega
   have hmem : nd l i ∈ l := nd_mem hlt
   rw [decide_eq_true (show (i : Int) < (l.length : Int) by omega), cond_true]
   simp only [if_pos hx, Int.toNat_natCast]
   have hfind : m_impl_Find l (nd l i).1 = some ((i : Int), ()) := by
    rw [impl_find l hS]
    unfold fv atV
    rw [ht, cond_true, show (nd l i).1 = pth l i from rfl, atO_at hR.sorted hlt]
   generalize hacc : (((l.filter (parF [])).length + (((l.take i).map (·.1)).map (fun p => (l.filter (parF p)).length)).sum : Nat) : Int) = acc
   refine bind_eq (x := ((l, acc, (i : Int), false, ()), ())) ?_ ?_
   ·refine bind_eq hfind ?_
    dsimp only
    rw [show (((i : Int)) != (i : Int)) = false by simp, cond_false]
    refine bind_eq (spec_parent (nd l i).1) ?_
    dsimp only
    refine bind_eq (hch (parent (nd l i).1)) ?_
    dsimp only
    refine bind_eq (hasText_yes _ (by rw [List.length_map]; have := hle (parent (nd l i).1); omega) (nd l i).1 (List.mem_map.2 ⟨nd l i, List.mem_filter.2 ⟨hmem, by unfold parF; rw [beq_self_eq_true]⟩, rfl⟩)) ?_
    rfl
   ·dsimp only
    rw [cond_false, if_pos hx]
    refine bind_eq (hch (nd l i).1) ?_
    dsimp only
    refine bind_eq (x := ((l, acc, (i : Int), (l.filter (parF (nd l i).1)).map (·.1), false, ()), ())) ?_ ?_
    ·rw [if_pos hx]
     show (bif (nd l i).2.1 != 0 then _ else _) = _
     cases hkd : (nd l i).2.1 != 0 with
     | false => rfl
     | true =>
      have hk0 : (nd l i).2.1 ≠ 0 := by simpa using hkd
      rw [cond_true, no_children hR hmem hk0]; rfl
    ·dsimp only
     rw [cond_false, List.length_map, ← hacc]
     have hs1 := hsumle ((l.take i).map (·.1))
     rw [List.length_map, List.length_take] at hs1
     have h1 := hle []
     have h2 := hle (nd l i).1
     rw [wr _ (by omega), wr1 i (by omega)]
     refine hk (l.length - (i + 1)) _ (by omega) ⟨i + 1, ?_, by omega, rfl⟩
     have e : ((l.take (i + 1)).map (·.1)).map (fun p => (l.filter (parF p)).length) = (((l.take i).map (·.1)).map (fun p => (l.filter (parF p)).length)) ++ [(l.filter (parF (nd l i).1)).length] := by
      rw [take_nd l hlt, List.map_append, List.map_append]; rfl
     rw [e, List.sum_append]
     simp only [List.sum_cons, List.sum_nil, Nat.add_zero, Prod.mk.injEq, and_true, true_and]
     omega
  ·have : i = l.length := by omega
   subst this
   have htot := total hR l (fun x hx => hx)
   rw [decide_eq_false (by omega), cond_false, List.take_length, htot]
 ·show Option.bind (bif (l.length : Int) == (l.length : Int) then _ else _) _ = _
  obtain ⟨a, b, e1, e2, e3⟩ := hsums l hR hA hl
  rw [beq_self_eq_true, cond_true, impl_treeOk l hS, Option.bind_some, ht]
  simp only [cond_true]
  rw [e1, Option.bind_some, e2, Option.bind_some]
  dsimp only
  rw [e3, beq_self_eq_true, cond_true, same_self hR hA (by omega)]
  rfl
def vb : Nat → Int
 | 0 => 34359738368
 | 1 => 268435456
 | 2 => 2097152
 | 3 => 16384
 | 4 => 128
 | _ => 1
theorem vb_step {j : Nat} {x : Int} (hj : j ≤ 5) (hx : x < vb j) (h : 127 < x) : j + 1 ≤ 5 ∧ x / 128 < vb (j + 1) := by
 have : j = 0 ∨ j = 1 ∨ j = 2 ∨ j = 3 ∨ j = 4 ∨ j = 5 := by omega
 rcases this with rfl | rfl | rfl | rfl | rfl | rfl <;> simp only [vb] at hx ⊢ <;> omega
theorem wByte (a : Int) (s : List Int) (h : s.length ≤ 1000000) : m_strings_Builder_WriteByte a () s = some ((), (), s ++ [a], ()) := by
 unfold m_strings_Builder_WriteByte m_strings_Builder_copyCheck
 rw [Option.bind_some, if_pos (by simp only [List.length_cons, List.length_nil]; omega)]
theorem bString (s : List Int) (h : s.length ≤ 1000000) : m_strings_Builder_String () s = some (strOf s, (), [], ()) := by
 unfold m_strings_Builder_String
 rw [if_pos (by omega)]
theorem strOf_len (s : List Int) : (strOf s).length = s.length := by unfold strOf; rw [List.length_map]
theorem varText_some (x : Int) (h0 : 0 ≤ x) (h : x ≤ 1000000000) : ∃ r, m_impl_varText x = some r ∧ r.1.length ≤ 6 := by
 unfold m_impl_varText
 refine bind_some' (Q := fun t => ∃ (y : Int) (s : List Int), t = ((y, (), ()), (), s, ()) ∧ s.length ≤ 5)
  (loopC_some' _ (fun n t => ∃ (y : Int) (s : List Int), t = ((y, (), ()), (), s, ()) ∧ s.length ≤ 5 ∧ 0 ≤ y ∧ y < vb s.length ∧ n = y.toNat) _ ?_ _ x.toNat _ ⟨x, [], rfl, by simp, h0, by show x < 34359738368; omega, rfl⟩ (by omega)) ?_
 ·rintro n t k ⟨y, s, rfl, hs, hy0, hy, rfl⟩ hk
  dsimp only
  by_cases hgt : y > 127
  ·obtain ⟨g1, g2⟩ := vb_step hs hy hgt
   rw [decide_eq_true hgt, cond_true, wByte _ s (by omega), Option.bind_some]
   dsimp only
   rw [if_pos (by decide)]
   have e : Int.fdiv y (2 ^ min (Int.toNat 7) (IntKind.bits IntKind.i64)) = y / 128 := by
    show Int.fdiv y 128 = y / 128
    exact Int.fdiv_eq_ediv_of_nonneg y (by decide)
   rw [e]
   refine hk (y / 128).toNat _ (by omega) ⟨y / 128, _, rfl, ?_, by omega, ?_, rfl⟩
   ·rw [List.length_append, List.length_cons, List.length_nil]; omega
   ·rw [List.length_append, List.length_cons, List.length_nil]; exact g2
  ·rw [decide_eq_false hgt, cond_false]
   exact ⟨_, rfl, y, s, rfl, hs⟩
 ·rintro t ⟨y, s, rfl, hs⟩
  dsimp only
  rw [wByte _ s (by omega), Option.bind_some]
  dsimp only
  rw [bString _ (by rw [List.length_append, List.length_cons, List.length_nil]; omega), Option.bind_some]
  refine ⟨_, rfl, ?_⟩
  show (strOf _).length ≤ 6
  rw [strOf_len, List.length_append, List.length_cons, List.length_nil]; omega
theorem putText_some (s : List UInt8) (h : s.length ≤ 20000) : ∃ r, m_impl_putText s = some r ∧ r.1.length ≤ s.length + 6 := by
 unfold m_impl_putText
 refine bind_some' (varText_some (s.length : Int) (by omega) (by omega)) ?_
 rintro ⟨r, u⟩ hr
 have hr : r.length ≤ 6 := hr
 dsimp only
 rw [if_pos (by show _ < 9223372036854775808; omega)]
 exact ⟨_, rfl, by show (r ++ s).length ≤ _; rw [List.length_append]; omega⟩
theorem putVar_some (x : Int) (h0 : 0 ≤ x) (h : x ≤ 1000000000) : ∃ r, m_spec_PutVar x = some r ∧ r.2.1.length ≤ 6 := by
 unfold m_spec_PutVar
 rw [decide_eq_false (by omega), cond_false]
 refine bind_some' (Q := fun t => ∃ (y : Int) (s : List Int), t = ((y, (), ()), s, ()) ∧ s.length ≤ 5)
  (loopC_some' _ (fun n t => ∃ (y : Int) (s : List Int), t = ((y, (), ()), s, ()) ∧ s.length ≤ 5 ∧ (0 ≤ y ∧ y ≤ 1000000000) ∧ y < vb s.length ∧ n = y.toNat) _ ?_ _ x.toNat _ ⟨x, [], rfl, by simp, by omega, by show x < 34359738368; omega, rfl⟩ (by omega)) ?_
 ·rintro n t k ⟨y, s, rfl, hs, hy0, hy, rfl⟩ hk
  dsimp only
  by_cases hgt : y ≥ 128
  ·obtain ⟨g1, g2⟩ := vb_step hs hy (by omega)
   rw [decide_eq_true hgt, cond_true, if_pos (by decide), if_pos (by simp only [List.length_cons, List.length_nil]; omega), if_pos (by decide)]
   have e : IntKind.wrap IntKind.i64 (Int.tdiv y 128) = y / 128 := by
    rw [Int.tdiv_eq_ediv_of_nonneg hy0.1, wr _ (by omega)]
   rw [e]
   refine hk (y / 128).toNat _ (by omega) ⟨y / 128, _, rfl, ?_, by omega, ?_, rfl⟩
   ·rw [List.length_append, List.length_cons, List.length_nil]; omega
   ·rw [List.length_append, List.length_cons, List.length_nil]; exact g2
  ·rw [decide_eq_false hgt, cond_false]
   exact ⟨_, rfl, y, s, rfl, hs⟩
 ·rintro t ⟨y, s, rfl, hs⟩
  dsimp only
  rw [if_pos (by simp only [List.length_cons, List.length_nil]; omega)]
  refine ⟨_, rfl, ?_⟩
  show (s ++ [_]).length ≤ 6
  rw [List.length_append, List.length_cons, List.length_nil]; omega
theorem putTextS_some (s : List UInt8) (h : s.length ≤ 20000) : ∃ r, m_spec_PutText s = some r ∧ r.1.length ≤ s.length + 6 := by
 unfold m_spec_PutText
 rw [decide_eq_false (by omega), cond_false]
 refine bind_some' (putVar_some (s.length : Int) (by omega) (by omega)) ?_
 rintro ⟨u0, r, u⟩ hr
 have hr : r.length ≤ 6 := hr
 dsimp only
 rw [if_pos (by rw [List.length_map]; omega)]
 exact ⟨_, rfl, by show (r ++ List.map _ s).length ≤ _; rw [List.length_append, List.length_map]; omega⟩
theorem wordText_some (x : Int) : ∃ r, m_impl_wordText x = some r ∧ r.1.length = 4 := by
 unfold m_impl_wordText
 rw [if_pos (by decide), if_pos (by decide), if_pos (by decide)]
 exact ⟨_, rfl, rfl⟩
theorem padW {m : Nat} (h : m % 64 = 56) (u v : List UInt8) (hu : u.length = 4) (hv : v.length = 4) (s : List Int) (hs : s.length = m) : (List.map (fun (n : Int) => UInt8.ofNat (Int.toNat n)) s ++ u ++ v).length % 64 = 0 := by
 rw [List.length_append, List.length_append, List.length_map, hu, hv, hs]; omega
theorem padded_some (s : List UInt8) (h : s.length ≤ 20000) : ∃ r, m_impl_padded s = some r ∧ r.1.length % 64 = 0 ∧ r.1.length ≤ 21000 := by
 unfold m_impl_padded
 rw [if_pos (by rw [List.length_map]; simp only [List.length_cons, List.length_nil]; omega)]
 refine bind_some' (Q := fun t => ∃ o : List Int, t = ((s, (), ()), o, ()) ∧ o.length % 64 = 56 ∧ o.length ≤ 20100)
  (loopC_some' _ (fun n t => ∃ o : List Int, t = ((s, (), ()), o, ()) ∧ n = (120 - o.length % 64) % 64 ∧ o.length + n ≤ 20100) _ ?_ _ ((120 - (s.length + 1) % 64) % 64) _ ⟨_, rfl, by rw [List.length_append, List.length_map]; rfl, by rw [List.length_append, List.length_map]; simp only [List.length_cons, List.length_nil]; omega⟩ (by omega)) ?_
 ·rintro n t k ⟨o, rfl, rfl, ho⟩ hk
  dsimp only
  rw [if_pos (by decide)]
  have e : Int.tmod (o.length : Int) 64 = ((o.length % 64 : Nat) : Int) := rfl
  rw [e]
  by_cases h56 : o.length % 64 = 56
  ·rw [show ((((o.length % 64 : Nat) : Int)) != 56) = false by rw [h56]; rfl, cond_false]
   exact ⟨_, rfl, o, rfl, h56, by omega⟩
  ·rw [show ((((o.length % 64 : Nat) : Int)) != 56) = true by rw [bne_iff_ne]; omega, cond_true, if_pos (by simp only [List.length_cons, List.length_nil]; omega)]
   refine hk ((120 - (o.length + 1) % 64) % 64) _ (by omega) ⟨_, rfl, by rw [List.length_append]; rfl, by rw [List.length_append]; simp only [List.length_cons, List.length_nil]; omega⟩
 ·rintro t ⟨o, rfl, h56, ho⟩
  dsimp only
  refine bind_some' (wordText_some _) ?_
  rintro ⟨u, u1⟩ hu
  have hu : u.length = 4 := hu
  dsimp only
  rw [if_pos (by rw [List.length_map, hu]; show _ < 9223372036854775808; omega), if_pos (by decide)]
  refine bind_some' (wordText_some _) ?_
  rintro ⟨v, u2⟩ hv
  have hv : v.length = 4 := hv
  dsimp only
  rw [if_pos (by rw [List.length_append, List.length_map, hu, hv]; show _ < 9223372036854775808; omega)]
  refine ⟨_, rfl, padW h56 u v hu hv o rfl, ?_⟩
  show (List.map _ o ++ u ++ v).length ≤ _
  rw [List.length_append, List.length_append, List.length_map, hu, hv]; omega
theorem readWord_some (s : List UInt8) (h : 4 ≤ s.length) : ∃ r, m_impl_readWord s = some r ∧ True := by
 unfold m_impl_readWord
 rw [if_pos (by omega), if_pos (by omega), if_pos (by decide), if_pos (by omega), if_pos (by decide), if_pos (by omega), if_pos (by decide)]
 exact ⟨_, rfl, trivial⟩
theorem wrapU_pos (x : Int) : 0 ≤ IntKind.wrap IntKind.u64 x := by
 simp [IntKind.wrap, IntKind.signed, IntKind.bits]; omega
theorem bitsU_pos (op : BinOp) (x y : Int) : 0 ≤ bitsOf op IntKind.u64 x y := by
 unfold bitsOf
 cases op <;> exact wrapU_pos _
theorem rot_some (x y : Int) : ∃ r, m_bits_RotateLeft32 x y = some r ∧ True := by
 unfold m_bits_RotateLeft32
 rw [if_pos (bitsU_pos ..), if_pos (wrapU_pos _)]
 exact ⟨_, rfl, trivial⟩
theorem gv0_len : List.length (α := Int) gv0 = 64 := rfl
theorem gv1_len : List.length (α := List Int) gv1 = 4 := rfl
theorem gv1_row (q : Nat) (h : q < 4) (d : List Int) : (List.getD (α := List Int) gv1 q d).length = 4 := by
 have : q = 0 ∨ q = 1 ∨ q = 2 ∨ q = 3 := by omega
 rcases this with rfl | rfl | rfl | rfl <;> rfl
theorem div16 (i : Nat) (h : i ≤ 1000) : IntKind.wrap IntKind.i64 (Int.tdiv (i : Int) 16) = ((i / 16 : Nat) : Int) := by
 have e : Int.tdiv (i : Int) 16 = ((i / 16 : Nat) : Int) := rfl
 rw [e, wr _ (by omega)]
theorem tmod16 (x : Int) (h : 0 ≤ x) : 0 ≤ Int.tmod x 16 ∧ Int.tmod x 16 ≤ 15 := by
 obtain ⟨n, rfl⟩ := Int.eq_ofNat_of_zero_le h
 have e : Int.tmod (n : Int) 16 = ((n % 16 : Nat) : Int) := rfl
 rw [e]; omega
theorem mix_some (st : List Int) (blk : List UInt8) (hb : blk.length = 64) : ∃ r, m_impl_mix st blk = some r ∧ r.1.length = 4 := by
 unfold m_impl_mix
 have h4 : ([List.getD st (nat_lit 0) (Int.ofNat (nat_lit 0)), List.getD st (nat_lit 1) (Int.ofNat (nat_lit 0)), List.getD st (nat_lit 2) (Int.ofNat (nat_lit 0)), List.getD st (nat_lit 3) (Int.ofNat (nat_lit 0))] : List Int).length = 4 := rfl
 generalize [List.getD st (nat_lit 0) (Int.ofNat (nat_lit 0)), List.getD st (nat_lit 1) (Int.ofNat (nat_lit 0)), List.getD st (nat_lit 2) (Int.ofNat (nat_lit 0)), List.getD st (nat_lit 3) (Int.ofNat (nat_lit 0))] = A at h4 ⊢
 have c0 : Int.toNat 0 < A.length := by rw [h4]; decide
 have c1 : Int.toNat 1 < A.length := by rw [h4]; decide
 have c2 : Int.toNat 2 < A.length := by rw [h4]; decide
 have c3 : Int.toNat 3 < A.length := by rw [h4]; decide
 rw [if_pos (by omega), if_pos c0, if_pos (by omega), if_pos c1, if_pos (by omega), if_pos c2, if_pos (by omega), if_pos c3]
 refine bind_some' (Q := fun t => ∃ a b c d : Int, t = (((), (), a, b, c, d, ()), A, Int.ofNat (nat_lit 0) :: List.replicate (nat_lit 3) (Int.ofNat (nat_lit 0)), ()))
  (loopC_some' _ (fun n t => ∃ (i : Nat) (a b c d : Int), t = ((blk, (), (), a, b, c, d, (i : Int), ()), A, Int.ofNat (nat_lit 0) :: List.replicate (nat_lit 3) (Int.ofNat (nat_lit 0)), ()) ∧ i ≤ 64 ∧ n = 64 - i) _ ?_ _ 64 _ ⟨0, _, _, _, _, rfl, by omega, rfl⟩ (by omega)) ?_
 ·rintro n t k ⟨i, a, b, c, d, rfl, hi, rfl⟩ hk
  dsimp only
  by_cases hlt : i < 64
  ·rw [decide_eq_true (show (i : Int) < 64 by omega), cond_true, if_pos (by decide)]
   refine bind_some' (Q := fun r => ∃ (f g : Int), r = ((blk, (), (), a, b, c, d, (i : Int), f, g, (i : Int), ()), A, Int.ofNat (nat_lit 0) :: List.replicate (nat_lit 3) (Int.ofNat (nat_lit 0)), ()) ∧ 0 ≤ g ∧ g ≤ 15) ?_ ?_
   ·rw [div16 i (by omega)]
    cases h0 : ((i / 16 : Nat) : Int) == 0 with
    | true =>
     have h0 : i / 16 = 0 := by rw [beq_iff_eq] at h0; omega
     exact ⟨_, rfl, _, _, rfl, by omega, by omega⟩
    | false =>
     rw [cond_false]
     have pass : ∀ {o : Option ((List UInt8 × Unit × Unit × Int × Int × Int × Int × Int × Int × Int × Int × Unit) × List Int × List Int × Unit)}, (∃ t, o = some t ∧ ∃ (f g : Int), t = ((blk, (), (), a, b, c, d, (i : Int), f, g, (i : Int), ()), A, Int.ofNat (nat_lit 0) :: List.replicate (nat_lit 3) (Int.ofNat (nat_lit 0)), ()) ∧ 0 ≤ g ∧ g ≤ 15) →
         ∃ t, Option.bind o (fun s => some ((s.1.1, (), (), s.1.2.2.2), s.2)) = some t ∧ ∃ (f g : Int), t = ((blk, (), (), a, b, c, d, (i : Int), f, g, (i : Int), ()), A, Int.ofNat (nat_lit 0) :: List.replicate (nat_lit 3) (Int.ofNat (nat_lit 0)), ()) ∧ 0 ≤ g ∧ g ≤ 15 := by
      rintro o ⟨t, rfl, f, g, rfl, hg⟩
      exact ⟨_, rfl, f, g, rfl, hg⟩
     refine pass ?_
     cases ((i / 16 : Nat) : Int) == 1 with
     | true =>
      rw [cond_true, if_pos (by decide)]
      have e : IntKind.wrap IntKind.i64 (IntKind.wrap IntKind.i64 (5 * (i : Int)) + 1) = 5 * (i : Int) + 1 := by rw [wr (5 * (i : Int)) (by omega), wr _ (by omega)]
      have := tmod16 (5 * (i : Int) + 1) (by omega)
      exact ⟨_, rfl, _, _, rfl, by rw [e]; exact this.1, by rw [e]; exact this.2⟩
     | false =>
      rw [cond_false]
      refine pass ?_
      cases ((i / 16 : Nat) : Int) == 2 with
      | true =>
       rw [cond_true, if_pos (by decide)]
       have e : IntKind.wrap IntKind.i64 (IntKind.wrap IntKind.i64 (3 * (i : Int)) + 5) = 3 * (i : Int) + 5 := by rw [wr (3 * (i : Int)) (by omega), wr _ (by omega)]
       have := tmod16 (3 * (i : Int) + 5) (by omega)
       exact ⟨_, rfl, _, _, rfl, by rw [e]; exact this.1, by rw [e]; exact this.2⟩
      | false =>
       rw [cond_false, if_pos (by decide)]
       have e : IntKind.wrap IntKind.i64 (7 * (i : Int)) = 7 * (i : Int) := wr (7 * (i : Int)) (by omega)
       have := tmod16 (7 * (i : Int)) (by omega)
       exact ⟨_, rfl, _, _, rfl, by rw [e]; exact this.1, by rw [e]; exact this.2⟩
   rintro t ⟨f, g, rfl, hg0, hg⟩
   dsimp only
   have hgl := gv0_len
   have hgl1 := gv1_len
   rw [if_pos (by rw [hgl]; omega), wr (4 * g) (by omega), if_pos (by rw [hb]; omega)]
   refine bind_some' (readWord_some _ (by rw [List.length_drop, List.length_take, hb]; omega)) ?_
   rintro ⟨wd, u0⟩ _
   have e4 : Int.tmod (i : Int) 4 = ((i % 4 : Nat) : Int) := rfl
   have hq : i / 16 < 4 := by omega
   dsimp only
   rw [if_pos (by decide), if_pos (by decide), div16 i (by omega), e4, if_pos (by rw [hgl1]; omega), Int.toNat_natCast, if_pos (by rw [gv1_row _ hq]; omega)]
   refine bind_some' (rot_some _ _) ?_
   rintro ⟨rt, u1⟩ _
   dsimp only
   rw [wr1 i (by omega)]
   exact hk (64 - (i + 1)) _ (by omega) ⟨i + 1, _, _, _, _, rfl, by omega, rfl⟩
  ·rw [decide_eq_false (by omega), cond_false]
   exact ⟨_, rfl, a, b, c, d, rfl⟩
 ·rintro t ⟨a, b, c, d, rfl⟩
  dsimp only
  rw [if_pos (by omega), if_pos c0, if_pos (by omega), if_pos c1, if_pos (by omega), if_pos c2, if_pos (by omega), if_pos c3]
  exact ⟨_, rfl, rfl⟩
theorem strong_some (s : List UInt8) (h : s.length ≤ 20000) : ∃ r, m_impl_strong s = some r ∧ r.1.length = 16 := by
 unfold m_impl_strong
 refine bind_some' (padded_some s h) ?_
 rintro ⟨p, u0⟩ ⟨hp, hpl⟩
 have hp : p.length % 64 = 0 := hp
 have hpl : p.length ≤ 21000 := hpl
 dsimp only
 refine bind_some' (Q := fun t => ∃ A : List Int, t = (((), ()), A, ()) ∧ A.length = 4)
  (loopC_some' _ (fun n t => ∃ (q : List UInt8) (A : List Int), t = (((), q, ()), A, ()) ∧ q.length % 64 = 0 ∧ A.length = 4 ∧ n = q.length) _ ?_ _ p.length _ ⟨p, _, rfl, hp, rfl, rfl⟩ (by omega)) ?_
 ·rintro n t k ⟨q, A, rfl, hq, hA, rfl⟩ hk
  dsimp only
  cases hn : q == nilOf UInt8 with
  | true => exact ⟨_, rfl, A, rfl, hA⟩
  | false =>
   have hne : q ≠ [] := by simpa [nilOf] using hn
   have hpos := List.length_pos_iff.2 hne
   rw [Bool.not_false, cond_true, if_pos (by omega)]
   refine bind_some' (mix_some _ _ (by simp only [List.length_drop, List.length_take]; omega)) ?_
   rintro ⟨B, u1⟩ hB
   have hB : B.length = 4 := hB
   dsimp only
   rw [if_pos (by omega)]
   refine hk (q.length - 64) _ (by omega) ⟨_, _, rfl, ?_, rfl, ?_⟩
   ·simp only [List.length_drop, List.length_take]; omega
   ·simp only [List.length_drop, List.length_take]; omega
 ·rintro t ⟨A, rfl, h4⟩
  dsimp only
  have c0 : Int.toNat 0 < A.length := by rw [h4]; decide
  have c1 : Int.toNat 1 < A.length := by rw [h4]; decide
  have c2 : Int.toNat 2 < A.length := by rw [h4]; decide
  have c3 : Int.toNat 3 < A.length := by rw [h4]; decide
  have sm : ∀ n : Nat, n ≤ 100 → n < 2 ^ 63 := fun n hn => by show n < 9223372036854775808; omega
  rw [if_pos (by omega), if_pos c0]
  refine bind_some' (wordText_some _) ?_
  rintro ⟨w0, u1⟩ h0
  have h0 : w0.length = 4 := h0
  dsimp only
  rw [if_pos (by omega), if_pos c1]
  refine bind_some' (wordText_some _) ?_
  rintro ⟨w1, u2⟩ h1
  have h1 : w1.length = 4 := h1
  dsimp only
  rw [if_pos (sm _ (by omega)), if_pos (by omega), if_pos c2]
  refine bind_some' (wordText_some _) ?_
  rintro ⟨w2, u3⟩ h2
  have h2 : w2.length = 4 := h2
  dsimp only
  rw [if_pos (sm _ (by rw [List.length_append]; omega)), if_pos (by omega), if_pos c3]
  refine bind_some' (wordText_some _) ?_
  rintro ⟨w3, u4⟩ h3
  have h3 : w3.length = 4 := h3
  dsimp only
  rw [if_pos (sm _ (by rw [List.length_append, List.length_append]; omega))]
  refine ⟨_, rfl, ?_⟩
  show (w0 ++ w1 ++ w2 ++ w3).length = 16
  rw [List.length_append, List.length_append, List.length_append]; omega
theorem wrapB (x : Int) : 0 ≤ IntKind.wrap IntKind.u8 x ∧ IntKind.wrap IntKind.u8 x ≤ 255 := by
 simp [IntKind.wrap, IntKind.signed, IntKind.bits]; omega
theorem wrapB_id (x : Int) (h : 0 ≤ x ∧ x ≤ 255) : IntKind.wrap IntKind.u8 x = x := by
 simp [IntKind.wrap, IntKind.signed, IntKind.bits]; omega
theorem getWord_some (s : List Int) (h : s.length = 4) : ∃ r, m_spec_GetWord s = some r ∧ True := by
 unfold m_spec_GetWord
 rw [show (((s.length : Int)) != 4) = false by rw [h]; rfl, cond_false, if_pos (by omega), if_pos (by omega), if_pos (by omega), if_pos (by omega)]
 exact ⟨_, rfl, trivial⟩
theorem k_some (i : Nat) (h : i < 64) : ∃ r, m_spec_l04K (i : Int) = some r ∧ True := by
 have e : m_spec_l04K (i : Int) = (if 0 ≤ (i : Int) ∧ (i : Int) < ((List.length (α := Int) gv0 : Nat) : Int) then if Int.toNat (i : Int) < List.length (α := Int) gv0 then some (List.getD (α := Int) gv0 (Int.toNat (i : Int)) (Int.ofNat (nat_lit 0)), ()) else none else none) := rfl
 have hg := gv0_len
 rw [e, hg, if_pos (by omega), if_pos (by omega)]
 exact ⟨_, rfl, trivial⟩
def s16 : List Int := [7, 12, 17, 22, 5, 9, 14, 20, 4, 11, 16, 23, 6, 10, 15, 21]
theorem s_some (i : Nat) (h : i < 64) : ∃ r, m_spec_l04S (i : Int) = some r ∧ True := by
 have e : m_spec_l04S (i : Int) = (if (16 : Int) ≠ 0 then if (4 : Int) ≠ 0 then if 0 ≤ IntKind.wrap IntKind.i64 (IntKind.wrap IntKind.i64 (4 * IntKind.wrap IntKind.i64 (Int.tdiv (i : Int) 16)) + Int.tmod (i : Int) 4) ∧ IntKind.wrap IntKind.i64 (IntKind.wrap IntKind.i64 (4 * IntKind.wrap IntKind.i64 (Int.tdiv (i : Int) 16)) + Int.tmod (i : Int) 4) < ((s16.length : Nat) : Int) then if Int.toNat (IntKind.wrap IntKind.i64 (IntKind.wrap IntKind.i64 (4 * IntKind.wrap IntKind.i64 (Int.tdiv (i : Int) 16)) + Int.tmod (i : Int) 4)) < s16.length then some (List.getD s16 (Int.toNat (IntKind.wrap IntKind.i64 (IntKind.wrap IntKind.i64 (4 * IntKind.wrap IntKind.i64 (Int.tdiv (i : Int) 16)) + Int.tmod (i : Int) 4))) (Int.ofNat (nat_lit 0)), ()) else none else none else none else none) := rfl
 have hg : s16.length = 16 := rfl
 have e4 : Int.tmod (i : Int) 4 = ((i % 4 : Nat) : Int) := rfl
 rw [e, hg, div16 i (by omega), e4, wr (4 * ((i / 16 : Nat) : Int)) (by omega), wr _ (by omega), if_pos (by decide), if_pos (by decide), if_pos (by omega), if_pos (by omega)]
 exact ⟨_, rfl, trivial⟩
theorem putWord_some (x : Int) : ∃ r, m_spec_PutWord x = some r ∧ r.1.length = 4 ∧ ∀ v ∈ r.1, 0 ≤ v ∧ v ≤ 255 := by
 unfold m_spec_PutWord
 rw [if_pos (by decide), if_pos (by decide), if_pos (by decide), if_pos (by decide), if_pos (by decide), if_pos (by decide)]
 refine ⟨_, rfl, rfl, fun v hv => ?_⟩
 simp only [List.mem_cons, List.not_mem_nil, or_false] at hv
 rcases hv with rfl | rfl | rfl | rfl <;> exact wrapB _
theorem mixS_some (st : List Int) (blk : List UInt8) (hb : blk.length = 64) : ∃ r, m_spec_MixStrong st blk = some r ∧ r.1.length = 4 := by
 unfold m_spec_MixStrong
 rw [show (((blk.length : Int)) != 64) = false by rw [hb]; rfl, cond_false]
 have h4 : ([List.getD st (nat_lit 0) (Int.ofNat (nat_lit 0)), List.getD st (nat_lit 1) (Int.ofNat (nat_lit 0)), List.getD st (nat_lit 2) (Int.ofNat (nat_lit 0)), List.getD st (nat_lit 3) (Int.ofNat (nat_lit 0))] : List Int).length = 4 := rfl
 generalize [List.getD st (nat_lit 0) (Int.ofNat (nat_lit 0)), List.getD st (nat_lit 1) (Int.ofNat (nat_lit 0)), List.getD st (nat_lit 2) (Int.ofNat (nat_lit 0)), List.getD st (nat_lit 3) (Int.ofNat (nat_lit 0))] = A at h4 ⊢
 have c0 : Int.toNat 0 < A.length := by rw [h4]; decide
 have c1 : Int.toNat 1 < A.length := by rw [h4]; decide
 have c2 : Int.toNat 2 < A.length := by rw [h4]; decide
 have c3 : Int.toNat 3 < A.length := by rw [h4]; decide
 rw [if_pos (by omega), if_pos c0, if_pos (by omega), if_pos c1, if_pos (by omega), if_pos c2, if_pos (by omega), if_pos c3]
 refine bind_some' (Q := fun t => ∃ a b c d : Int, t = (((), (), a, b, c, d, ()), A, Int.ofNat (nat_lit 0) :: List.replicate (nat_lit 3) (Int.ofNat (nat_lit 0)), ()))
  (loopC_some' _ (fun n t => ∃ (i : Nat) (a b c d : Int), t = ((blk, (), (), a, b, c, d, (i : Int), ()), A, Int.ofNat (nat_lit 0) :: List.replicate (nat_lit 3) (Int.ofNat (nat_lit 0)), ()) ∧ i ≤ 64 ∧ n = 64 - i) _ ?_ _ 64 _ ⟨0, _, _, _, _, rfl, by omega, rfl⟩ (by omega)) ?_
 ·rintro n t k ⟨i, a, b, c, d, rfl, hi, rfl⟩ hk
  dsimp only
  by_cases hlt : i < 64
  ·rw [decide_eq_true (show (i : Int) < 64 by omega), cond_true, if_pos (by decide)]
   refine bind_some' (Q := fun r => ∃ (f g : Int), r = ((blk, (), (), a, b, c, d, (i : Int), f, g, ()), A, Int.ofNat (nat_lit 0) :: List.replicate (nat_lit 3) (Int.ofNat (nat_lit 0)), ()) ∧ 0 ≤ g ∧ g ≤ 15) ?_ ?_
   ·rw [div16 i (by omega)]
    cases h0 : ((i / 16 : Nat) : Int) == 0 with
    | true =>
     have h0 : i / 16 = 0 := by rw [beq_iff_eq] at h0; omega
     exact ⟨_, rfl, _, _, rfl, by omega, by omega⟩
    | false =>
     rw [cond_false]
     have pass : ∀ {o : Option ((List UInt8 × Unit × Unit × Int × Int × Int × Int × Int × Int × Int × Unit) × List Int × List Int × Unit)}, (∃ t, o = some t ∧ ∃ (f g : Int), t = ((blk, (), (), a, b, c, d, (i : Int), f, g, ()), A, Int.ofNat (nat_lit 0) :: List.replicate (nat_lit 3) (Int.ofNat (nat_lit 0)), ()) ∧ 0 ≤ g ∧ g ≤ 15) →
         ∃ t, Option.bind o (fun s => some ((s.1.1, (), (), s.1.2.2.2), s.2)) = some t ∧ ∃ (f g : Int), t = ((blk, (), (), a, b, c, d, (i : Int), f, g, ()), A, Int.ofNat (nat_lit 0) :: List.replicate (nat_lit 3) (Int.ofNat (nat_lit 0)), ()) ∧ 0 ≤ g ∧ g ≤ 15 := by
      rintro o ⟨t, rfl, f, g, rfl, hg⟩
      exact ⟨_, rfl, f, g, rfl, hg⟩
     refine pass ?_
     cases ((i / 16 : Nat) : Int) == 1 with
     | true =>
      rw [cond_true, if_pos (by decide)]
      have e : IntKind.wrap IntKind.i64 (IntKind.wrap IntKind.i64 (5 * (i : Int)) + 1) = 5 * (i : Int) + 1 := by rw [wr (5 * (i : Int)) (by omega), wr _ (by omega)]
      have := tmod16 (5 * (i : Int) + 1) (by omega)
      exact ⟨_, rfl, _, _, rfl, by rw [e]; exact this.1, by rw [e]; exact this.2⟩
     | false =>
      rw [cond_false]
      refine pass ?_
      cases ((i / 16 : Nat) : Int) == 2 with
      | true =>
       rw [cond_true, if_pos (by decide)]
       have e : IntKind.wrap IntKind.i64 (IntKind.wrap IntKind.i64 (3 * (i : Int)) + 5) = 3 * (i : Int) + 5 := by rw [wr (3 * (i : Int)) (by omega), wr _ (by omega)]
       have := tmod16 (3 * (i : Int) + 5) (by omega)
       exact ⟨_, rfl, _, _, rfl, by rw [e]; exact this.1, by rw [e]; exact this.2⟩
      | false =>
       rw [cond_false, if_pos (by decide)]
       have e : IntKind.wrap IntKind.i64 (7 * (i : Int)) = 7 * (i : Int) := wr (7 * (i : Int)) (by omega)
       have := tmod16 (7 * (i : Int)) (by omega)
       exact ⟨_, rfl, _, _, rfl, by rw [e]; exact this.1, by rw [e]; exact this.2⟩
   rintro t ⟨f, g, rfl, hg0, hg⟩
   dsimp only
   rw [wr (4 * g) (by omega), wr (4 * g + 4) (by omega), if_pos (by rw [hb]; omega)]
   refine bind_some' (getWord_some _ (by rw [List.length_map, List.length_drop, List.length_take, hb]; omega)) ?_
   rintro ⟨wd, u0⟩ _
   dsimp only
   refine bind_some' (k_some i hlt) ?_
   rintro ⟨kk, u1⟩ _
   dsimp only
   refine bind_some' (s_some i hlt) ?_
   rintro ⟨ss, u2⟩ _
   dsimp only
   rw [if_pos (wrapU_pos _), if_pos (wrapU_pos _), wr1 i (by omega)]
   exact hk (64 - (i + 1)) _ (by omega) ⟨i + 1, _, _, _, _, rfl, by omega, rfl⟩
  ·rw [decide_eq_false (by omega), cond_false]
   exact ⟨_, rfl, a, b, c, d, rfl⟩
 ·rintro t ⟨a, b, c, d, rfl⟩
  dsimp only
  rw [if_pos (by omega), if_pos c0, if_pos (by omega), if_pos c1, if_pos (by omega), if_pos c2, if_pos (by omega), if_pos c3]
  exact ⟨_, rfl, rfl⟩
theorem padS_some (s : List UInt8) (h : s.length ≤ 20000) : ∃ r, m_spec_PadStrong s = some r ∧ r.1.length % 64 = 0 ∧ 0 < r.1.length ∧ r.1.length ≤ 21000 := by
 unfold m_spec_PadStrong
 rw [decide_eq_false (by omega), cond_false, if_pos (by rw [List.length_map]; simp only [List.length_cons, List.length_nil]; omega)]
 refine bind_some' (Q := fun t => ∃ o : List Int, t = ((s, (), ()), o, ()) ∧ o.length % 64 = 56 ∧ o.length ≤ 20100)
  (loopC_some' _ (fun n t => ∃ o : List Int, t = ((s, (), ()), o, ()) ∧ n = (120 - o.length % 64) % 64 ∧ o.length + n ≤ 20100) _ ?_ _ ((120 - (s.length + 1) % 64) % 64) _ ⟨_, rfl, by rw [List.length_append, List.length_map]; rfl, by rw [List.length_append, List.length_map]; simp only [List.length_cons, List.length_nil]; omega⟩ (by omega)) ?_
 ·rintro n t k ⟨o, rfl, rfl, ho⟩ hk
  dsimp only
  rw [if_pos (by decide)]
  have e : Int.tmod (o.length : Int) 64 = ((o.length % 64 : Nat) : Int) := rfl
  rw [e]
  by_cases h56 : o.length % 64 = 56
  ·rw [show ((((o.length % 64 : Nat) : Int)) != 56) = false by rw [h56]; rfl, cond_false]
   exact ⟨_, rfl, o, rfl, h56, by omega⟩
  ·rw [show ((((o.length % 64 : Nat) : Int)) != 56) = true by rw [bne_iff_ne]; omega, cond_true, if_pos (by simp only [List.length_cons, List.length_nil]; omega)]
   refine hk ((120 - (o.length + 1) % 64) % 64) _ (by omega) ⟨_, rfl, by rw [List.length_append]; rfl, by rw [List.length_append]; simp only [List.length_cons, List.length_nil]; omega⟩
 ·rintro t ⟨o, rfl, h56, ho⟩
  dsimp only
  refine bind_some' (Q := fun t => ∃ q : List Int, t = (((), ()), q, ()) ∧ q.length = o.length + 8)
   (loopC_some' _ (fun n t => ∃ (j : Nat) (y : Int) (q : List Int), t = (((), y, (j : Int), ()), q, ()) ∧ j ≤ 8 ∧ q.length = o.length + j ∧ n = 8 - j) _ ?_ _ 8 _ ⟨0, _, _, rfl, by omega, rfl, rfl⟩ (by omega)) ?_
  ·rintro n t k ⟨j, y, q, rfl, hj, hq, rfl⟩ hk
   dsimp only
   by_cases hlt : j < 8
   ·rw [decide_eq_true (show (j : Int) < 8 by omega), cond_true, if_pos (by decide), if_pos (by simp only [List.length_cons, List.length_nil]; omega), if_pos (by decide), wr1 j (by omega)]
    exact hk (8 - (j + 1)) _ (by omega) ⟨j + 1, _, _, rfl, by omega, by rw [List.length_append]; simp only [List.length_cons, List.length_nil]; omega, rfl⟩
   ·have : j = 8 := by omega
    subst this
    rw [decide_eq_false (by omega), cond_false]
    exact ⟨_, rfl, q, rfl, hq⟩
  ·rintro t ⟨q, rfl, hq⟩
   exact ⟨_, rfl, by show q.length % 64 = 0; omega, by show 0 < q.length; omega, by show q.length ≤ 21000; omega⟩
def Bd (l : List Int) : Prop := ∀ v ∈ l, 0 ≤ v ∧ v ≤ 255
theorem bd_get {l : List Int} (h : Bd l) (i : Nat) : 0 ≤ l.getD i (Int.ofNat (nat_lit 0)) ∧ l.getD i (Int.ofNat (nat_lit 0)) ≤ 255 := by
 by_cases hi : i < l.length
 ·exact h _ (getD_mem _ hi)
 ·rw [List.getD_eq_getElem?_getD, List.getElem?_eq_none (by omega)]; decide
theorem bd_set {l : List Int} (h : Bd l) (i : Nat) {v : Int} (hv : 0 ≤ v ∧ v ≤ 255) : Bd (l.set i v) := fun x hx => by
 rcases List.mem_or_eq_of_mem_set hx with hx | rfl
 ·exact h x hx
 ·exact hv
theorem e16_b (l : List Int) (h : Bd l) : Bd ([List.getD l (nat_lit 0) (Int.ofNat (nat_lit 0)), List.getD l (nat_lit 1) (Int.ofNat (nat_lit 0)), List.getD l (nat_lit 2) (Int.ofNat (nat_lit 0)), List.getD l (nat_lit 3) (Int.ofNat (nat_lit 0)), List.getD l (nat_lit 4) (Int.ofNat (nat_lit 0)), List.getD l (nat_lit 5) (Int.ofNat (nat_lit 0)), List.getD l (nat_lit 6) (Int.ofNat (nat_lit 0)), List.getD l (nat_lit 7) (Int.ofNat (nat_lit 0)), List.getD l (nat_lit 8) (Int.ofNat (nat_lit 0)), List.getD l (nat_lit 9) (Int.ofNat (nat_lit 0)), List.getD l (nat_lit 10) (Int.ofNat (nat_lit 0)), List.getD l (nat_lit 11) (Int.ofNat (nat_lit 0)), List.getD l (nat_lit 12) (Int.ofNat (nat_lit 0)), List.getD l (nat_lit 13) (Int.ofNat (nat_lit 0)), List.getD l (nat_lit 14) (Int.ofNat (nat_lit 0)), List.getD l (nat_lit 15) (Int.ofNat (nat_lit 0))] : List Int) := fun v hv => by
 simp only [List.mem_cons, List.not_mem_nil, or_false] at hv
 rcases hv with rfl | rfl | rfl | rfl | rfl | rfl | rfl | rfl | rfl | rfl | rfl | rfl | rfl | rfl | rfl | rfl <;> exact bd_get h _
theorem strongS_some (s : List UInt8) (h : s.length ≤ 20000) : ∃ r, m_spec_StrongOf s = some r ∧ r.1.length = 16 ∧ Bd r.1 := by
 unfold m_spec_StrongOf
 refine bind_some' (padS_some s h) ?_
 rintro ⟨p, u0⟩ ⟨hp, hp0, hpl⟩
 have hp : p.length % 64 = 0 := hp
 have hp0 : 0 < p.length := hp0
 have hpl : p.length ≤ 21000 := hpl
 dsimp only
 rw [show (((p.length : Int)) == 0) = false by rw [beq_eq_false_iff_ne]; omega, cond_false]
 refine bind_some' (Q := fun t => ∃ (Z st : List Int), t = (((), (), (), ()), Z, List.replicate (16 : Nat) (0 : Int), st, ()) ∧ st.length = 4)
  (loopC_some' _ (fun n t => ∃ (i : Nat) (Z st : List Int), t = (((), (), p, (), (i : Int), ()), Z, List.replicate (16 : Nat) (0 : Int), st, ()) ∧ i % 64 = 0 ∧ i ≤ p.length ∧ st.length = 4 ∧ n = p.length - i) _ ?_ _ p.length _ ⟨0, _, _, rfl, rfl, by omega, rfl, rfl⟩ (by omega)) ?_
 ·rintro n t k ⟨i, Z, st, rfl, hi, hil, hst, rfl⟩ hk
  dsimp only
  rw [wr ((i : Int) + 64) (by omega)]
  by_cases hlt : i + 64 ≤ p.length
  ·rw [decide_eq_true (by omega), cond_true, if_pos (by omega)]
   refine bind_some' (mixS_some _ _ (by rw [List.length_map, List.length_drop, List.length_take]; omega)) ?_
   rintro ⟨B, u1⟩ hB
   dsimp only
   exact hk (p.length - (i + 64)) _ (by omega) ⟨i + 64, _, _, rfl, by omega, by omega, rfl, rfl⟩
  ·rw [decide_eq_false (by omega), cond_false]
   exact ⟨_, rfl, Z, st, rfl, hst⟩
 ·rintro t ⟨Z, st, rfl, hst⟩
  dsimp only
  refine bind_some' (Q := fun t => ∃ (Z R : List Int), t = (((), (), ()), Z, R, ()) ∧ R.length = 16 ∧ Bd R)
   (loopC_some' _ (fun n t => ∃ (j : Nat) (R : List Int), t = (((), (), (), (j : Int), ()), Z, R, st, ()) ∧ j ≤ 4 ∧ R.length = 16 ∧ Bd R ∧ n = 4 - j) _ ?_ _ 4 _ ⟨0, _, rfl, by omega, rfl, (fun v hv => by rw [(List.mem_replicate.1 hv).2]; decide), rfl⟩ (by omega)) ?_
  ·rintro n t k ⟨j, R, rfl, hj, hR, hB, rfl⟩ hk
   dsimp only
   by_cases hlt : j < 4
   ·rw [decide_eq_true (show (j : Int) < 4 by omega), cond_true, if_pos (by omega), if_pos (by omega)]
    refine bind_some' (putWord_some _) ?_
    rintro ⟨w, u1⟩ ⟨hw, hwb⟩
    have hw : w.length = 4 := hw
    have hwb : Bd w := hwb
    dsimp only
    refine bind_some' (Q := fun t => ∃ R : List Int, t = (((), (), (), (j : Int), ()), Z, R, st, ()) ∧ R.length = 16 ∧ Bd R)
     (loopC_some' _ (fun n t => ∃ (q : Nat) (R : List Int), t = (((), (), (), (j : Int), w, (q : Int), ()), Z, R, st, ()) ∧ q ≤ 4 ∧ R.length = 16 ∧ Bd R ∧ n = 4 - q) _ ?_ _ 4 _ ⟨0, R, rfl, by omega, hR, hB, rfl⟩ (by omega)) ?_
    ·rintro n t kk ⟨q, R, rfl, hq, hR, hB, rfl⟩ hkk
     dsimp only
     by_cases hlq : q < 4
     ·rw [decide_eq_true (show (q : Int) < 4 by omega), cond_true, if_pos (by omega), wr (4 * (j : Int)) (by omega), wr (4 * (j : Int) + (q : Int)) (by omega), if_pos (by omega), if_pos (by omega), wr1 q (by omega)]
      exact hkk (4 - (q + 1)) _ (by omega) ⟨q + 1, _, rfl, by omega, by rw [List.length_set]; exact hR, bd_set hB _ (bd_get hwb _), rfl⟩
     ·rw [decide_eq_false (by omega), cond_false]
      exact ⟨_, rfl, R, rfl, hR, hB⟩
    ·rintro t ⟨R2, rfl, hR2, hB2⟩
     dsimp only
     rw [wr1 j (by omega)]
     exact hk (4 - (j + 1)) _ (by omega) ⟨j + 1, R2, rfl, by omega, hR2, hB2, rfl⟩
   ·rw [decide_eq_false (by omega), cond_false]
    exact ⟨_, rfl, Z, R, rfl, hR, hB⟩
  ·rintro t ⟨Z2, R, rfl, hR, hB⟩
   exact ⟨_, rfl, rfl, e16_b _ (e16_b R hB)⟩
theorem div16b (x : Int) (h : 0 ≤ x ∧ x ≤ 255) : IntKind.wrap IntKind.u8 (Int.tdiv x 16) = x / 16 := by
 rw [Int.tdiv_eq_ediv_of_nonneg h.1, wrapB_id _ (by omega)]
theorem hexS_some (l : List Int) (hl : l.length ≤ 1000) (hB : Bd l) : ∃ r, m_spec_HexText l = some r ∧ r.1.length = 2 * l.length := by
 unfold m_spec_HexText
 rw [decide_eq_false (by omega), cond_false]
 refine bind_some' (Q := fun t => ∃ o : List Int, t = (((), ()), o, ()) ∧ o.length = 2 * l.length)
  (loopC_some' _ (fun n t => ∃ (i : Nat) (o : List Int), t = ((l, (), (i : Int), ()), o, ()) ∧ i ≤ l.length ∧ o.length = 2 * i ∧ n = l.length - i) _ ?_ _ l.length _ ⟨0, _, rfl, by omega, rfl, rfl⟩ (by omega)) ?_
 ·rintro n t k ⟨i, o, rfl, hi, ho, rfl⟩ hk
  dsimp only
  by_cases hlt : i < l.length
  ·have hx : (0 : Int) ≤ (i : Int) ∧ (i : Int) < (l.length : Int) := by omega
   have hb := bd_get hB i
   rw [decide_eq_true (show (i : Int) < (l.length : Int) by omega), cond_true, if_pos hx, if_pos (by decide), Int.toNat_natCast]
   generalize List.getD l i (Int.ofNat (nat_lit 0)) = x at hb ⊢
   have hm := tmod16 x hb.1
   rw [div16b x hb, if_pos (⟨by omega, by show x / 16 < ((16 : Nat) : Int); omega⟩), if_pos hx, if_pos (by decide), if_pos (⟨by omega, by show Int.tmod x 16 < ((16 : Nat) : Int); omega⟩), if_pos (by simp only [List.length_cons, List.length_nil]; omega), wr1 i (by omega)]
   exact hk (l.length - (i + 1)) _ (by omega) ⟨i + 1, _, rfl, by omega, by rw [List.length_append]; simp only [List.length_cons, List.length_nil]; omega, rfl⟩
  ·have : i = l.length := by omega
   subst this
   rw [decide_eq_false (by omega), cond_false]
   exact ⟨_, rfl, o, rfl, ho⟩
 ·rintro t ⟨o, rfl, ho⟩
  exact ⟨_, rfl, by show (List.map _ o).length = _; rw [List.length_map]; exact ho⟩
theorem hexI_some (l : List UInt8) (hl : l.length ≤ 1000) : ∃ r, m_impl_hexText l = some r ∧ r.1.length = 2 * l.length := by
 unfold m_impl_hexText
 rw [wr (2 * (l.length : Int)) (by omega), if_pos (⟨by omega, by omega, by omega, by show _ < (4611686018427387904 : Int); omega⟩)]
 refine bind_some' (Q := fun t => ∃ o : List Int, t = (((), ()), o, ()) ∧ o.length = 2 * l.length)
  (loopC_some' _ (fun n t => ∃ (i : Nat) (o : List Int), t = ((l, (), (l.length : Int), (i : Int), ()), o, ()) ∧ i ≤ l.length ∧ o.length = 2 * i ∧ n = l.length - i) _ ?_ _ l.length _ ⟨0, _, rfl, by omega, rfl, rfl⟩ (by omega)) ?_
 ·rintro n t k ⟨i, o, rfl, hi, ho, rfl⟩ hk
  dsimp only
  by_cases hlt : i < l.length
  ·have hx : (0 : Int) ≤ (i : Int) ∧ (i : Int) < (l.length : Int) := by omega
   have hb : 0 ≤ (((l.getD i 0).toNat : Nat) : Int) ∧ (((l.getD i 0).toNat : Nat) : Int) ≤ 255 := by
    have := (l.getD i 0).toNat_lt
    omega
   rw [decide_eq_true (show (i : Int) < (l.length : Int) by omega), cond_true, if_pos hx, if_pos (by decide), Int.toNat_natCast]
   generalize (((l.getD i 0).toNat : Nat) : Int) = x at hb ⊢
   have hm := tmod16 x hb.1
   rw [div16b x hb, if_pos (⟨by omega, by show x / 16 < ((16 : Nat) : Int); omega⟩), if_pos hx, if_pos (by decide), if_pos (⟨by omega, by show Int.tmod x 16 < ((16 : Nat) : Int); omega⟩), if_pos (by simp only [List.length_cons, List.length_nil]; omega), wr1 i (by omega)]
   exact hk (l.length - (i + 1)) _ (by omega) ⟨i + 1, _, rfl, by omega, by rw [List.length_append]; simp only [List.length_cons, List.length_nil]; omega, rfl⟩
  ·have : i = l.length := by omega
   subst this
   rw [decide_eq_false (by omega), cond_false]
   exact ⟨_, rfl, o, rfl, ho⟩
 ·rintro t ⟨o, rfl, ho⟩
  exact ⟨_, rfl, by show (List.map _ o).length = _; rw [List.length_map]; exact ho⟩
theorem node_nums {x : NodeT} (h : nodeOk x = true) : (0 ≤ x.2.1 ∧ x.2.1 ≤ 2) ∧ (0 ≤ x.2.2.1 ∧ x.2.2.1 ≤ 511) ∧ (0 ≤ x.2.2.2.1 ∧ x.2.2.2.1 ≤ 1000000000) ∧ (0 ≤ x.2.2.2.2.2.2 ∧ x.2.2.2.2.2.2 ≤ 200) := by
 unfold nodeOk inI at h
 simp only [Bool.and_eq_true, decide_eq_true_eq] at h
 obtain ⟨⟨_, ⟨h1, h2⟩, h3, h4⟩, hk⟩ := h
 unfold nodeKind inI at hk
 refine ⟨?_, ⟨h1, h2⟩, ⟨h3, h4⟩, ?_⟩
 ·by_cases e0 : x.2.1 = 0
  ·omega
  ·by_cases e1 : x.2.1 = 1
   ·omega
   ·by_cases e2 : x.2.1 = 2
    ·omega
    ·rw [show (x.2.1 == 0) = false by rw [beq_eq_false_iff_ne]; exact e0, show (x.2.1 == 1) = false by rw [beq_eq_false_iff_ne]; exact e1, show (x.2.1 == 2) = false by rw [beq_eq_false_iff_ne]; exact e2] at hk
     cases hk
 ·cases h0 : x.2.1 == 0 with
  | true =>
   rw [h0] at hk
   simp only [cond_true, Bool.and_eq_true, beq_iff_eq] at hk
   omega
  | false =>
   rw [h0, cond_false] at hk
   cases h1 : x.2.1 == 1 with
   | true =>
    rw [h1] at hk
    simp only [cond_true, Bool.and_eq_true, decide_eq_true_eq] at hk
    omega
   | false =>
    rw [h1, cond_false] at hk
    cases h2 : x.2.1 == 2 with
    | true =>
     rw [h2] at hk
     simp only [cond_true, Bool.and_eq_true, beq_iff_eq] at hk
     omega
    | false => rw [h2] at hk; cases hk
theorem wStr (s : List UInt8) (o : List Int) (h : o.length + s.length ≤ 1000000) : m_strings_Builder_WriteString s () o = some (((s.length : Int), (), ()), (), o ++ List.map (fun (b : UInt8) => ((UInt8.toNat b : Nat) : Int)) s, ()) := by
 unfold m_strings_Builder_WriteString m_strings_Builder_copyCheck
 rw [Option.bind_some]
 dsimp only
 rw [if_pos (by rw [List.length_map]; omega)]
theorem sumI_some (l : List NodeT) (h : RightP l) (hA : AllS l) (hl : l.length ≤ 14) : ∃ r, m_impl_TreeSum l = some r ∧ r.1.length = 32 := by
 have hS := smallS2 hA (by omega)
 unfold m_impl_TreeSum
 rw [impl_treeOk l hS, Option.bind_some, treeS_of h]
 simp only [Bool.not_true, cond_false]
 have sm : ∀ n : Nat, n ≤ 100000 → n < 2 ^ 63 := fun n hn => by show n < 9223372036854775808; omega
 refine bind_some' (Q := fun t => ∃ o : List Int, t = (((), ()), (), o, ()) ∧ o.length ≤ 14 * 500)
  (loopC_some' _ (fun n t => ∃ (i : Nat) (o : List Int), t = (((), l, (l.length : Int), (i : Int), ()), (), o, ()) ∧ i ≤ l.length ∧ o.length ≤ i * 500 ∧ n = l.length - i) _ ?_ _ l.length _ ⟨0, _, rfl, by omega, by simp [nilOf], rfl⟩ (by omega)) ?_
 ·rintro n t k ⟨i, o, rfl, hi, ho, rfl⟩ hk
  dsimp only
  by_cases hlt : i < l.length
  ·have hx : (0 : Int) ≤ (i : Int) ∧ (i : Int) < (l.length : Int) := by omega
   have hmem : nd l i ∈ l := nd_mem hlt
   obtain ⟨n1, n2, n3, n4⟩ := node_nums (h.ok _ hmem)
   obtain ⟨z1, z2, z3⟩ := hA _ hmem
   rw [decide_eq_true (show (i : Int) < (l.length : Int) by omega), cond_true, if_pos hx, Int.toNat_natCast]
   show ∃ r, Option.bind (m_impl_putText (nd l i).1) _ = some r ∧ _
   refine bind_some' (putText_some _ (by omega)) ?_
   rintro ⟨r0, u0⟩ g0
   have g0 : r0.length ≤ (nd l i).1.length + 6 := g0
   refine bind_some' (varText_some (nd l i).2.1 n1.1 (by omega)) ?_
   rintro ⟨r1, u1⟩ g1
   have g1 : r1.length ≤ 6 := g1
   dsimp only
   rw [if_pos (sm _ (by omega))]
   refine bind_some' (varText_some (nd l i).2.2.1 n2.1 (by omega)) ?_
   rintro ⟨r2, u2⟩ g2
   have g2 : r2.length ≤ 6 := g2
   dsimp only
   rw [if_pos (sm _ (by rw [List.length_append]; omega))]
   refine bind_some' (varText_some (nd l i).2.2.2.1 n3.1 n3.2) ?_
   rintro ⟨r3, u3⟩ g3
   have g3 : r3.length ≤ 6 := g3
   dsimp only
   rw [if_pos (sm _ (by rw [List.length_append, List.length_append]; omega))]
   refine bind_some' (putText_some (nd l i).2.2.2.2.1 (by omega)) ?_
   rintro ⟨r4, u4⟩ g4
   have g4 : r4.length ≤ (nd l i).2.2.2.2.1.length + 6 := g4
   dsimp only
   rw [if_pos (sm _ (by rw [List.length_append, List.length_append, List.length_append]; omega))]
   refine bind_some' (putText_some (nd l i).2.2.2.2.2.1 (by omega)) ?_
   rintro ⟨r5, u5⟩ g5
   have g5 : r5.length ≤ (nd l i).2.2.2.2.2.1.length + 6 := g5
   dsimp only
   rw [if_pos (sm _ (by rw [List.length_append, List.length_append, List.length_append, List.length_append]; omega))]
   refine bind_some' (varText_some (nd l i).2.2.2.2.2.2 n4.1 (by omega)) ?_
   rintro ⟨r6, u6⟩ g6
   have g6 : r6.length ≤ 6 := g6
   dsimp only
   have hlen : (r0 ++ r1 ++ r2 ++ r3 ++ r4 ++ r5 ++ r6).length ≤ 500 := by
    simp only [List.length_append]; omega
   rw [if_pos (sm _ (by rw [List.length_append, List.length_append, List.length_append, List.length_append, List.length_append]; omega)), wStr _ o (by omega), Option.bind_some]
   dsimp only
   rw [wr1 i (by omega)]
   exact hk (l.length - (i + 1)) _ (by omega) ⟨i + 1, _, rfl, by omega, by rw [List.length_append, List.length_map]; omega, rfl⟩
  ·rw [decide_eq_false (by omega), cond_false]
   exact ⟨_, rfl, o, rfl, Nat.le_trans ho (Nat.mul_le_mul_right _ (Nat.le_trans hi hl))⟩
 ·rintro t ⟨o, rfl, ho⟩
  dsimp only
  have hL : m_strings_Builder_Len () o = some ((o.length : Int), (), o, ()) := rfl
  rw [hL, Option.bind_some]
  dsimp only
  rw [decide_eq_false (show ¬((o.length : Int) > 20000) by omega), cond_false, bString o (by omega), Option.bind_some]
  dsimp only
  refine bind_some' (strong_some (strOf o) (by rw [strOf_len]; omega)) ?_
  rintro ⟨s, u1⟩ hs
  have hs : s.length = 16 := hs
  dsimp only
  refine bind_some' (hexI_some s (by omega)) ?_
  rintro ⟨r, u2⟩ hr
  exact ⟨_, rfl, by show r.length = 32; have hr : r.length = 2 * s.length := hr; omega⟩
theorem sumS_some (l : List NodeT) (h : RightP l) (hA : AllS l) (hl : l.length ≤ 14) : ∃ r, m_spec_TreeSum l = some r ∧ r.1.length = 32 := by
 have hS := smallS2 hA (by omega)
 unfold m_spec_TreeSum
 rw [spec_treeOk l hS, Option.bind_some, treeS_of h]
 simp only [Bool.not_true, cond_false]
 refine bind_some' (Q := fun t => ∃ o : List Int, t = (((), ()), o, ()) ∧ o.length ≤ 14 * 500)
  (loopC_some' _ (fun n t => ∃ (i : Nat) (o : List Int), t = ((l, (), (i : Int), ()), o, ()) ∧ i ≤ l.length ∧ o.length ≤ i * 500 ∧ n = l.length - i) _ ?_ _ l.length _ ⟨0, _, rfl, by omega, by simp [nilOf], rfl⟩ (by omega)) ?_
 ·rintro n t k ⟨i, o, rfl, hi, ho, rfl⟩ hk
  dsimp only
  by_cases hlt : i < l.length
  ·have hx : (0 : Int) ≤ (i : Int) ∧ (i : Int) < (l.length : Int) := by omega
   have hmem : nd l i ∈ l := nd_mem hlt
   obtain ⟨n1, n2, n3, n4⟩ := node_nums (h.ok _ hmem)
   obtain ⟨z1, z2, z3⟩ := hA _ hmem
   rw [decide_eq_true (show (i : Int) < (l.length : Int) by omega), cond_true, if_pos hx, Int.toNat_natCast]
   show ∃ r, Option.bind (m_spec_PutText (nd l i).1) _ = some r ∧ _
   refine bind_some' (putTextS_some _ (by omega)) ?_
   rintro ⟨r0, u0⟩ g0
   have g0 : r0.length ≤ (nd l i).1.length + 6 := g0
   dsimp only
   rw [if_pos (by omega)]
   refine bind_some' (putVar_some (nd l i).2.1 n1.1 (by omega)) ?_
   rintro ⟨v1, r1, u1⟩ g1
   have g1 : r1.length ≤ 6 := g1
   dsimp only
   rw [if_pos (by rw [List.length_append]; omega)]
   refine bind_some' (putVar_some (nd l i).2.2.1 n2.1 (by omega)) ?_
   rintro ⟨v2, r2, u2⟩ g2
   have g2 : r2.length ≤ 6 := g2
   dsimp only
   rw [if_pos (by rw [List.length_append, List.length_append]; omega)]
   refine bind_some' (putVar_some (nd l i).2.2.2.1 n3.1 n3.2) ?_
   rintro ⟨v3, r3, u3⟩ g3
   have g3 : r3.length ≤ 6 := g3
   dsimp only
   rw [if_pos (by rw [List.length_append, List.length_append, List.length_append]; omega)]
   refine bind_some' (putTextS_some (nd l i).2.2.2.2.1 (by omega)) ?_
   rintro ⟨r4, u4⟩ g4
   have g4 : r4.length ≤ (nd l i).2.2.2.2.1.length + 6 := g4
   dsimp only
   rw [if_pos (by rw [List.length_append, List.length_append, List.length_append, List.length_append]; omega)]
   refine bind_some' (putTextS_some (nd l i).2.2.2.2.2.1 (by omega)) ?_
   rintro ⟨r5, u5⟩ g5
   have g5 : r5.length ≤ (nd l i).2.2.2.2.2.1.length + 6 := g5
   dsimp only
   rw [if_pos (by rw [List.length_append, List.length_append, List.length_append, List.length_append, List.length_append]; omega)]
   refine bind_some' (putVar_some (nd l i).2.2.2.2.2.2 n4.1 (by omega)) ?_
   rintro ⟨v6, r6, u6⟩ g6
   have g6 : r6.length ≤ 6 := g6
   dsimp only
   have hlen : (o ++ r0 ++ r1 ++ r2 ++ r3 ++ r4 ++ r5 ++ r6).length ≤ o.length + 500 := by
    simp only [List.length_append]; omega
   rw [if_pos (by rw [List.length_append, List.length_append, List.length_append, List.length_append, List.length_append, List.length_append]; omega), wr1 i (by omega)]
   exact hk (l.length - (i + 1)) _ (by omega) ⟨i + 1, _, rfl, by omega, by omega, rfl⟩
  ·rw [decide_eq_false (by omega), cond_false]
   exact ⟨_, rfl, o, rfl, Nat.le_trans ho (Nat.mul_le_mul_right _ (Nat.le_trans hi hl))⟩
 ·rintro t ⟨o, rfl, ho⟩
  dsimp only
  rw [decide_eq_false (show ¬((o.length : Int) > 20000) by omega), cond_false]
  refine bind_some' (strongS_some _ (by rw [List.length_map]; omega)) ?_
  rintro ⟨s, u1⟩ ⟨hs, hB⟩
  have hB : Bd s := hB
  dsimp only
  rw [if_pos (⟨by decide, by decide, by decide, by show ((16 : Nat) : Int) ≤ ((16 : Nat) : Int); exact Int.le_refl _⟩)]
  refine bind_some' (hexS_some _ (by simp) (fun v hv => e16_b s hB v (List.mem_of_mem_take (List.mem_of_mem_drop hv)))) ?_
  rintro ⟨r, u2⟩ hr
  exact ⟨_, rfl, hr⟩
theorem sums_ok : SumsOk := fun l h hA hl => by
 obtain ⟨⟨a, u⟩, e1, h1⟩ := sumI_some l h hA hl
 obtain ⟨⟨b, v⟩, e2, h2⟩ := sumS_some l h hA hl
 exact ⟨a, b, e1, e2, (show a.length = 32 from h1).trans (show b.length = 32 from h2).symm⟩
theorem law_FnChildren (c : List Int) : m_laws_FnChildren c = some (true, ()) := law_of_sums sums_ok c
end Go.AM
