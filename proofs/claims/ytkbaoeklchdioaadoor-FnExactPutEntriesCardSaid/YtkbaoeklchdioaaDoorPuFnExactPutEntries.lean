/- The plain law: the model of the law answers true. -/
import Derived.Test.YtkbaoeklchdioaaDoorMoFnExactPutEntries
set_option linter.unusedVariables false
set_option linter.unusedSimpArgs false
namespace Go.AM
open Go
theorem loopC_inv {S α : Type} (F : S → (S → Option α) → Option α) (I : Nat → S → Prop) (g : S → Option α)
    (h : ∀ n s k, I n s → (∀ m s', m < n → I m s' → k s' = g s') → F s k = g s) : ∀ fuel n s, I n s → n < fuel → loopC fuel F s = g s := by
  intro fuel
  induction fuel with
  | zero => intro n s _ h0; omega
  | succ f ih => intro n s hI hn; exact h n s _ hI (fun m s' hm hI' => ih m s' hI' (by omega))
theorem wr (x : Int) (h : -9223372036854775808 ≤ x ∧ x ≤ 9223372036854775807) : IntKind.wrap .i64 x = x := by
  simp [IntKind.wrap, IntKind.signed, IntKind.bits]; omega
/-- A loop ends in some result with Q. -/
theorem loopC_some' {S α : Type} (F : S → (S → Option α) → Option α) (I : Nat → S → Prop) (Q : α → Prop)
    (h : ∀ n s k, I n s → (∀ m s', m < n → I m s' → ∃ r, k s' = some r ∧ Q r) → ∃ r, F s k = some r ∧ Q r) : ∀ fuel n s, I n s → n < fuel → ∃ r, loopC fuel F s = some r ∧ Q r := by
  intro fuel
  induction fuel with
  | zero => intro n s _ h0; omega
  | succ f ih => intro n s hI hn; exact h n s _ hI (fun m s' hm hI' => ih m s' hI' (by omega))
theorem bind_some' {α β : Type} {o : Option α} {f : α → Option β} {Q : α → Prop} {R : β → Prop} (h : ∃ r, o = some r ∧ Q r) (h2 : ∀ r, Q r → ∃ t, f r = some t ∧ R t) : ∃ t, Option.bind o f = some t ∧ R t := by
  obtain ⟨r, rfl, hq⟩ := h
  exact h2 r hq
theorem bind_eq {α β : Type} {o : Option α} {f : α → Option β} {x : α} {r : Option β} (h : o = some x) (h2 : f x = r) : Option.bind o f = r := by rw [h]; exact h2
theorem bind_of {α β : Type} {o x : Option α} {f : α → Option β} {r : Option β} (h : o = x) (h2 : Option.bind x f = r) : Option.bind o f = r := by rw [h]; exact h2
theorem bind_ex {α β : Type} {o : Option α} {f : α → Option β} {Q : α → Prop} {r : Option β} (h : ∃ x, o = some x ∧ Q x) (h2 : ∀ x, Q x → f x = r) : Option.bind o f = r := by obtain ⟨x, rfl, hq⟩ := h; exact h2 x hq
theorem joinC_of {S α : Type} {o x : Option (S ⊕ α)} {k : S → Option α} {r : Option α} (h : o = x) (h2 : joinC x k = r) : joinC o k = r := by rw [h]; exact h2
theorem joinC_ex {S α : Type} {o : Option (S ⊕ α)} {k : S → Option α} {Q : S ⊕ α → Prop} {r : Option α} (h : ∃ x, o = some x ∧ Q x) (h2 : ∀ x, Q x → joinC (some x) k = r) : joinC o k = r := by obtain ⟨x, rfl, hq⟩ := h; exact h2 x hq
theorem wr1 (i : Nat) (h : i ≤ 4611686018427387904) : IntKind.wrap .i64 ((i : Int) + 1) = ((i + 1 : Nat) : Int) := by rw [wr _ (by omega)]; rfl
theorem joinC_inl' {S α : Type} {o : Option (S ⊕ α)} {k : S → Option α} {s : S} (h : o = some (.inl s)) : joinC o k = k s := by rw [h]; rfl
theorem joinC_inr' {S α : Type} {o : Option (S ⊕ α)} {k : S → Option α} {a : α} (h : o = some (.inr a)) : joinC o k = some a := by rw [h]; rfl
end Go.AM
set_option linter.unusedVariables false
set_option linter.unusedSimpArgs false
namespace Go.AM
open Go
def fillN : Nat → Nat → List Bool → List Bool
  | 0, _, s => s
  | n + 1, i, s => fillN n (i + 1) (s.set i true)
theorem fillN_length : ∀ n i s, (fillN n i s).length = s.length
  | 0, _, _ => rfl
  | n + 1, i, s => by rw [fillN, fillN_length n]; simp
def by8 (p : List UInt8) (i : Nat) : Nat := (p.getD i 0).toNat
theorem by8_lt (p i) : by8 p i < 256 := (p.getD i 0).toNat_lt
def cls (p : List UInt8) (i : Nat) (first : Bool) (s : List Bool) : Nat × List Bool :=
  if i < p.length ∧ (first = true ∨ by8 p i ≠ 93) then
    if i + 2 < p.length ∧ by8 p (i + 1) = 45 ∧ by8 p (i + 2) ≠ 93 then cls p (i + 3) false (fillN (by8 p (i + 2) + 1 - by8 p i) (by8 p i) s)
    else cls p (i + 1) false (s.set (by8 p i) true)
  else (i, s)
termination_by p.length - i
end Go.AM
set_option linter.unusedVariables false
set_option linter.unusedSimpArgs false
namespace Go.AM
open Go
/-! ### names and paths -/
def okCh (c : Int) : Bool := (decide (c ≥ 97) && decide (c ≤ 122)) || ((decide (c ≥ 65) && decide (c ≤ 90)) || ((decide (c ≥ 48) && decide (c ≤ 57)) || (c == 46 || (c == 95 || c == 45))))
def okB (b : UInt8) : Bool := okCh (b.toNat : Int)
def nameOk (s : List UInt8) : Bool := (decide (1 ≤ s.length) && decide (s.length ≤ 20)) && (!(s == [46]) && (!(s == [46, 46]) && s.all okB))
theorem in_eq (x a b : Int) : m_spec_l01In x a b = some (decide (x ≥ a) && decide (x ≤ b), ()) := by
  unfold m_spec_l01In; cases decide (x ≥ a) <;> rfl
theorem within_eq (x a b : Int) : m_impl_within x a b = some (decide (x ≥ a) && decide (x ≤ b), ()) := by
  unfold m_impl_within; cases decide (x ≥ a) <;> rfl
theorem all_drop {α : Type} (p : α → Bool) (d : α) {s : List α} {i : Nat} (h : i < s.length) : (s.drop i).all p = (p (s.getD i d) && (s.drop (i + 1)).all p) := by
  rw [List.drop_eq_getElem_cons h, List.all_cons, List.getD_eq_getElem?_getD, List.getElem?_eq_getElem h]; rfl
theorem len_ge (s : List UInt8) : decide ((s.length : Int) ≥ 1) = decide (1 ≤ s.length) := decide_eq_decide.2 (by omega)
theorem len_le (s : List UInt8) : decide ((s.length : Int) ≤ 20) = decide (s.length ≤ 20) := decide_eq_decide.2 (by omega)
theorem spec_nameOk (s : List UInt8) (hs : s.length ≤ 1099511627776) : m_spec_NameOk s = some (nameOk s, ()) := by
  unfold m_spec_NameOk
  rw [in_eq, Option.bind_some, len_ge, len_le]
  unfold nameOk
  cases h1 : (decide (1 ≤ s.length) && decide (s.length ≤ 20)) with
  | false => rfl
  | true =>
    simp only [Bool.not_true, cond_false, Bool.true_and]
    cases h2 : (s == [46]) with
    | true => rfl
    | false =>
      simp only [cond_false, Bool.not_false, Bool.true_and]
      cases h3 : (s == [46, 46]) with
      | true => rfl
      | false =>
        simp only [Option.bind_some, cond_false, Bool.not_false, Bool.true_and]
        refine joinC_of (loopC_inv _ (fun n t => ∃ i : Nat, t = ((s, (i : Int), ()), ()) ∧ i ≤ s.length ∧ n = s.length - i)
          (fun t => some (if (s.drop t.1.2.1.toNat).all okB then .inl ((), ()) else .inr (false, ()))) ?_ _ s.length _ ⟨0, rfl, by omega, rfl⟩ (by omega)) ?_
        rotate_left
        · show joinC (some (if (s.drop 0).all okB = true then _ else _)) _ = _
          rw [List.drop_zero]
          cases s.all okB <;> rfl
        · rintro n t k ⟨i, rfl, hi, rfl⟩ hk
          dsimp only
          by_cases hl : i < s.length
          · have hx : 0 ≤ (i : Int) ∧ (i : Int) < (s.length : Int) := by omega
            rw [decide_eq_true (by omega), cond_true, if_pos hx]
            refine bind_eq (x := ((s, (i : Int), !okB (s.getD i 0), ()), ())) ?_ ?_
            · simp only [in_eq, Option.bind_some, if_pos hx, bne, okB, okCh, Int.toNat_natCast]
              have hb : (s.getD i 0).toNat < 256 := UInt8.toNat_lt _
              rw [wr _ (by omega)]
              generalize ((s.getD i 0).toNat : Int) = c
              cases decide (c ≥ 97) <;> cases decide (c ≤ 122) <;> cases decide (c ≥ 65) <;> cases decide (c ≤ 90) <;> cases decide (c ≥ 48) <;> cases decide (c ≤ 57) <;> cases c == 46 <;> cases c == 95 <;> cases c == 45 <;> rfl
            · dsimp only
              rw [Int.toNat_natCast, all_drop okB 0 hl]
              cases okB (s.getD i 0) with
              | false => rfl
              | true =>
                show k _ = _
                rw [wr1 i (by omega)]
                exact hk (s.length - (i + 1)) _ (by omega) ⟨i + 1, rfl, by omega, rfl⟩
          · rw [decide_eq_false (by omega), cond_false, Int.toNat_natCast, List.drop_eq_nil_of_le (by omega)]
            rfl
theorem impl_nameOk (s : List UInt8) (hs : s.length ≤ 1099511627776) : m_impl_NameOk s = some (nameOk s, ()) := by
  unfold m_impl_NameOk
  refine joinC_of (loopC_inv _ (fun n t => ∃ i : Nat, t = ((s, (s.length : Int), (i : Int), ()), ()) ∧ i ≤ s.length ∧ n = s.length - i)
          (fun t => some (if (s.drop t.1.2.2.1.toNat).all okB then .inl ((s, ()), ()) else .inr (false, ()))) ?_ _ s.length _ ⟨0, rfl, by omega, rfl⟩ (by omega)) ?_
  rotate_left
  · show joinC (some (if (s.drop 0).all okB = true then _ else _)) _ = _
    rw [List.drop_zero]
    unfold nameOk
    cases s.all okB with
    | false => simp only [Bool.and_false]; rfl
    | true =>
      show Option.bind (Option.bind (m_impl_within _ _ _) _) _ = _
      rw [within_eq, Option.bind_some, len_ge, len_le]
      dsimp only
      cases (decide (1 ≤ s.length) && decide (s.length ≤ 20)) <;> cases s == [46] <;> cases s == [46, 46] <;> rfl
  · rintro n t k ⟨i, rfl, hi, rfl⟩ hk
    dsimp only
    by_cases hl : i < s.length
    · have hx : 0 ≤ (i : Int) ∧ (i : Int) < (s.length : Int) := by omega
      rw [decide_eq_true (by omega), cond_true, if_pos hx]
      refine bind_eq (x := ((s, (s.length : Int), (i : Int), !okB (s.getD i 0), ()), ())) ?_ ?_
      · simp only [okB, okCh, Int.toNat_natCast]
        cases decide ((((s.getD i 0).toNat : Nat) : Int) ≥ 97) <;> cases decide ((((s.getD i 0).toNat : Nat) : Int) ≤ 122) <;> cases decide ((((s.getD i 0).toNat : Nat) : Int) ≥ 65) <;> cases decide ((((s.getD i 0).toNat : Nat) : Int) ≤ 90) <;> cases decide ((((s.getD i 0).toNat : Nat) : Int) ≥ 48) <;> cases decide ((((s.getD i 0).toNat : Nat) : Int) ≤ 57) <;> cases (((s.getD i 0).toNat : Nat) : Int) == 46 <;> cases (((s.getD i 0).toNat : Nat) : Int) == 95 <;> cases (((s.getD i 0).toNat : Nat) : Int) == 45 <;> rfl
      · dsimp only
        rw [Int.toNat_natCast, all_drop okB 0 hl]
        cases okB (s.getD i 0) with
        | false => rfl
        | true =>
          show k _ = _
          rw [wr1 i (by omega)]
          exact hk (s.length - (i + 1)) _ (by omega) ⟨i + 1, rfl, by omega, rfl⟩
    · rw [decide_eq_false (by omega), cond_false, Int.toNat_natCast, List.drop_eq_nil_of_le (by omega)]
      rfl
/-- What stands between the slashes. -/
def split : List UInt8 → List (List UInt8)
  | [] => [[]]
  | c :: r => if c = 47 then [] :: split r else match split r with
    | [] => [[c]]
    | h :: t => (c :: h) :: t
def prep (x : List UInt8) : List (List UInt8) → List (List UInt8)
  | [] => [x]
  | h :: t => (x ++ h) :: t
theorem split_ne (s : List UInt8) : split s ≠ [] := by
  cases s with
  | nil => simp [split]
  | cons c r => unfold split; split; simp; split <;> simp
theorem split_slash {c : UInt8} {r : List UInt8} (h : c = 47) : split (c :: r) = [] :: split r := by rw [split, if_pos h]
theorem split_other {c : UInt8} {r : List UInt8} (h : c ≠ 47) : split (c :: r) = prep [c] (split r) := by
  rw [split, if_neg h]; unfold prep; rcases split r with _ | ⟨h, t⟩ <;> rfl
theorem prep_prep (x y : List UInt8) (l : List (List UInt8)) (h : l ≠ []) : prep x (prep y l) = prep (x ++ y) l := by
  cases l with
  | nil => exact absurd rfl h
  | cons a t => simp [prep]
theorem split_len : ∀ s : List UInt8, (split s).length ≤ s.length + 1
  | [] => by simp [split]
  | c :: r => by
    have := split_len r
    by_cases h : c = 47
    · rw [split_slash h]; simp; omega
    · rw [split_other h]; unfold prep; split <;> simp_all; omega
theorem getD_cons {s : List UInt8} {i : Nat} (h : i < s.length) : s.drop i = s.getD i 0 :: s.drop (i + 1) := by
  rw [List.drop_eq_getElem_cons h, List.getD_eq_getElem?_getD, List.getElem?_eq_getElem h]; rfl
theorem take_snoc {s : List UInt8} {i f : Nat} (h : i < s.length) (hf : f ≤ i) : (s.take (i + 1)).drop f = (s.take i).drop f ++ [s.getD i 0] := by
  rw [List.take_add_one, List.drop_append_of_le_length (by simp; omega), List.getD_eq_getElem?_getD, List.getElem?_eq_getElem h]; rfl
theorem spec_names (s : List UInt8) (hs : s.length ≤ 8796093022206) : m_spec_l02Names s = some (split s, ()) := by
  unfold m_spec_l02Names
  refine bind_ex (loopC_some' _ (fun n t => ∃ (f i : Nat) (o : List (List UInt8)), t = ((s, (), (f : Int), (i : Int), ()), o, ()) ∧ f ≤ i ∧ i ≤ s.length ∧ o.length ≤ i ∧ o ++ prep ((s.take i).drop f) (split (s.drop i)) = split s ∧ n = s.length - i)
    (fun r => ∃ (f : Nat) (o : List (List UInt8)), r = ((s, (), (f : Int), ()), o, ()) ∧ f ≤ s.length ∧ o.length ≤ s.length ∧ o ++ [s.drop f] = split s) ?_ _ s.length _ ⟨0, 0, [], rfl, by omega, by omega, by simp, ?_, rfl⟩ (by omega)) ?_
  rotate_left 2
  · rintro r ⟨f, o, rfl, h1, h2, h3⟩
    dsimp only
    rw [if_pos (by omega), if_pos (by simp only [List.length_cons, List.length_nil]; omega)]
    rw [Int.toNat_natCast, Int.toNat_natCast, List.take_length, h3]
  · rintro n t k ⟨f, i, o, rfl, hf, hi, ho, he, rfl⟩ hk
    dsimp only
    by_cases hl : i < s.length
    · have hx : 0 ≤ (i : Int) ∧ (i : Int) < (s.length : Int) := by omega
      rw [decide_eq_true (by omega), cond_true, if_pos hx]
      simp only [Int.toNat_natCast]
      have hd := getD_cons hl
      rw [hd] at he
      by_cases hc : s.getD i 0 = 47
      · rw [show (((s.getD i 0).toNat : Int) == 47) = true by rw [hc]; rfl, cond_true, if_pos (by omega), if_pos (by simp only [List.length_cons, List.length_nil]; omega), Option.bind_some]
        dsimp only
        rw [wr1 i (by omega)]
        refine hk (s.length - (i + 1)) _ (by omega) ⟨i + 1, i + 1, _, rfl, by omega, by omega, by simp; omega, ?_, rfl⟩
        rw [split_slash hc] at he
        rw [← he, List.append_assoc, show (s.take (i + 1)).drop (i + 1) = [] from List.drop_eq_nil_of_le (by rw [List.length_take]; omega)]
        unfold prep
        rcases hsp : split (s.drop (i + 1)) with _ | ⟨a, b⟩
        · exact absurd hsp (split_ne _)
        · simp
      · rw [show (((s.getD i 0).toNat : Int) == 47) = false by
          rw [beq_eq_false_iff_ne]; intro h; exact hc (UInt8.toNat.inj (by show _ = 47; omega)), cond_false, Option.bind_some]
        dsimp only
        rw [wr1 i (by omega)]
        refine hk (s.length - (i + 1)) _ (by omega) ⟨f, i + 1, _, rfl, by omega, by omega, by omega, ?_, rfl⟩
        rw [split_other hc, prep_prep _ _ _ (split_ne _)] at he
        rw [take_snoc hl hf]
        exact he
    · rw [decide_eq_false (by omega), cond_false]
      refine ⟨_, rfl, f, o, rfl, by omega, by omega, ?_⟩
      rw [← he, List.drop_eq_nil_of_le (by omega : s.length ≤ i), List.take_of_length_le (by omega)]
      simp [split, prep]
  · simp only [List.drop_zero, List.nil_append, List.take_zero, List.drop_nil]
    rcases hsp : split s with _ | ⟨a, b⟩
    · exact absurd hsp (split_ne _)
    · rfl
theorem index_slash (s : List UInt8) : (Go.Lib.indexByte s 47 = -1 ∧ split s = [s]) ∨ ∃ k : Nat, k < s.length ∧ Go.Lib.indexByte s 47 = k ∧ split s = s.take k :: split (s.drop (k + 1)) ∧ s.count 47 = (s.drop (k + 1)).count 47 + 1 := by
  induction s with
  | nil => exact .inl ⟨rfl, rfl⟩
  | cons c r ih =>
    by_cases hc : c = 47
    · refine .inr ⟨0, by simp, ?_, ?_, ?_⟩
      · rw [hc]; rfl
      · rw [split_slash hc]; rfl
      · rw [hc]; simp
    · have hb : (c == 47) = false := by simp [hc]
      rcases ih with ⟨h1, h2⟩ | ⟨k, hk, h1, h2, h3⟩
      · refine .inl ⟨?_, ?_⟩
        · unfold Go.Lib.indexByte; rw [hb, h1]; rfl
        · rw [split_other hc, h2]; rfl
      · refine .inr ⟨k + 1, by simp; omega, ?_, ?_, ?_⟩
        · unfold Go.Lib.indexByte; rw [hb, h1]
          have : ((k : Int) == -1) = false := by rw [beq_eq_false_iff_ne]; omega
          simp [this]
        · rw [split_other hc, h2]; rfl
        · rw [List.count_cons, hb, h3]; simp
theorem count_slash (s : List UInt8) : (split s).length = s.count 47 + 1 := by
  induction s with
  | nil => rfl
  | cons c r ih =>
    by_cases hc : c = 47
    · rw [split_slash hc, hc]; simp [ih]
    · rw [split_other hc, List.count_cons]
      have hb : (c == 47) = false := by simp [hc]
      unfold prep
      rcases hsp : split r with _ | ⟨a, b⟩
      · exact absurd hsp (split_ne _)
      · rw [hsp] at ih; simp [hb] at ih ⊢; omega
theorem index_eq (s : List UInt8) : m_strings_Index s = some (Go.Lib.indexByte s 47, ()) := by
  unfold m_strings_Index m_stringslite_Index
  by_cases h : s = [47]
  · subst h; rfl
  · rw [show (([47] : List UInt8) == s) = false by rw [beq_eq_false_iff_ne]; exact fun h' => h h'.symm]
    rfl
theorem genSplit_eq (s : List UInt8) (hs : s.length ≤ 8796093022206) : m_strings_genSplit s = some (split s, ()) := by
  unfold m_strings_genSplit
  refine bind_eq (x := (((s.count 47 : Nat) : Int), ())) rfl ?_
  have hcl : s.count 47 ≤ s.length := List.count_le_length
  dsimp only
  rw [wr ((s.length : Int) + 1) (by omega), wr (((s.count 47 : Nat) : Int) + 1) (by omega), if_neg (show ¬((s.length : Int) + 1 < ((s.count 47 : Nat) : Int) + 1) by omega), if_pos (by omega), wr (((s.count 47 : Nat) : Int) + 1 - 1) (by omega)]
  have hn : (((s.count 47 : Nat) : Int) + 1).toNat = s.count 47 + 1 := by omega
  rw [hn]
  refine bind_ex (loopC_some' _ (fun n t => ∃ (r : List UInt8) (i : Nat) (a : List (List UInt8)), t = ((r, (), (), ((s.count 47 : Nat) : Int) + 1 - 1, (), (i : Int), ()), a, ()) ∧ i + r.count 47 = s.count 47 ∧ r.length ≤ s.length ∧ a.length = s.count 47 + 1 ∧ a.take i ++ split r = split s ∧ n = r.length)
    (fun t => ∃ (r : List UInt8) (i : Nat) (a : List (List UInt8)), t = ((r, (), (i : Int), ()), a, ()) ∧ i ≤ s.count 47 ∧ a.length = s.count 47 + 1 ∧ a.take i ++ [r] = split s) ?_ _ s.length _ ⟨s, 0, _, rfl, by omega, by omega, by simp, rfl, rfl⟩ (by omega)) ?_
  · rintro n t k ⟨r, i, a, rfl, h1, h2, h3, h4, rfl⟩ hk
    dsimp only
    by_cases hl : i < s.count 47
    · rw [decide_eq_true (by omega), cond_true, index_eq, Option.bind_some]
      dsimp only
      rcases index_slash r with ⟨g1, g2⟩ | ⟨m, hm, g1, g2, g3⟩
      · rw [g1, decide_eq_true (by omega), cond_true]
        exact ⟨_, rfl, r, i, a, rfl, by omega, h3, by rw [g2] at h4; exact h4⟩
      · rw [g1, decide_eq_false (by omega), cond_false, wr ((m : Int) + 0) (by omega)]
        simp only [List.length_cons, List.length_nil]
        rw [show ((0 + 1 : Nat) : Int) = 1 from rfl, wr1 m (by omega), if_pos (by omega), if_pos (by omega), if_pos (by omega), if_pos (by omega), wr1 i (by omega)]
        refine hk (r.drop (m + 1)).length _ (by rw [List.length_drop]; omega) ⟨r.drop (m + 1), i + 1, a.set i (r.take m), ?_, by omega, by rw [List.length_drop]; omega, ?_, ?_, rfl⟩
        · simp only [Int.toNat_natCast, List.take_length, Int.add_zero]; rfl
        · rw [List.length_set]; exact h3
        · rw [List.take_add_one, List.take_set_of_le (by omega), ← h4, g2]
          rw [List.getElem?_set_self (by omega)]
          simp
    · rw [decide_eq_false (by omega), cond_false]
      refine ⟨_, rfl, r, i, a, rfl, by omega, h3, ?_⟩
      rcases index_slash r with ⟨g1, g2⟩ | ⟨m, hm, g1, g2, g3⟩
      · rw [g2] at h4; exact h4
      · omega
  · rintro t ⟨r, i, a, rfl, h1, h2, h3⟩
    dsimp only
    rw [if_pos (by omega), if_pos (by omega), wr1 i (by omega), if_pos (by rw [List.length_set]; omega)]
    rw [Int.toNat_natCast, Int.toNat_natCast, List.take_add_one, List.take_set_of_le (by omega), List.getElem?_set_self (by omega)]
    show some (a.take i ++ [r], ()) = _
    rw [h3]
theorem split_eq (s : List UInt8) (hs : s.length ≤ 8796093022206) : m_strings_Split s = some (split s, ()) := by
  unfold m_strings_Split; rw [genSplit_eq s hs]; rfl
def names (s : List UInt8) : List (List UInt8) := if s.length ≤ 168 ∧ (split s).length ≤ 8 ∧ (split s).all nameOk = true then split s else []
def pathOk (s : List UInt8) : Bool := decide (s.length ≤ 168) && (decide ((split s).length ≤ 8) && (split s).all nameOk)
theorem names_ok (s : List UInt8) : names s = if pathOk s then split s else [] := by
  unfold names pathOk
  by_cases h1 : s.length ≤ 168 <;> by_cases h2 : (split s).length ≤ 8 <;> by_cases h3 : (split s).all nameOk = true <;> simp [h1, h2, h3]
theorem split_mem_len (s : List UInt8) : ∀ x ∈ split s, x.length ≤ s.length := by
  induction s with
  | nil => intro x hx; simp [split] at hx; subst hx; simp
  | cons c r ih =>
    intro x hx
    by_cases hc : c = 47
    · rw [split_slash hc] at hx
      rcases List.mem_cons.1 hx with rfl | hx
      · simp
      · have := ih x hx; simp; omega
    · rw [split_other hc] at hx
      unfold prep at hx
      rcases hsp : split r with _ | ⟨a, b⟩
      · exact absurd hsp (split_ne _)
      · rw [hsp] at hx ih
        rcases List.mem_cons.1 hx with rfl | hx
        · have := ih a (by simp); simp; omega
        · have := ih x (by simp [hx]); simp; omega
/-- Names of at most twenty bytes, at most eight: the text is of at most 167. -/
theorem split_sum (s : List UInt8) : s.length + 1 = ((split s).map (fun x => x.length + 1)).sum := by
  induction s with
  | nil => rfl
  | cons c r ih =>
    by_cases hc : c = 47
    · rw [split_slash hc]; simp at ih ⊢; omega
    · rw [split_other hc]; unfold prep
      rcases hsp : split r with _ | ⟨a, b⟩
      · exact absurd hsp (split_ne _)
      · rw [hsp] at ih; simp at ih ⊢; omega
theorem sum_le {l : List (List UInt8)} (h : l.all nameOk = true) : (l.map (fun x => x.length + 1)).sum ≤ 21 * l.length := by
  induction l with
  | nil => simp
  | cons a t ih =>
    rw [List.all_cons, Bool.and_eq_true] at h
    have := ih h.2
    have h1 := h.1
    unfold nameOk at h1
    simp only [Bool.and_eq_true, decide_eq_true_eq] at h1
    simp; omega
theorem path_len {s : List UInt8} (h1 : (split s).length ≤ 8) (h2 : (split s).all nameOk = true) : s.length ≤ 167 := by
  have := split_sum s; have := sum_le h2; omega
theorem spec_pathOk (s : List UInt8) : m_spec_PathOk s = some (pathOk s, ()) := by
  unfold m_spec_PathOk
  by_cases hs : s.length ≤ 200
  · rw [decide_eq_false (by omega), cond_false, spec_names s (by omega), Option.bind_some]
    have hl := split_len s
    refine joinC_of (loopC_inv _ (fun n t => ∃ i : Nat, t = ((split s, (i : Int), ()), ()) ∧ i ≤ (split s).length ∧ n = (split s).length - i)
          (fun t => some (if ((split s).drop t.1.2.1.toNat).all nameOk then .inl ((split s, ()), ()) else .inr (false, ()))) ?_ _ (split s).length _ ⟨0, rfl, by omega, rfl⟩ (by show _ < (split s).length + _ + _; omega)) ?_
    · rintro n t k ⟨i, rfl, hi, rfl⟩ hk
      dsimp only
      by_cases hl2 : i < (split s).length
      · rw [decide_eq_true (by omega), cond_true, if_pos (by omega), Int.toNat_natCast, all_drop nameOk (nilOf UInt8) hl2]
        have hm : ((split s).getD i (nilOf UInt8)).length ≤ s.length := by
          rw [List.getD_eq_getElem?_getD, List.getElem?_eq_getElem hl2]; exact split_mem_len s _ (List.getElem_mem hl2)
        rw [spec_nameOk _ (by omega), Option.bind_some]
        dsimp only
        cases nameOk ((split s).getD i (nilOf UInt8)) with
        | false => rfl
        | true =>
          show k _ = _
          rw [wr1 i (by omega)]
          exact hk ((split s).length - (i + 1)) _ (by omega) ⟨i + 1, rfl, by omega, rfl⟩
      · rw [decide_eq_false (by omega), cond_false, Int.toNat_natCast, List.drop_eq_nil_of_le (by omega)]
        rfl
    · show joinC (some (if ((split s).drop 0).all nameOk = true then _ else _)) _ = _
      rw [List.drop_zero]
      unfold pathOk
      cases h2 : (split s).all nameOk with
      | false => simp; rfl
      | true =>
        show some (decide (((split s).length : Int) ≤ 8), ()) = _
        by_cases h1 : (split s).length ≤ 8
        · have := path_len h1 h2
          rw [decide_eq_true (by omega), decide_eq_true (by omega), decide_eq_true h1]; rfl
        · rw [decide_eq_false (by omega), decide_eq_false h1]; simp
  · rw [decide_eq_true (by omega), cond_true]
    unfold pathOk
    rw [decide_eq_false (by omega), Bool.false_and]
theorem impl_names (s : List UInt8) : m_impl_Names s = some (names s, ()) := by
  unfold m_impl_Names
  by_cases hs : s.length ≤ 168
  · rw [decide_eq_false (by omega), cond_false, split_eq s (by omega), Option.bind_some]
    have hl := split_len s
    dsimp only
    by_cases h1 : (split s).length ≤ 8
    · rw [decide_eq_false (by omega), cond_false]
      refine joinC_of (loopC_inv _ (fun n t => ∃ i : Nat, t = ((split s, split s, ((split s).length : Int), (i : Int), ()), ()) ∧ i ≤ (split s).length ∧ n = (split s).length - i)
          (fun t => some (if ((split s).drop t.1.2.2.2.1.toNat).all nameOk then .inl ((split s, ()), ()) else .inr ([], ()))) ?_ _ (split s).length _ ⟨0, rfl, by omega, rfl⟩ (by omega)) ?_
      · rintro n t k ⟨i, rfl, hi, rfl⟩ hk
        dsimp only
        by_cases hl2 : i < (split s).length
        · rw [decide_eq_true (by omega), cond_true, if_pos (by omega), Int.toNat_natCast, all_drop nameOk (nilOf UInt8) hl2]
          have hm : ((split s).getD i (nilOf UInt8)).length ≤ s.length := by
            rw [List.getD_eq_getElem?_getD, List.getElem?_eq_getElem hl2]; exact split_mem_len s _ (List.getElem_mem hl2)
          rw [impl_nameOk _ (by omega), Option.bind_some]
          dsimp only
          cases nameOk ((split s).getD i (nilOf UInt8)) with
          | false => rfl
          | true =>
            show k _ = _
            rw [wr1 i (by omega)]
            exact hk ((split s).length - (i + 1)) _ (by omega) ⟨i + 1, rfl, by omega, rfl⟩
        · rw [decide_eq_false (by omega), cond_false, Int.toNat_natCast, List.drop_eq_nil_of_le (by omega)]
          rfl
      · show joinC (some (if ((split s).drop 0).all nameOk = true then _ else _)) _ = _
        rw [List.drop_zero]
        unfold names
        cases h2 : (split s).all nameOk with
        | false => simp; rfl
        | true => rw [if_pos (show s.length ≤ 168 ∧ (split s).length ≤ 8 ∧ true = true from And.intro hs (And.intro h1 rfl))]; rfl
    · rw [decide_eq_true (by omega), cond_true]
      unfold names
      rw [if_neg (fun h => h1 h.2.1)]
  · rw [decide_eq_true (by omega), cond_true]
    unfold names
    rw [if_neg (fun h => hs h.1)]
theorem impl_pathOk (s : List UInt8) : m_impl_PathOk s = some (pathOk s, ()) := by
  unfold m_impl_PathOk
  rw [impl_names, Option.bind_some, names_ok]
  cases pathOk s with
  | false => rfl
  | true =>
    show some (decide (((split s).length : Int) > 0), ()) = _
    rw [decide_eq_true (by have := List.length_pos_iff.2 (split_ne s); omega)]
end Go.AM
set_option linter.unusedVariables false
set_option linter.unusedSimpArgs false
namespace Go.AM
open Go
/-! ### rows that are measured, copied, compared -/
section
variable {α : Type}
def szSG (f : α → Int → Option (Int × Unit)) (d : α) (l : List α) (n : Int) : Option (Int × Unit) :=
  bif decide (IntKind.wrap IntKind.i64 (n - (l.length : Int)) < 0) then some (-1, ())
  else joinC (loopC (l.length + Int.toNat (IntKind.wrap IntKind.i64 (n - (l.length : Int))) + Int.toNat (0 : Int) + 300)
    (fun (s : (List α × Int × Int × Unit) × Unit) (k : (List α × Int × Int × Unit) × Unit → Option ((Int × Unit) × Unit ⊕ Int × Unit)) =>
      bif decide (s.fst.snd.snd.fst < (↑(List.length s.fst.fst) : Int)) then
        if (0 : Int) ≤ s.fst.snd.snd.fst ∧ s.fst.snd.snd.fst < (↑(List.length s.fst.fst) : Int) then
          Option.bind (f (List.getD s.fst.fst (Int.toNat s.fst.snd.snd.fst) d) s.fst.snd.fst) fun (r : Int × Unit) =>
            bif decide (r.fst < (0 : Int)) then some (Sum.inr ((-1 : Int), ()))
            else k ((s.fst.fst, r.fst, IntKind.wrap IntKind.i64 (s.fst.snd.snd.fst + (1 : Int)), ()), ())
        else none
      else some (Sum.inl ((s.fst.snd.fst, ()), ())))
    ((l, IntKind.wrap IntKind.i64 (n - (l.length : Int)), (0 : Int), ()), ()))
    fun (s : (Int × Unit) × Unit) => some s.fst
theorem getD_mem {l : List α} {i : Nat} (d : α) (h : i < l.length) : l.getD i d ∈ l := by
  rw [List.getD_eq_getElem?_getD, List.getElem?_eq_getElem h]; exact List.getElem_mem h
theorem drop_getD {l : List α} {i : Nat} (d : α) (h : i < l.length) : l.drop i = l.getD i d :: l.drop (i + 1) := by
  rw [List.drop_eq_getElem_cons h, List.getD_eq_getElem?_getD, List.getElem?_eq_getElem h]; rfl
theorem szS_eq (f : α → Int → Option (Int × Unit)) (d : α) (H B : α → Prop) (hf : ∀ x n, H x → 0 ≤ n → n ≤ 1048576 → ∃ m, f x n = some (m, ()) ∧ (0 ≤ m → m ≤ n ∧ B x))
    (l : List α) (hl : ∀ x ∈ l, H x) (hl2 : l.length ≤ 9223372036854775807) (n : Int) (hn : 0 ≤ n ∧ n ≤ 1048576) : ∃ m, szSG f d l n = some (m, ()) ∧ (0 ≤ m → m ≤ n - l.length ∧ ∀ x ∈ l, B x) := by
  unfold szSG
  rw [wr (n - _) (by omega)]
  by_cases q : n - (l.length : Int) < 0
  · rw [decide_eq_true q]; exact ⟨_, rfl, fun h => by omega⟩
  · rw [decide_eq_false q, cond_false]
    have key := loopC_some' (fun (s : (List α × Int × Int × Unit) × Unit) (k : (List α × Int × Int × Unit) × Unit → Option ((Int × Unit) × Unit ⊕ Int × Unit)) =>
      bif decide (s.fst.snd.snd.fst < (↑(List.length s.fst.fst) : Int)) then
        if (0 : Int) ≤ s.fst.snd.snd.fst ∧ s.fst.snd.snd.fst < (↑(List.length s.fst.fst) : Int) then
          Option.bind (f (List.getD s.fst.fst (Int.toNat s.fst.snd.snd.fst) d) s.fst.snd.fst) fun (r : Int × Unit) =>
            bif decide (r.fst < (0 : Int)) then some (Sum.inr ((-1 : Int), ()))
            else k ((s.fst.fst, r.fst, IntKind.wrap IntKind.i64 (s.fst.snd.snd.fst + (1 : Int)), ()), ())
        else none
      else some (Sum.inl ((s.fst.snd.fst, ()), ())))
      (fun c t => ∃ (m : Int) (i : Nat), t = ((l, m, (i : Int), ()), ()) ∧ i ≤ l.length ∧ 0 ≤ m ∧ m ≤ n - l.length ∧ (∀ x ∈ l.take i, B x) ∧ c = l.length - i)
      (fun r => r = .inr (-1, ()) ∨ ∃ m, r = .inl ((m, ()), ()) ∧ m ≤ n - l.length ∧ ∀ x ∈ l, B x)
      (by
        rintro c t k ⟨m, i, rfl, hi, h0, h1, h2, rfl⟩ hk
        dsimp only
        by_cases hlt : i < l.length
        · rw [decide_eq_true (by omega), cond_true, if_pos (by omega), Int.toNat_natCast]
          obtain ⟨m', e, hm⟩ := hf (l.getD i d) m (hl _ (getD_mem d hlt)) h0 (by omega)
          rw [e, Option.bind_some]
          dsimp only
          by_cases q' : m' < 0
          · rw [decide_eq_true q']; exact ⟨_, rfl, .inl rfl⟩
          · rw [decide_eq_false q', cond_false, wr1 i (by omega)]
            obtain ⟨g1, g2⟩ := hm (by omega)
            refine hk (l.length - (i + 1)) _ (by omega) ⟨m', i + 1, rfl, by omega, by omega, by omega, fun x hx => ?_, rfl⟩
            rw [List.take_add_one, List.mem_append] at hx
            rcases hx with hx | hx
            · exact h2 x hx
            · rw [List.getElem?_eq_getElem hlt] at hx
              rw [List.getD_eq_getElem?_getD, List.getElem?_eq_getElem hlt] at g2
              simp at hx; subst hx; exact g2
        · rw [decide_eq_false (by omega), cond_false]
          refine ⟨_, rfl, .inr ⟨m, rfl, h1, ?_⟩⟩
          rw [List.take_of_length_le (by omega)] at h2; exact h2)
      (l.length + Int.toNat (n - (l.length : Int)) + Int.toNat (0 : Int) + 300) l.length ((l, n - (l.length : Int), 0, ()), ()) ⟨n - l.length, 0, rfl, by omega, by omega, by omega, by simp, rfl⟩ (by omega)
    obtain ⟨r, hr, hq⟩ := key
    rw [hr]
    rcases hq with rfl | ⟨m, rfl, g1, g2⟩
    · exact ⟨-1, rfl, fun h => by omega⟩
    · exact ⟨m, rfl, fun _ => ⟨g1, g2⟩⟩
def toSG (f : α → Option (α × Unit)) (d : α) (b : Nat) (l : List α) : Option (List α × Unit) :=
  if (0 : Int) ≤ (↑(List.length l) : Int) ∧ (↑(List.length l) : Int) ≤ (↑(List.length l) : Int) ∧ (↑b : Int) * (↑(List.length l) : Int) ≤ (140737488355328 : Int) ∧ (↑(List.length l) : Int) < (2 : Int) ^ (62 : Nat) then
    Option.bind (loopC (l.length + Int.toNat (0 : Int) + List.length (List.replicate (Int.toNat (↑(List.length l) : Int)) d) + 300)
      (fun (s : (List α × Unit × Int × Unit) × List α × Unit) (k : (List α × Unit × Int × Unit) × List α × Unit → Option ((Unit × Unit) × List α × Unit)) =>
        bif decide (s.fst.snd.snd.fst < (↑(List.length s.fst.fst) : Int)) then
          if (0 : Int) ≤ s.fst.snd.snd.fst ∧ s.fst.snd.snd.fst < (↑(List.length s.fst.fst) : Int) then
            Option.bind (f (List.getD s.fst.fst (Int.toNat s.fst.snd.snd.fst) d)) fun (r : α × Unit) =>
              if (0 : Int) ≤ s.fst.snd.snd.fst ∧ s.fst.snd.snd.fst < (↑(List.length s.snd.fst) : Int) then
                if Int.toNat s.fst.snd.snd.fst < List.length s.snd.fst then
                  k ((s.fst.fst, (), IntKind.wrap IntKind.i64 (s.fst.snd.snd.fst + (1 : Int)), ()), List.set s.snd.fst (Int.toNat s.fst.snd.snd.fst) r.fst, ())
                else none
              else none
          else none
        else some (((), ()), s.snd))
      ((l, (), (0 : Int), ()), List.replicate (Int.toNat (↑(List.length l) : Int)) d, ()))
      fun (s : (Unit × Unit) × List α × Unit) => some s.snd
  else none
theorem toS_eq (f : α → Option (α × Unit)) (d : α) (b : Nat) (hf : ∀ x, f x = some (x, ())) (l : List α) (hl : l.length ≤ 1048576) (hb : b ≤ 134217728) : toSG f d b l = some (l, ()) := by
  unfold toSG
  have h2 : (b : Int) * (l.length : Int) ≤ 140737488355328 := by
    have h3 : (b : Int) * (l.length : Int) ≤ 134217728 * 1048576 := Int.mul_le_mul (by omega) (by omega) (by omega) (by omega)
    omega
  rw [if_pos ⟨by omega, by omega, h2, by show (l.length : Int) < 4611686018427387904; omega⟩]
  refine bind_ex (loopC_some' _ (fun n t => ∃ (i : Nat) (o : List α), t = ((l, (), (i : Int), ()), o, ()) ∧ i ≤ l.length ∧ o.length = l.length ∧ o.take i = l.take i ∧ n = l.length - i)
    (fun t => t = (((), ()), l, ())) ?_ _ l.length _ ⟨0, _, rfl, by omega, by simp, by simp, rfl⟩ (by omega)) ?_
  · rintro n t k ⟨i, o, rfl, hi, ho, he, rfl⟩ hk
    dsimp only
    by_cases hlt : i < l.length
    · rw [decide_eq_true (by omega), cond_true, if_pos (by omega), Int.toNat_natCast, hf, Option.bind_some, if_pos (by omega), if_pos (by omega), wr1 i (by omega)]
      refine hk (l.length - (i + 1)) _ (by omega) ⟨i + 1, _, rfl, by omega, by rw [List.length_set]; exact ho, ?_, rfl⟩
      rw [List.take_add_one, List.take_add_one, List.take_set_of_le (by omega), he, List.getElem?_set_self (by omega), List.getElem?_eq_getElem hlt, List.getD_eq_getElem?_getD, List.getElem?_eq_getElem hlt]
      rfl
    · rw [decide_eq_false (by omega), cond_false]
      refine ⟨_, rfl, ?_⟩
      rw [List.take_of_length_le (by omega), List.take_of_length_le (by omega)] at he
      rw [he]
  · rintro t rfl; rfl
def eqSG (f : α → α → Option (Bool × Unit)) (d : α) (a b : List α) : Option (Bool × Unit) :=
  bif (↑(List.length a) : Int) != (↑(List.length b) : Int) then some (false, ())
  else joinC (loopC (a.length + b.length + Int.toNat (0 : Int) + 300)
    (fun (s : (List α × List α × Int × Unit) × Unit) (k : (List α × List α × Int × Unit) × Unit → Option (Unit × Unit ⊕ Bool × Unit)) =>
      bif decide (s.fst.snd.snd.fst < (↑(List.length s.fst.fst) : Int)) then
        if (0 : Int) ≤ s.fst.snd.snd.fst ∧ s.fst.snd.snd.fst < (↑(List.length s.fst.fst) : Int) then
          if (0 : Int) ≤ s.fst.snd.snd.fst ∧ s.fst.snd.snd.fst < (↑(List.length s.fst.snd.fst) : Int) then
            Option.bind (f (List.getD s.fst.fst (Int.toNat s.fst.snd.snd.fst) d) (List.getD s.fst.snd.fst (Int.toNat s.fst.snd.snd.fst) d)) fun (r : Bool × Unit) =>
              bif !r.fst then some (Sum.inr (false, ()))
              else k ((s.fst.fst, s.fst.snd.fst, IntKind.wrap IntKind.i64 (s.fst.snd.snd.fst + (1 : Int)), ()), ())
          else none
        else none
      else some (Sum.inl ((), ())))
    ((a, b, (0 : Int), ()), ()))
    fun (s : Unit × Unit) => some (true, ())
theorem eqS_eq (f : α → α → Option (Bool × Unit)) (d : α) (hf : ∀ x, f x x = some (true, ())) (l : List α) (hl : l.length ≤ 1099511627776) : eqSG f d l l = some (true, ()) := by
  unfold eqSG
  rw [show ((l.length : Int) != (l.length : Int)) = false by simp, cond_false]
  refine joinC_ex (loopC_some' _ (fun n t => ∃ i : Nat, t = ((l, l, (i : Int), ()), ()) ∧ i ≤ l.length ∧ n = l.length - i) (fun t => t = .inl ((), ())) ?_ _ l.length _ ⟨0, rfl, by omega, rfl⟩ (by omega)) ?_
  · rintro n t k ⟨i, rfl, hi, rfl⟩ hk
    dsimp only
    by_cases hlt : i < l.length
    · rw [decide_eq_true (by omega), cond_true, if_pos (by omega), if_pos (by omega), hf, Option.bind_some]
      show ∃ r, k _ = some r ∧ _
      rw [wr1 i (by omega)]
      exact hk (l.length - (i + 1)) _ (by omega) ⟨i + 1, rfl, by omega, rfl⟩
    · rw [decide_eq_false (by omega)]; exact ⟨_, rfl, rfl⟩
  · rintro t rfl; rfl
/-- A walk along a row that stops at the first that is not right. -/
theorem allLoop {S R : Type} (F : S → (S → Option R) → Option R) (st : Nat → S) (len : Nat) (ok : Nat → Bool) (yes no : R)
    (hstep : ∀ i k, i < len → F (st i) k = cond (ok i) (k (st (i + 1))) (some no)) (hend : ∀ k, F (st len) k = some yes) (fuel : Nat) (hf : len < fuel) :
    loopC fuel F (st 0) = some (cond ((List.range len).all ok) yes no) := by
  have key := loopC_inv F (fun n s => ∃ i, i ≤ len ∧ s = st i ∧ n = len - i ∧ ∀ j, j < i → ok j = true) (fun _ => some (cond ((List.range len).all ok) yes no)) (by
    rintro n s k ⟨i, hi, rfl, rfl, hj⟩ hk
    by_cases hlt : i < len
    · rw [hstep i k hlt]
      cases ho : ok i with
      | false =>
        have : (List.range len).all ok = false := by
          rw [List.all_eq_false]; exact ⟨i, List.mem_range.2 hlt, by simp [ho]⟩
        rw [this]; rfl
      | true =>
        rw [cond_true]
        refine hk (len - (i + 1)) _ (by omega) ⟨i + 1, by omega, rfl, rfl, fun j hj' => ?_⟩
        by_cases h : j = i
        · subst h; exact ho
        · exact hj j (by omega)
    · have : i = len := by omega
      subst this
      rw [hend]
      have : (List.range i).all ok = true := by rw [List.all_eq_true]; exact fun j hj' => hj j (List.mem_range.1 hj')
      rw [this]; rfl)
  exact key fuel len _ ⟨0, by omega, rfl, by omega, fun j hj => by omega⟩ hf
end
end Go.AM
set_option linter.unusedVariables false
set_option linter.unusedSimpArgs false
namespace Go.AM
open Go
/-! ### nodes and entries -/
abbrev NodeT := List UInt8 × (Int × (Int × (Int × (List UInt8 × (List UInt8 × Int)))))
abbrev EntryT := List UInt8 × (Int × (Int × (Int × (Int × (List UInt8 × Int)))))
def inI (x a b : Int) : Bool := decide (x ≥ a) && decide (x ≤ b)
def nodeKind (k m : Int) (data target : List UInt8) (g : Int) : Bool :=
  cond (k == 0) (data == [] && (target == [] && g == 0)) (cond (k == 1) (decide ((data.length : Int) ≤ 20000) && (target == [] && inI g 0 200))
    (cond (k == 2) ((data == [] && (m == 0 && (g == 0 && inI (target.length : Int) 1 60))) && !(target.any (· == 10))) false))
def nodeOk (x : NodeT) : Bool := (pathOk x.1 && (inI x.2.2.1 0 511 && inI x.2.2.2.1 0 1000000000)) && nodeKind x.2.1 x.2.2.1 x.2.2.2.2.1 x.2.2.2.2.2.1 x.2.2.2.2.2.2
theorem any_index (c : UInt8) (s : List UInt8) : decide (Go.Lib.indexByte s c ≥ 0) = s.any (· == c) := by
  induction s with
  | nil => rfl
  | cons a r ih =>
    unfold Go.Lib.indexByte
    rw [List.any_cons]
    cases h : a == c with
    | true => rfl
    | false =>
      rw [Bool.false_or, ← ih, if_neg (by simp)]
      have := Go.Lib.indexByte_ge r c
      split
      · rename_i h1; rw [beq_iff_eq] at h1; rw [h1]
      · rename_i h1
        have : ¬(Go.Lib.indexByte r c = -1) := fun h => h1 (by rw [h]; rfl)
        exact decide_eq_decide.2 (by omega)
theorem contains_nl (s : List UInt8) : m_strings_Contains s = some (s.any (· == 10), ()) := by
  unfold m_strings_Contains m_strings_Index_2 m_stringslite_Index_2
  by_cases h : s = [10]
  · subst h; rfl
  · rw [show (([10] : List UInt8) == s) = false by rw [beq_eq_false_iff_ne]; exact fun h' => h h'.symm]
    show some (decide (Go.Lib.indexByte s 10 ≥ 0), ()) = _
    rw [any_index]
theorem any_drop {s : List UInt8} {i : Nat} (h : i < s.length) : (s.drop i).any (· == 10) = ((s.getD i 0 == 10) || (s.drop (i + 1)).any (· == 10)) := by
  rw [getD_cons h, List.any_cons]
theorem byte_beq (b : UInt8) (c : Nat) (hc : c < 256) : ((b.toNat : Int) == (c : Int)) = (b == c.toUInt8) := by
  have hb := UInt8.toNat_lt b
  by_cases h : b = c.toUInt8
  · subst h
    rw [show (c.toUInt8 == c.toUInt8) = true by simp]
    rw [beq_iff_eq]
    show ((c % 256 : Nat) : Int) = _
    omega
  · rw [show (b == c.toUInt8) = false by rw [beq_eq_false_iff_ne]; exact h, beq_eq_false_iff_ne]
    intro h'; apply h; apply UInt8.toNat.inj; show _ = c % 256; omega
theorem spec_nodeOk (x : NodeT) (h : x.2.2.2.2.2.1.length ≤ 1099511627776) : m_spec_NodeOk x = some (nodeOk x, ()) := by
  obtain ⟨p, kd, md, tm, data, target, g⟩ := x
  dsimp only at h
  unfold m_spec_NodeOk nodeOk
  refine bind_eq (x := (((), !(pathOk p && (inI md 0 511 && inI tm 0 1000000000)), ()), (p, kd, md, tm, data, target, g, ()), ())) ?_ ?_
  · rw [spec_pathOk, Option.bind_some]
    simp only [in_eq, Option.bind_some]
    unfold inI
    cases pathOk p <;> cases (decide (md ≥ 0) && decide (md ≤ 511)) <;> rfl
  · dsimp only
    cases (pathOk p && (inI md 0 511 && inI tm 0 1000000000)) with
    | false => rfl
    | true =>
      simp only [Bool.not_true, cond_false, Bool.true_and, nilOf]
      unfold nodeKind
      cases kd == 0 with
      | true => cases data == [] <;> cases target == [] <;> rfl
      | false =>
        simp only [cond_false]
        cases kd == 1 with
        | true =>
          simp only [cond_true, in_eq, Option.bind_some]
          cases decide ((data.length : Int) ≤ 20000) <;> cases target == [] <;> rfl
        | false =>
          simp only [cond_false]
          cases kd == 2 with
          | false => rfl
          | true =>
            simp only [cond_true, in_eq, Option.bind_some, bne]
            refine bind_eq (x := (((), !(data == [] && (md == 0 && (g == 0 && inI (target.length : Int) 1 60))), ()), (p, kd, md, tm, data, target, g, ()), ())) ?_ ?_
            · unfold inI
              cases data == [] <;> cases md == 0 <;> cases g == 0 <;> rfl
            · dsimp only
              cases (data == [] && (md == 0 && (g == 0 && inI (target.length : Int) 1 60))) with
              | false => rfl
              | true =>
                simp only [Bool.not_true, cond_false, Bool.true_and]
                refine joinC_of (loopC_inv _ (fun n t => ∃ i : Nat, t = (((), (i : Int), ()), (p, kd, md, tm, data, target, g, ()), ()) ∧ i ≤ target.length ∧ n = target.length - i)
                  (fun t => some (if (target.drop t.1.2.1.toNat).any (· == 10) then .inr (false, ()) else .inl ((), ()))) ?_ _ target.length _ ⟨0, rfl, by omega, rfl⟩ (by omega)) ?_
                · rintro n t k ⟨i, rfl, hi, rfl⟩ hk
                  dsimp only
                  by_cases hl : i < target.length
                  · rw [decide_eq_true (by omega), cond_true, if_pos (by omega), Int.toNat_natCast, any_drop hl]
                    rw [show (((target.getD i 0).toNat : Int) == 10) = (target.getD i 0 == 10) from byte_beq _ 10 (by decide)]
                    cases target.getD i 0 == 10 with
                    | true => rfl
                    | false =>
                      rw [cond_false, Bool.false_or, wr1 i (by omega)]
                      exact hk (target.length - (i + 1)) _ (by omega) ⟨i + 1, rfl, by omega, rfl⟩
                  · rw [decide_eq_false (by omega), cond_false, Int.toNat_natCast, List.drop_eq_nil_of_le (by omega)]
                    rfl
                · show joinC (some (if (target.drop 0).any (· == 10) = true then _ else _)) _ = _
                  rw [List.drop_zero]
                  cases target.any (· == 10) <;> rfl
theorem impl_nodeOk (x : NodeT) : m_impl_NodeOk x = some (nodeOk x, ()) := by
  obtain ⟨p, kd, md, tm, data, target, g⟩ := x
  unfold m_impl_NodeOk nodeOk
  refine bind_eq (x := (((), !(pathOk p && (inI md 0 511 && inI tm 0 1000000000)), ()), (p, kd, md, tm, data, target, g, ()), ())) ?_ ?_
  · rw [impl_pathOk, Option.bind_some]
    simp only [within_eq, Option.bind_some]
    unfold inI
    cases pathOk p <;> cases (decide (md ≥ 0) && decide (md ≤ 511)) <;> rfl
  · dsimp only
    cases (pathOk p && (inI md 0 511 && inI tm 0 1000000000)) with
    | false => rfl
    | true =>
      simp only [Bool.not_true, cond_false, Bool.true_and, nilOf]
      unfold nodeKind
      cases kd == 0 with
      | true => cases data == [] <;> cases target == [] <;> rfl
      | false =>
        simp only [cond_false]
        cases kd == 1 with
        | true =>
          simp only [cond_true, within_eq, Option.bind_some]
          cases decide ((data.length : Int) ≤ 20000) <;> cases target == [] <;> rfl
        | false =>
          simp only [cond_false]
          cases kd == 2 with
          | false => rfl
          | true =>
            simp only [cond_true, within_eq, Option.bind_some, contains_nl]
            unfold inI
            cases data == [] <;> cases md == 0 <;> cases g == 0 <;> cases (decide ((target.length : Int) ≥ 1) && decide ((target.length : Int) ≤ 60)) <;> rfl
end Go.AM
set_option linter.unusedVariables false
set_option linter.unusedSimpArgs false
namespace Go.AM
open Go
def entryNode (e : EntryT) : NodeT := (e.1, e.2.1, e.2.2.1, e.2.2.2.1, [], e.2.2.2.2.2)
def entryOk (e : EntryT) : Bool := nodeOk (entryNode e) && (inI e.2.2.2.2.1 0 20000 && (e.2.1 == 1 || e.2.2.2.2.1 == 0))
theorem impl_isEntry (e : EntryT) : m_impl_isEntry e = some (entryOk e, ()) := by
  unfold m_impl_isEntry entryOk
  have h := impl_nodeOk (entryNode e)
  unfold entryNode at h
  simp only [nilOf]
  rw [h]
  simp only [within_eq, Option.bind_some]
  unfold inI entryNode
  cases nodeOk (e.1, e.2.1, e.2.2.1, e.2.2.2.1, [], e.2.2.2.2.2) <;> cases (decide (e.2.2.2.2.1 ≥ 0) && decide (e.2.2.2.2.1 ≤ 20000)) <;> cases e.2.1 == 1 <;> rfl
def dE : EntryT := (nilOf UInt8, Int.ofNat (nat_lit 0), Int.ofNat (nat_lit 0), Int.ofNat (nat_lit 0), Int.ofNat (nat_lit 0), nilOf UInt8, Int.ofNat (nat_lit 0))
def entryAt (l : List EntryT) (i : Nat) : Bool := entryOk (l.getD i dE) && (i == 0 || Op.bytesLess (l.getD (i - 1) dE).1 (l.getD i dE).1)
def entriesOk (l : List EntryT) : Bool := decide (l.length ≤ 200) && (List.range l.length).all (entryAt l)
theorem wrm (i : Nat) (h0 : 0 < i) (h : i ≤ 4611686018427387904) : IntKind.wrap .i64 ((i : Int) - 1) = ((i - 1 : Nat) : Int) := by rw [wr _ (by omega)]; omega
theorem spec_entries (l : List EntryT) (h : ∀ e ∈ l, e.2.2.2.2.2.1.length ≤ 1099511627776) : m_spec_EntriesOk l = some (entriesOk l, ()) := by
  unfold m_spec_EntriesOk entriesOk
  by_cases hl : l.length ≤ 200
  · rw [decide_eq_false (by omega), cond_false, decide_eq_true hl, Bool.true_and]
    refine joinC_of (allLoop _ (fun i => ((l, (i : Int), ()), ())) l.length (entryAt l) (.inl ((), ())) (.inr (false, ())) ?_ ?_ _ (by omega)) ?_
    · intro i k hi
      dsimp only
      rw [decide_eq_true (by omega), cond_true, if_pos (by omega)]
      refine bind_eq (x := ((l, (i : Int), !entryAt l i, ()), ())) ?_ ?_
      · rw [Int.toNat_natCast]
        show Option.bind (m_spec_NodeOk (entryNode (l.getD i dE))) _ = _
        rw [spec_nodeOk _ (h _ (getD_mem dE hi)), Option.bind_some]
        unfold entryAt entryOk
        cases nodeOk (entryNode (l.getD i dE)) with
        | false => rfl
        | true =>
          simp only [in_eq, Option.bind_some, bne]
          unfold inI
          show (bif !(decide ((l.getD i dE).2.2.2.2.1 ≥ 0) && decide ((l.getD i dE).2.2.2.2.1 ≤ 20000)) then _ else _) = _
          cases (decide ((l.getD i dE).2.2.2.2.1 ≥ 0) && decide ((l.getD i dE).2.2.2.2.1 ≤ 20000)) with
          | false => rfl
          | true =>
            simp only [Bool.not_true, cond_false, Bool.true_and]
            have tail : (bif decide ((i : Int) > 0) then (if (0 : Int) ≤ IntKind.wrap IntKind.i64 ((i : Int) - 1) ∧ IntKind.wrap IntKind.i64 ((i : Int) - 1) < (l.length : Int) then some ((l, (i : Int), !Op.bytesLess (l.getD (Int.toNat (IntKind.wrap IntKind.i64 ((i : Int) - 1))) dE).1 (l.getD i dE).1, ()), ()) else none) else some ((l, (i : Int), false, ()), ())) = (some ((l, (i : Int), !(i == 0 || Op.bytesLess (l.getD (i - 1) dE).1 (l.getD i dE).1), ()), ()) : Option ((List EntryT × Int × Bool × Unit) × Unit)) := by
              by_cases h0 : i = 0
              · subst h0; rfl
              · rw [decide_eq_true (by omega), cond_true, wrm i (by omega) (by omega), if_pos (by omega), Int.toNat_natCast, show (i == 0) = false by simp [h0], Bool.false_or]
            show (bif !((l.getD i dE).2.1 == 1) then (bif !((l.getD i dE).2.2.2.2.1 == 0) then _ else (bif decide ((i : Int) > 0) then (if (0 : Int) ≤ IntKind.wrap IntKind.i64 ((i : Int) - 1) ∧ IntKind.wrap IntKind.i64 ((i : Int) - 1) < (l.length : Int) then some ((l, (i : Int), !Op.bytesLess (l.getD (Int.toNat (IntKind.wrap IntKind.i64 ((i : Int) - 1))) dE).1 (l.getD i dE).1, ()), ()) else none) else some ((l, (i : Int), false, ()), ()))) else (bif decide ((i : Int) > 0) then (if (0 : Int) ≤ IntKind.wrap IntKind.i64 ((i : Int) - 1) ∧ IntKind.wrap IntKind.i64 ((i : Int) - 1) < (l.length : Int) then some ((l, (i : Int), !Op.bytesLess (l.getD (Int.toNat (IntKind.wrap IntKind.i64 ((i : Int) - 1))) dE).1 (l.getD i dE).1, ()), ()) else none) else some ((l, (i : Int), false, ()), ()))) = _
            rw [tail]
            cases (l.getD i dE).2.1 == 1 <;> cases (l.getD i dE).2.2.2.2.1 == 0 <;> rfl
      · dsimp only
        rw [wr1 i (by omega)]
        cases entryAt l i <;> rfl
    · intro k; dsimp only; rw [decide_eq_false (by omega)]; rfl
    · cases (List.range l.length).all (entryAt l) <;> rfl
  · rw [decide_eq_true (by omega), decide_eq_false hl]; rfl
theorem impl_entries (l : List EntryT) : m_impl_EntriesOk l = some (entriesOk l, ()) := by
  unfold m_impl_EntriesOk entriesOk
  by_cases hl : l.length ≤ 200
  · rw [decide_eq_false (by omega), cond_false, decide_eq_true hl, Bool.true_and]
    refine joinC_of (allLoop _ (fun i => ((l, l, (l.length : Int), (i : Int), ()), ())) l.length (entryAt l) (.inl ((), ())) (.inr (false, ())) ?_ ?_ _ (by omega)) ?_
    · intro i k hi
      dsimp only
      rw [decide_eq_true (by omega), cond_true, if_pos (by omega)]
      refine bind_eq (x := ((l, l, (l.length : Int), (i : Int), !entryAt l i, ()), ())) ?_ ?_
      · rw [Int.toNat_natCast]
        show Option.bind (m_impl_isEntry (l.getD i dE)) _ = _
        rw [impl_isEntry, Option.bind_some]
        unfold entryAt
        cases entryOk (l.getD i dE) with
        | false => rfl
        | true =>
          simp only [Bool.not_true, cond_false, Bool.true_and]
          by_cases h0 : i = 0
          · subst h0; rfl
          · rw [decide_eq_true (by omega), cond_true, wrm i (by omega) (by omega), if_pos (by omega), Int.toNat_natCast, show (i == 0) = false by simp [h0], Bool.false_or]
            rfl
      · dsimp only
        rw [wr1 i (by omega)]
        cases entryAt l i <;> rfl
    · intro k; dsimp only; rw [decide_eq_false (by omega)]; rfl
    · cases (List.range l.length).all (entryAt l) <;> rfl
  · rw [decide_eq_true (by omega), decide_eq_false hl]; rfl
def EntryH (e : EntryT) : Prop := e.1.length ≤ 9223372036854775807 ∧ e.2.2.2.2.2.1.length ≤ 9223372036854775807
theorem szEntry_eq (e : EntryT) (n : Int) (h : EntryH e) (h0 : 0 ≤ n) (h1 : n ≤ 1048576) : ∃ m, m_laws_szEntry e n = some (m, ()) ∧ (0 ≤ m → m ≤ n ∧ (e.1.length ≤ 1048576 ∧ e.2.2.2.2.2.1.length ≤ 1048576)) := by
  obtain ⟨g1, g2⟩ := h
  unfold m_laws_szEntry
  rw [wr (n - _) (by omega)]
  by_cases q1 : n - (e.1.length : Int) < 0
  · rw [decide_eq_true q1]; exact ⟨_, rfl, fun h => by omega⟩
  · rw [decide_eq_false q1, cond_false, wr _ (by omega)]
    by_cases q2 : n - (e.1.length : Int) - (e.2.2.2.2.2.1.length : Int) < 0
    · rw [decide_eq_true q2]; exact ⟨_, rfl, fun h => by omega⟩
    · rw [decide_eq_false q2]; exact ⟨_, rfl, fun _ => by omega⟩
theorem szEntryS_eq (l : List EntryT) (hl : l.length ≤ 9223372036854775807) (h : ∀ e ∈ l, EntryH e) : ∃ m, m_laws_szEntryS l 1048576 = some (m, ()) ∧ (0 ≤ m → m ≤ 1048576 - l.length ∧ ∀ e ∈ l, e.1.length ≤ 1048576 ∧ e.2.2.2.2.2.1.length ≤ 1048576) :=
  szS_eq m_laws_szEntry dE EntryH _ szEntry_eq l h hl 1048576 (by omega)
theorem eqEntry_eq (e : EntryT) : m_laws_eqEntry e e = some (true, ()) := by unfold m_laws_eqEntry; simp
theorem eqEntryS_eq (l : List EntryT) (hl : l.length ≤ 1048576) : m_laws_eqEntryS l l = some (true, ()) := eqS_eq m_laws_eqEntry dE eqEntry_eq l (by omega)
end Go.AM
set_option linter.unusedVariables false
set_option linter.unusedSimpArgs false
namespace Go.AM
open Go
/-! ### what two texts have in common at the beginning -/
def comT (a b : List UInt8) (i : Nat) : Bool := decide (i < a.length) && (decide (i < b.length) && (((a.getD i 0).toNat : Int) == ((b.getD i 0).toNat : Int)))
def comN (a b : List UInt8) : Nat → Nat → Nat
  | 0, i => i
  | n + 1, i => cond (comT a b i) (comN a b n (i + 1)) i
theorem comN_le (a b : List UInt8) : ∀ n i, i ≤ a.length → i ≤ b.length → comN a b n i ≤ a.length ∧ comN a b n i ≤ b.length
  | 0, i, h1, h2 => ⟨h1, h2⟩
  | n + 1, i, h1, h2 => by
    simp only [comN]
    cases h : comT a b i with
    | false => exact ⟨h1, h2⟩
    | true =>
      unfold comT at h
      simp only [Bool.and_eq_true, decide_eq_true_eq] at h
      exact comN_le a b n (i + 1) (by omega) (by omega)
def com (a b : List UInt8) : Nat := comN a b a.length 0
theorem impl_common (a b : List UInt8) (ha : a.length ≤ 1099511627776) : m_impl_common a b = some ((com a b : Int), ()) := by
  unfold m_impl_common com
  refine bind_eq (loopC_inv _ (fun n t => ∃ i : Nat, t = ((a, b, (i : Int), ()), ()) ∧ i ≤ a.length ∧ n = a.length - i)
    (fun t => some (((comN a b (a.length - t.1.2.2.1.toNat) t.1.2.2.1.toNat : Int), ()), ())) ?_ _ a.length _ ⟨0, rfl, by omega, rfl⟩ (by omega)) ?_
  · rintro n t k ⟨i, rfl, hi, rfl⟩ hk
    dsimp only
    rw [Int.toNat_natCast]
    refine bind_eq (x := ((a, b, (i : Int), comT a b i, ()), ())) ?_ ?_
    · unfold comT
      by_cases h1 : i < a.length
      · rw [decide_eq_true (show (i : Int) < a.length by omega), decide_eq_true h1, cond_true, Bool.true_and]
        by_cases h2 : i < b.length
        · rw [decide_eq_true (show (i : Int) < b.length by omega), decide_eq_true h2, cond_true, Bool.true_and, if_pos (by omega), if_pos (by omega)]
        · rw [decide_eq_false (show ¬(i : Int) < b.length by omega), decide_eq_false h2]; rfl
      · rw [decide_eq_false (show ¬(i : Int) < a.length by omega), decide_eq_false h1]; rfl
    · dsimp only
      cases h : comT a b i with
      | true =>
        have h' := h
        unfold comT at h'
        simp only [Bool.and_eq_true, decide_eq_true_eq] at h'
        rw [cond_true, wr1 i (by omega)]
        rw [hk (a.length - (i + 1)) _ (by omega) ⟨i + 1, rfl, by omega, rfl⟩]
        dsimp only
        rw [Int.toNat_natCast, show a.length - i = (a.length - (i + 1)) + 1 by omega]
        simp only [comN, h, cond_true]
      | false =>
        rw [cond_false]
        cases hn : a.length - i with
        | zero => rfl
        | succ m => simp only [comN, h, cond_false]
  · rfl
theorem spec_common (a b : List UInt8) (ha : a.length ≤ 1099511627776) : m_spec_l12Common a b = some ((com a b : Int), ()) := (show m_spec_l12Common a b = m_impl_common a b from rfl).trans (impl_common a b ha)
end Go.AM
set_option linter.unusedVariables false
set_option linter.unusedSimpArgs false
namespace Go.AM
open Go
/-! ### texts and rows of bytes -/
def iOf (s : List UInt8) : List Int := s.map (fun b => (b.toNat : Int))
theorem iOf_nil : iOf [] = [] := rfl
theorem iOf_app (a b : List UInt8) : iOf (a ++ b) = iOf a ++ iOf b := List.map_append
theorem iOf_len (a : List UInt8) : (iOf a).length = a.length := List.length_map ..
theorem strOf_iOf (s : List UInt8) : strOf (iOf s) = s := by
  unfold strOf iOf
  rw [List.map_map]
  exact (List.map_congr_left (fun x _ => by simp)).trans (List.map_id _)
theorem mapU_iOf (s : List UInt8) : List.map (fun (n : Int) => UInt8.ofNat (Int.toNat n)) (iOf s) = s := strOf_iOf s
/-- A byte that is written as a number. -/
theorem byte_iOf (x : Int) (h0 : 0 ≤ x) (h1 : x < 256) : [x] = iOf [x.toNat.toUInt8] := by
  unfold iOf
  simp only [List.map_cons, List.map_nil]
  congr 1
  show x = ((x.toNat % 256 : Nat) : Int)
  omega
/-! ### numbers of variable length -/
def vB : Nat → Nat → List UInt8
  | 0, x => [x.toUInt8]
  | f + 1, x => cond (decide (x ≥ 128)) ((128 + x % 128).toUInt8 :: vB f (x / 128)) [x.toUInt8]
theorem vB_len : ∀ f x, (vB f x).length ≤ f + 1
  | 0, x => Nat.le_refl _
  | f + 1, x => by
    have := vB_len f (x / 128)
    simp only [vB]
    cases decide (x ≥ 128)
    · rw [cond_false]; simp
    · rw [cond_true, List.length_cons]; omega
def vV (x : Int) : List UInt8 := vB 10 x.toNat
theorem vV_len (x : Int) : (vV x).length ≤ 11 := vB_len 10 _
theorem wrap8 (x : Nat) : IntKind.wrap .u8 (x : Int) = ((x % 256 : Nat) : Int) := by
  simp [IntKind.wrap, IntKind.signed, IntKind.bits]
theorem and127 (x : Nat) (h : x < 9223372036854775808) : bitsOf .and .i64 (x : Int) 127 = ((x % 128 : Nat) : Int) := by
  unfold bitsOf
  have e : (BitVec.ofInt (IntKind.bits .i64) (x : Int) &&& BitVec.ofInt (IntKind.bits .i64) 127).toNat = x % 128 := by
    rw [BitVec.toNat_and, BitVec.toNat_ofInt, BitVec.toNat_ofInt]
    have h1 : ((x : Int) % ((2 ^ IntKind.bits .i64 : Nat) : Int)).toNat = x := by
      show ((x : Int) % 18446744073709551616).toNat = x
      omega
    have h2 : ((127 : Int) % ((2 ^ IntKind.bits .i64 : Nat) : Int)).toNat = 127 := rfl
    rw [h1, h2]
    exact Nat.and_two_pow_sub_one_eq_mod x 7
  show IntKind.wrap .i64 ((BitVec.ofInt (IntKind.bits .i64) (x : Int) &&& BitVec.ofInt (IntKind.bits .i64) 127).toNat : Int) = _
  rw [e, wr _ (by omega)]
theorem or128 (y : Nat) (h : y < 128) : bitsOf .or .u8 (y : Int) 128 = ((128 + y : Nat) : Int) := by
  unfold bitsOf
  have e : (BitVec.ofInt (IntKind.bits .u8) (y : Int) ||| BitVec.ofInt (IntKind.bits .u8) 128).toNat = 128 + y := by
    rw [BitVec.toNat_or, BitVec.toNat_ofInt, BitVec.toNat_ofInt]
    have h1 : ((y : Int) % ((2 ^ IntKind.bits .u8 : Nat) : Int)).toNat = y := by
      show ((y : Int) % 256).toNat = y
      omega
    have h2 : ((128 : Int) % ((2 ^ IntKind.bits .u8 : Nat) : Int)).toNat = 128 := rfl
    rw [h1, h2, Nat.or_comm]
    exact (Nat.two_pow_add_eq_or_of_lt (i := 7) (b := y) h 1).symm
  show IntKind.wrap .u8 ((BitVec.ofInt (IntKind.bits .u8) (y : Int) ||| BitVec.ofInt (IntKind.bits .u8) 128).toNat : Int) = _
  rw [e, wrap8, Nat.mod_eq_of_lt (by omega)]
end Go.AM
set_option linter.unusedVariables false
set_option linter.unusedSimpArgs false
namespace Go.AM
open Go
theorem writeByte (a : Int) (s : List Int) (h : s.length ≤ 140737488355327) : m_strings_Builder_WriteByte a () s = some ((), (), s ++ [a], ()) := by
  unfold m_strings_Builder_WriteByte m_strings_Builder_copyCheck
  rw [Option.bind_some]
  dsimp only
  rw [if_pos (by simp only [List.length_cons, List.length_nil]; omega)]
theorem builderString (s : List UInt8) (h : s.length ≤ 140737488355328) : m_strings_Builder_String () (iOf s) = some (s, (), [], ()) := by
  unfold m_strings_Builder_String
  rw [if_pos (by rw [iOf_len]; exact h), strOf_iOf]
theorem byte_app (pre : List UInt8) (y : Nat) (h : y < 256) : iOf pre ++ [(y : Int)] = iOf (pre ++ [y.toUInt8]) := by
  rw [iOf_app, byte_iOf (y : Int) (by omega) (by omega)]; rfl
theorem impl_varText (x : Nat) (hx : x < 9223372036854775808) : m_impl_varText (x : Int) = some (vV x, ()) := by
  unfold m_impl_varText
  have key := loopC_some' (fun (s : (Int × Unit × Unit) × Unit × List Int × Unit) (k : (Int × Unit × Unit) × Unit × List Int × Unit → Option ((Int × Unit × Unit) × Unit × List Int × Unit)) =>
      bif decide (s.fst.fst > (127 : Int)) then
        Option.bind (m_strings_Builder_WriteByte (bitsOf BinOp.or IntKind.u8 (IntKind.wrap IntKind.u8 (bitsOf BinOp.and IntKind.i64 s.fst.fst (127 : Int))) (128 : Int)) () s.snd.snd.fst)
          fun (r : Unit × Unit × List Int × Unit) =>
          if (0 : Int) ≤ (7 : Int) then
            k ((Int.fdiv s.fst.fst ((2 : Int) ^ min (Int.toNat (7 : Int)) (IntKind.bits IntKind.i64)), (), ()), (), r.snd.snd)
          else none
      else some ((s.fst.fst, (), ()), (), s.snd.snd))
    (fun n t => ∃ (pre : List UInt8) (f y : Nat), t = (((y : Int), (), ()), (), iOf pre, ()) ∧ pre ++ vB f y = vB 10 x ∧ y < 128 ^ (f + 1) ∧ y < 9223372036854775808 ∧ n = f)
    (fun r => ∃ (pre : List UInt8) (y : Nat), r = (((y : Int), (), ()), (), iOf pre, ()) ∧ y < 128 ∧ pre ++ [y.toUInt8] = vB 10 x)
    (by
      rintro n t k ⟨pre, f, y, rfl, he, hy, hy2, rfl⟩ hk
      dsimp only
      have hlen : pre.length + (vB n y).length ≤ 11 := by rw [← List.length_append, he]; exact vB_len 10 x
      by_cases hp : (y : Int) > 127
      · rw [decide_eq_true hp, cond_true]
        rw [and127 y hy2, wrap8, Nat.mod_eq_of_lt (show y % 128 < 256 by omega), or128 _ (by omega), writeByte _ _ (by rw [iOf_len]; omega), Option.bind_some, if_pos (by omega)]
        dsimp only
        have hd : Int.fdiv (y : Int) (2 ^ min (Int.toNat 7) (IntKind.bits .i64)) = ((y / 128 : Nat) : Int) := by
          have : (2 : Int) ^ min (Int.toNat 7) (IntKind.bits .i64) = 128 := rfl
          rw [this, Int.fdiv_eq_ediv_of_nonneg _ (by omega)]; omega
        rw [hd, byte_app _ _ (by omega)]
        cases n with
        | zero => simp at hy; omega
        | succ f =>
          refine hk f _ (by omega) ⟨_, f, y / 128, rfl, ?_, ?_, by omega, rfl⟩
          · rw [← he]
            simp only [vB]
            rw [decide_eq_true (show y ≥ 128 by omega), cond_true, List.append_assoc]; rfl
          · rw [Nat.pow_succ] at hy
            exact Nat.div_lt_of_lt_mul (by rw [Nat.mul_comm]; exact hy)
      · rw [decide_eq_false hp, cond_false]
        refine ⟨_, rfl, pre, y, rfl, by omega, ?_⟩
        rw [← he]
        cases n with
        | zero => rfl
        | succ f => simp only [vB]; rw [decide_eq_false (by omega), cond_false])
    (Int.toNat (x : Int) + List.length (nilOf Int) + (300 : Nat)) 10 (((x : Int), (), ()), (), nilOf Int, ()) ⟨[], 10, x, rfl, rfl, by omega, hx, rfl⟩ (by omega)
  obtain ⟨r, hr, pre, y, rfl, hy, he⟩ := key
  refine bind_eq hr ?_
  dsimp only
  have hlen : pre.length + 1 = (vB 10 x).length := by rw [← he, List.length_append]; rfl
  have hl2 := vB_len 10 x
  rw [wrap8, Nat.mod_eq_of_lt (by omega), writeByte _ _ (by rw [iOf_len]; omega), Option.bind_some]
  dsimp only
  rw [byte_app _ _ (by omega), he, builderString _ (by omega), Option.bind_some]
  unfold vV
  rw [Int.toNat_natCast]
def putT (s : List UInt8) : List UInt8 := vV (s.length : Int) ++ s
theorem impl_putText (s : List UInt8) (h : s.length ≤ 1099511627776) : m_impl_putText s = some (putT s, ()) := by
  unfold m_impl_putText putT
  rw [impl_varText _ (by omega), Option.bind_some]
  dsimp only
  have := vV_len (s.length : Int)
  rw [if_pos (by show _ < 9223372036854775808; omega)]
end Go.AM
set_option linter.unusedVariables false
set_option linter.unusedSimpArgs false
namespace Go.AM
open Go
/-! ### marks -/
def mkT (k : Int) : List UInt8 := ((m_laws_markText k).getD ([], ())).1
theorem markText_some (k : Int) (h : k ≤ 1099511627776) : ∃ v, m_laws_markText k = some (v, ()) := by
  suffices hh : ∃ t, m_laws_markText k = some t ∧ True by
    obtain ⟨⟨v, u⟩, hv, _⟩ := hh
    exact ⟨v, hv⟩
  unfold m_laws_markText
  by_cases h0 : k ≤ 0
  · rw [decide_eq_true h0]; exact ⟨_, rfl, trivial⟩
  · rw [decide_eq_false h0, cond_false]
    refine bind_some' (Q := fun t : (List UInt8 × Unit) × Unit => t.1.1.length ≤ 1099511627776) (loopC_some' _ (fun n t => ∃ (x : Nat) (o : List UInt8), t = (((x : Int), o, ()), ()) ∧ o.length + x ≤ 1099511627776 ∧ n = x) _ ?_ _ k.toNat _ ⟨k.toNat, [], by rw [Int.toNat_of_nonneg (by omega)], by simp only [List.length_nil]; omega, rfl⟩ (by omega)) ?_
    · rintro n t kk ⟨x, o, rfl, hx, rfl⟩ hk
      dsimp only
      by_cases hp : (n : Int) > 0
      · rw [decide_eq_true hp, cond_true, if_pos (by omega), if_pos (by
          show _ + o.length < 9223372036854775808
          simp only [List.length_map, List.length_cons, List.length_nil]; omega), if_pos (by omega)]
        have hd : Int.tdiv (n : Int) 10 = ((n / 10 : Nat) : Int) := rfl
        rw [hd, wr _ (by omega)]
        refine hk (n / 10) _ (by omega) ⟨n / 10, _, rfl, ?_, rfl⟩
        simp only [List.length_append, List.length_map, List.length_cons, List.length_nil]; omega
      · rw [decide_eq_false hp, cond_false]
        exact ⟨_, rfl, by dsimp only; omega⟩
    · rintro ⟨⟨o, u⟩, u'⟩ ho
      dsimp only at ho ⊢
      rw [if_pos (by show _ < 9223372036854775808; simp only [List.length_cons, List.length_nil]; omega)]
      exact ⟨_, rfl, trivial⟩
theorem markText_eq (k : Int) (h : k ≤ 1099511627776) : m_laws_markText k = some (mkT k, ()) := by
  obtain ⟨v, hv⟩ := markText_some k h
  unfold mkT
  rw [hv]; rfl
end Go.AM
set_option linter.unusedVariables false
set_option linter.unusedSimpArgs false
namespace Go.AM
open Go
theorem writeString (a : List UInt8) (s : List Int) (h : s.length + a.length ≤ 140737488355328) : m_strings_Builder_WriteString a () s = some (((a.length : Int), (), ()), (), s ++ iOf a, ()) := by
  unfold m_strings_Builder_WriteString m_strings_Builder_copyCheck
  rw [Option.bind_some]
  dsimp only
  rw [if_pos (by rw [List.length_map]; omega)]
  rfl
theorem spec_PutVar (x : Nat) (hx : x < 9223372036854775808) : m_spec_PutVar (x : Int) = some ((), iOf (vV x), ()) := by
  unfold m_spec_PutVar
  rw [decide_eq_false (by omega), cond_false]
  have key := loopC_some' (fun (s : (Int × Unit × Unit) × List Int × Unit) (k : (Int × Unit × Unit) × List Int × Unit → Option ((Int × Unit × Unit) × List Int × Unit)) =>
      bif decide (s.fst.fst ≥ (128 : Int)) then
        if (128 : Int) ≠ (0 : Int) then
          if (List.length s.snd.fst + List.length [IntKind.wrap IntKind.u8 (IntKind.wrap IntKind.i64 ((128 : Int) + Int.tmod s.fst.fst (128 : Int)))]) * (1 : Nat) ≤ (140737488355328 : Nat) then
            if (128 : Int) ≠ (0 : Int) then
              k ((IntKind.wrap IntKind.i64 (Int.tdiv s.fst.fst (128 : Int)), (), ()), s.snd.fst ++ [IntKind.wrap IntKind.u8 (IntKind.wrap IntKind.i64 ((128 : Int) + Int.tmod s.fst.fst (128 : Int)))], ())
            else none
          else none
        else none
      else some ((s.fst.fst, (), ()), s.snd))
    (fun n t => ∃ (pre : List UInt8) (f y : Nat), t = (((y : Int), (), ()), iOf pre, ()) ∧ pre ++ vB f y = vB 10 x ∧ y < 128 ^ (f + 1) ∧ y < 9223372036854775808 ∧ n = f)
    (fun r => ∃ (pre : List UInt8) (y : Nat), r = (((y : Int), (), ()), iOf pre, ()) ∧ y < 128 ∧ pre ++ [y.toUInt8] = vB 10 x)
    (by
      rintro n t k ⟨pre, f, y, rfl, he, hy, hy2, rfl⟩ hk
      dsimp only
      have hlen : pre.length + (vB n y).length ≤ 11 := by rw [← List.length_append, he]; exact vB_len 10 x
      by_cases hp : (y : Int) ≥ 128
      · rw [decide_eq_true hp, cond_true, if_pos (by omega), if_pos (by rw [iOf_len]; simp only [List.length_cons, List.length_nil]; omega), if_pos (by omega)]
        have hm : Int.tmod (y : Int) 128 = ((y % 128 : Nat) : Int) := rfl
        have hd : Int.tdiv (y : Int) 128 = ((y / 128 : Nat) : Int) := rfl
        have hw : IntKind.wrap .i64 ((128 : Int) + ((y % 128 : Nat) : Int)) = ((128 + y % 128 : Nat) : Int) := by rw [wr _ (by omega)]; omega
        rw [hm, hd, hw, wrap8, Nat.mod_eq_of_lt (show 128 + y % 128 < 256 by omega), wr _ (by omega), byte_app _ _ (by omega)]
        cases n with
        | zero => simp at hy; omega
        | succ f =>
          refine hk f _ (by omega) ⟨_, f, y / 128, rfl, ?_, ?_, by omega, rfl⟩
          · rw [← he]
            simp only [vB]
            rw [decide_eq_true (show y ≥ 128 by omega), cond_true, List.append_assoc]; rfl
          · rw [Nat.pow_succ] at hy
            exact Nat.div_lt_of_lt_mul (by rw [Nat.mul_comm]; exact hy)
      · rw [decide_eq_false hp, cond_false]
        refine ⟨_, rfl, pre, y, rfl, by omega, ?_⟩
        rw [← he]
        cases n with
        | zero => rfl
        | succ f => simp only [vB]; rw [decide_eq_false (by omega), cond_false])
    (Int.toNat (x : Int) + List.length (nilOf Int) + (300 : Nat)) 10 (((x : Int), (), ()), nilOf Int, ()) ⟨[], 10, x, rfl, rfl, by omega, hx, rfl⟩ (by omega)
  obtain ⟨r, hr, pre, y, rfl, hy, he⟩ := key
  refine bind_eq hr ?_
  dsimp only
  have hlen : pre.length + 1 = (vB 10 x).length := by rw [← he, List.length_append]; rfl
  have hl2 := vB_len 10 x
  rw [wrap8, Nat.mod_eq_of_lt (by omega), if_pos (by rw [iOf_len]; simp only [List.length_cons, List.length_nil]; omega), byte_app _ _ (by omega), he]
  unfold vV
  rw [Int.toNat_natCast]
theorem spec_PutText (s : List UInt8) (h : s.length ≤ 20000) : m_spec_PutText s = some (iOf (putT s), ()) := by
  unfold m_spec_PutText putT
  rw [decide_eq_false (by omega), cond_false, spec_PutVar _ (by omega), Option.bind_some]
  dsimp only
  have := vV_len (s.length : Int)
  rw [if_pos (by rw [iOf_len, List.length_map]; omega), iOf_app]
  rfl
theorem impl_varI (x : Int) (h : 0 ≤ x ∧ x < 9223372036854775808) : m_impl_varText x = some (vV x, ()) := by
  have := impl_varText x.toNat (by omega)
  rw [Int.toNat_of_nonneg h.1] at this; exact this
theorem spec_varI (x : Int) (h : 0 ≤ x ∧ x < 9223372036854775808) : m_spec_PutVar x = some ((), iOf (vV x), ()) := by
  have := spec_PutVar x.toNat (by omega)
  rw [Int.toNat_of_nonneg h.1] at this; exact this
/-! ### the bytes of entries -/
def prev (l : List EntryT) (i : Nat) : EntryT := match i with | 0 => dE | i + 1 => l.getD i dE
def cmI (l : List EntryT) (i : Nat) : Nat := com (prev l i).1 (l.getD i dE).1
def sameI (l : List EntryT) (i : Nat) : Bool := decide (0 < i) && ((l.getD i dE).2.2.1 == (prev l i).2.2.1 && (l.getD i dE).2.2.2.1 == (prev l i).2.2.2.1)
def pieceA (l : List EntryT) (i : Nat) : List UInt8 := vV (cmI l i : Int) ++ putT ((l.getD i dE).1.drop (cmI l i))
def pieceB (l : List EntryT) (i : Nat) : List UInt8 := cond (sameI l i) (vV ((l.getD i dE).2.1 + 4)) (vV (l.getD i dE).2.1 ++ (vV (l.getD i dE).2.2.1 ++ vV (l.getD i dE).2.2.2.1))
def pieceC (l : List EntryT) (i : Nat) : List UInt8 := cond ((l.getD i dE).2.1 == 1) (vV (l.getD i dE).2.2.2.2.1 ++ vV (l.getD i dE).2.2.2.2.2.2) (cond ((l.getD i dE).2.1 == 2) (putT (l.getD i dE).2.2.2.2.2.1) [])
def entI (l : List EntryT) : Nat → List UInt8
  | 0 => vV (l.length : Int)
  | i + 1 => entI l i ++ (pieceA l i ++ (pieceB l i ++ pieceC l i))
structure EOk (e : EntryT) : Prop where
  path : e.1.length ≤ 168
  kind : 0 ≤ e.2.1 ∧ e.2.1 ≤ 2
  mode : 0 ≤ e.2.2.1 ∧ e.2.2.1 ≤ 511
  time : 0 ≤ e.2.2.2.1 ∧ e.2.2.2.1 ≤ 1000000000
  size : 0 ≤ e.2.2.2.2.1 ∧ e.2.2.2.2.1 ≤ 20000
  group : 0 ≤ e.2.2.2.2.2.2 ∧ e.2.2.2.2.2.2 ≤ 200
  target : e.2.2.2.2.2.1.length ≤ 60
theorem eok_of {e : EntryT} (h : entryOk e = true) : EOk e := by
  unfold entryOk entryNode nodeOk nodeKind at h
  simp only [Bool.and_eq_true] at h
  obtain ⟨⟨⟨hp, hm, ht⟩, hk⟩, hs, _⟩ := h
  unfold inI at hm ht hs
  simp only [Bool.and_eq_true, decide_eq_true_eq] at hm ht hs
  have hpl : e.1.length ≤ 168 := by
    unfold pathOk at hp
    rw [Bool.and_eq_true, decide_eq_true_eq] at hp
    exact hp.1
  cases h0 : e.2.1 == 0 with
  | true =>
    rw [h0, cond_true] at hk
    simp only [Bool.and_eq_true, beq_iff_eq] at hk h0
    exact ⟨hpl, by omega, by omega, by omega, by omega, by rw [hk.2.2]; omega, by rw [hk.2.1]; exact Nat.zero_le _⟩
  | false =>
    rw [h0, cond_false] at hk
    cases h1 : e.2.1 == 1 with
    | true =>
      rw [h1, cond_true] at hk
      unfold inI at hk
      simp only [Bool.and_eq_true, beq_iff_eq, decide_eq_true_eq] at hk h1
      exact ⟨hpl, by omega, by omega, by omega, by omega, by omega, by rw [hk.2.1]; exact Nat.zero_le _⟩
    | false =>
      rw [h1, cond_false] at hk
      cases h2 : e.2.1 == 2 with
      | true =>
        rw [h2, cond_true] at hk
        unfold inI at hk
        simp only [Bool.and_eq_true, beq_iff_eq, decide_eq_true_eq] at hk h2
        exact ⟨hpl, by omega, by omega, by omega, by omega, by rw [hk.1.2.2.1]; omega, by omega⟩
      | false => rw [h2] at hk; cases hk
theorem entries_eok {l : List EntryT} (h : entriesOk l = true) : l.length ≤ 200 ∧ ∀ i, i < l.length → EOk (l.getD i dE) := by
  unfold entriesOk at h
  rw [Bool.and_eq_true, decide_eq_true_eq, List.all_eq_true] at h
  refine ⟨h.1, fun i hi => ?_⟩
  have := h.2 i (List.mem_range.2 hi)
  unfold entryAt at this
  rw [Bool.and_eq_true] at this
  exact eok_of this.1
theorem putT_len (s : List UInt8) : (putT s).length ≤ 11 + s.length := by
  unfold putT
  have := vV_len (s.length : Int)
  rw [List.length_append]; omega
theorem pieceA_len (l : List EntryT) (i : Nat) (h : EOk (l.getD i dE)) : (pieceA l i).length ≤ 200 := by
  unfold pieceA
  have h1 := vV_len (cmI l i : Int)
  have h2 := putT_len ((l.getD i dE).1.drop (cmI l i))
  have h3 := h.path
  rw [List.length_drop] at h2
  rw [List.length_append]; omega
theorem pieceB_len (l : List EntryT) (i : Nat) : (pieceB l i).length ≤ 33 := by
  unfold pieceB
  have h1 := vV_len ((l.getD i dE).2.1 + 4)
  have h2 := vV_len (l.getD i dE).2.1
  have h3 := vV_len (l.getD i dE).2.2.1
  have h4 := vV_len (l.getD i dE).2.2.2.1
  cases sameI l i
  · simp only [cond_false, List.length_append]; omega
  · simp only [cond_true]; omega
theorem pieceC_len (l : List EntryT) (i : Nat) (h : EOk (l.getD i dE)) : (pieceC l i).length ≤ 71 := by
  unfold pieceC
  have h1 := vV_len (l.getD i dE).2.2.2.2.1
  have h2 := vV_len (l.getD i dE).2.2.2.2.2.2
  have h3 := putT_len (l.getD i dE).2.2.2.2.2.1
  have h4 := h.target
  cases (l.getD i dE).2.1 == 1
  · cases (l.getD i dE).2.1 == 2
    · simp
    · simp only [cond_false, cond_true]; omega
  · simp only [cond_true, List.length_append]; omega
theorem entI_len (l : List EntryT) (h : ∀ i, i < l.length → EOk (l.getD i dE)) : ∀ i, i ≤ l.length → (entI l i).length ≤ 11 + i * 304
  | 0, _ => by have := vV_len (l.length : Int); simp only [entI]; omega
  | i + 1, hi => by
    have ih := entI_len l h i (by omega)
    have h1 := pieceA_len l i (h i (by omega))
    have h2 := pieceB_len l i
    have h3 := pieceC_len l i (h i (by omega))
    simp only [entI, List.length_append]; omega
def bc (e : EntryT) := (e.1, e.2.1, e.2.2.1, e.2.2.2.1, e.2.2.2.2.1, e.2.2.2.2.2.1, e.2.2.2.2.2.2, ())
end Go.AM
set_option linter.unusedVariables false
set_option linter.unusedSimpArgs false
namespace Go.AM
open Go
theorem hdE : ((nilOf UInt8, Int.ofNat (nat_lit 0), Int.ofNat (nat_lit 0), Int.ofNat (nat_lit 0), Int.ofNat (nat_lit 0), nilOf UInt8, Int.ofNat (nat_lit 0)) : EntryT) = dE := rfl
theorem gr {i n : Nat} (h : i < n) : (0 : Int) ≤ (i : Int) ∧ (i : Int) < (n : Int) := by omega
theorem spec_entB (l : List EntryT) (ht : ∀ e ∈ l, e.2.2.2.2.2.1.length ≤ 1099511627776) : m_spec_PutEntries l = some (cond (entriesOk l) (iOf (entI l l.length)) [], ()) := by
  unfold m_spec_PutEntries
  rw [spec_entries l ht, Option.bind_some]
  cases hok : entriesOk l with
  | false => rfl
  | true =>
    simp only [Bool.not_true, cond_false, cond_true]
    obtain ⟨hl, he⟩ := entries_eok hok
    have hlen := fun i hi => entI_len l he i hi
    rw [spec_PutVar _ (by omega), Option.bind_some]
    dsimp only
    refine bind_eq (loopC_inv _ (fun n t => ∃ i : Nat, t = ((l, (), (), (i : Int), ()), iOf (entI l i), bc (prev l i), ()) ∧ i ≤ l.length ∧ n = l.length - i)
      (fun _ => some (((), ()), iOf (entI l l.length), ())) ?_ _ l.length _ ⟨0, rfl, by omega, rfl⟩ (by omega)) rfl
    rintro n t k ⟨i, rfl, hi, rfl⟩ hk
    dsimp only
    by_cases hlt : i < l.length
    · have hE := he i hlt
      have hli := hlen i hi
      have hA := pieceA_len l i hE
      have hB := pieceB_len l i
      have hC := pieceC_len l i hE
      have hcm := comN_le (prev l i).1 (l.getD i dE).1 (prev l i).1.length 0 (Nat.zero_le _) (Nat.zero_le _)
      have hcm1 : cmI l i ≤ (l.getD i dE).1.length := hcm.2
      have hpath := hE.path
      have hpl : (prev l i).1.length ≤ 168 := by
        unfold prev
        cases i with
        | zero => exact Nat.zero_le _
        | succ i => exact (he i (by omega)).path
      unfold pieceA at hA
      rw [List.length_append] at hA
      rw [decide_eq_true (by omega), cond_true]
      simp only [if_pos (gr hlt), Int.toNat_natCast]
      rw [hdE]
      refine bind_eq (show m_spec_l12Common (prev l i).1 (l.getD i dE).1 = some ((cmI l i : Int), ()) from spec_common _ _ (by omega)) ?_
      dsimp only
      rw [spec_PutVar (cmI l i) (by omega), Option.bind_some]
      dsimp only
      rw [if_pos (by rw [iOf_len, iOf_len]; omega), if_pos (by omega), Int.toNat_natCast]
      rw [List.take_length]
      rw [spec_PutText _ (by rw [List.length_drop]; omega), Option.bind_some]
      dsimp only
      rw [if_pos (by rw [List.length_append, iOf_len, iOf_len, iOf_len]; omega)]
      refine bind_eq (x := ((l, (), (), (i : Int), (), sameI l i, ()), iOf (entI l i) ++ iOf (vV (cmI l i : Int)) ++ iOf (putT ((l.getD i dE).1.drop (cmI l i))), bc (prev l i), bc (l.getD i dE), ())) ?_ ?_
      · unfold sameI
        by_cases h0 : i = 0
        · subst h0; rfl
        · rw [decide_eq_true (show (i : Int) > 0 by omega), decide_eq_true (show 0 < i by omega), cond_true, Bool.true_and]
          show (bif (l.getD i dE).2.2.1 == (prev l i).2.2.1 then _ else _) = _
          cases (l.getD i dE).2.2.1 == (prev l i).2.2.1 <;> rfl
      · dsimp only
        have e1 : iOf (entI l i) ++ iOf (vV (cmI l i : Int)) ++ iOf (putT ((l.getD i dE).1.drop (cmI l i))) = iOf (entI l i ++ pieceA l i) := by
          unfold pieceA; simp only [iOf_app, List.append_assoc]
        rw [e1]
        have hA' := pieceA_len l i hE
        have hBl : (iOf (entI l i ++ pieceA l i)).length ≤ 70000 := by rw [iOf_len, List.length_append]; omega
        generalize hG : iOf (entI l i ++ pieceA l i) = G at hBl
        refine bind_eq (x := ((l, (), (), (i : Int), (), ()), G ++ iOf (pieceB l i), bc (prev l i), bc (l.getD i dE), ())) ?_ ?_
        · unfold pieceB
          have hk1 := hE.kind
          cases sameI l i with
          | true =>
            simp only [cond_true]
            refine bind_eq (show m_spec_PutVar (IntKind.wrap .i64 ((l.getD i dE).2.1 + 4)) = some ((), iOf (vV ((l.getD i dE).2.1 + 4)), ()) from ?_) ?_
            · rw [wr _ (by omega)]; exact spec_varI _ (by omega)
            · dsimp only
              have hv := vV_len ((l.getD i dE).2.1 + 4)
              rw [if_pos (by rw [iOf_len]; omega)]
          | false =>
            simp only [cond_false]
            have hm1 := hE.mode
            have ht1 := hE.time
            have hv1 := vV_len (l.getD i dE).2.1
            have hv2 := vV_len (l.getD i dE).2.2.1
            have hv3 := vV_len (l.getD i dE).2.2.2.1
            refine bind_eq (show m_spec_PutVar (l.getD i dE).2.1 = _ from spec_varI _ (by omega)) ?_
            dsimp only
            rw [if_pos (by rw [iOf_len]; omega)]
            refine bind_eq (show m_spec_PutVar (l.getD i dE).2.2.1 = _ from spec_varI _ (by omega)) ?_
            dsimp only
            rw [if_pos (by rw [List.length_append, iOf_len, iOf_len]; omega)]
            refine bind_eq (show m_spec_PutVar (l.getD i dE).2.2.2.1 = _ from spec_varI _ (by omega)) ?_
            dsimp only
            rw [if_pos (by rw [List.length_append, List.length_append, iOf_len, iOf_len, iOf_len]; omega)]
            simp only [iOf_app, List.append_assoc]
        · dsimp only
          have hGB : (G ++ iOf (pieceB l i)).length ≤ 70033 := by rw [List.length_append, iOf_len]; omega
          generalize hH : G ++ iOf (pieceB l i) = H at hGB
          refine bind_eq (x := ((l, (), (), (i : Int), (), ()), H ++ iOf (pieceC l i), bc (prev l i), bc (l.getD i dE), ())) ?_ ?_
          · unfold pieceC
            show (bif (l.getD i dE).2.1 == 1 then _ else _) = _
            cases (l.getD i dE).2.1 == 1 with
            | true =>
              simp only [cond_true]
              have hs1 := hE.size
              have hg1 := hE.group
              have hv1 := vV_len (l.getD i dE).2.2.2.2.1
              have hv2 := vV_len (l.getD i dE).2.2.2.2.2.2
              refine bind_eq (show m_spec_PutVar (l.getD i dE).2.2.2.2.1 = _ from spec_varI _ (by omega)) ?_
              dsimp only
              rw [if_pos (by rw [iOf_len]; omega)]
              refine bind_eq (show m_spec_PutVar (l.getD i dE).2.2.2.2.2.2 = _ from spec_varI _ (by omega)) ?_
              dsimp only
              rw [if_pos (by rw [List.length_append, iOf_len, iOf_len]; omega)]
              simp only [iOf_app, List.append_assoc]
            | false =>
              simp only [cond_false]
              refine bind_eq (x := ((l, (), (), (i : Int), (), ()), H ++ iOf (cond ((l.getD i dE).2.1 == 2) (putT (l.getD i dE).2.2.2.2.2.1) []), bc (prev l i), bc (l.getD i dE), ())) ?_ rfl
              show (bif (l.getD i dE).2.1 == 2 then _ else _) = _
              cases (l.getD i dE).2.1 == 2 with
              | true =>
                simp only [cond_true]
                have htg := hE.target
                have hv1 := putT_len (l.getD i dE).2.2.2.2.2.1
                refine bind_eq (show m_spec_PutText (l.getD i dE).2.2.2.2.2.1 = _ from spec_PutText _ (by omega)) ?_
                dsimp only
                rw [if_pos (by rw [iOf_len]; omega)]
              | false =>
                simp only [cond_false, iOf_nil, List.append_nil]
          · dsimp only
            rw [wr1 i (by omega)]
            have e2 : H ++ iOf (pieceC l i) = iOf (entI l (i + 1)) := by
              rw [← hH, ← hG]; simp only [entI, iOf_app, List.append_assoc]
            rw [e2]
            exact hk (l.length - (i + 1)) _ (by omega) ⟨i + 1, rfl, by omega, rfl⟩
    · have : i = l.length := by omega
      subst this
      rw [decide_eq_false (by omega)]; rfl
theorem impl_entT (l : List EntryT) (hok : entriesOk l = true) : m_impl_entriesText l = some (entI l l.length, ()) := by
  unfold m_impl_entriesText
  obtain ⟨hl, he⟩ := entries_eok hok
  have hlen := fun i hi => entI_len l he i hi
  have hv0 := vV_len (l.length : Int)
  rw [impl_varText _ (by omega), Option.bind_some]
  dsimp only
  rw [writeString _ _ (by simp only [nilOf, List.length_nil]; omega), Option.bind_some]
  dsimp only
  refine bind_eq (loopC_inv _ (fun n t => ∃ i : Nat, t = (((), (), l, (l.length : Int), (i : Int), ()), (), iOf (entI l i), bc (prev l i), ()) ∧ i ≤ l.length ∧ n = l.length - i)
    (fun _ => some (((), ()), (), iOf (entI l l.length), ())) ?_ _ l.length _ ⟨0, rfl, by omega, rfl⟩ (by omega)) ?_
  · rintro n t k ⟨i, rfl, hi, rfl⟩ hk
    dsimp only
    by_cases hlt : i < l.length
    · have hE := he i hlt
      have hli := hlen i hi
      have hA := pieceA_len l i hE
      have hB := pieceB_len l i
      have hC := pieceC_len l i hE
      have hcm := comN_le (prev l i).1 (l.getD i dE).1 (prev l i).1.length 0 (Nat.zero_le _) (Nat.zero_le _)
      have hcm1 : cmI l i ≤ (l.getD i dE).1.length := hcm.2
      have hpath := hE.path
      have hpl : (prev l i).1.length ≤ 168 := by
        unfold prev
        cases i with
        | zero => exact Nat.zero_le _
        | succ i => exact (he i (by omega)).path
      rw [decide_eq_true (by omega), cond_true]
      simp only [if_pos (gr hlt), Int.toNat_natCast]
      rw [hdE]
      refine bind_eq (show m_impl_common (prev l i).1 (l.getD i dE).1 = some ((cmI l i : Int), ()) from impl_common _ _ (by omega)) ?_
      dsimp only
      rw [impl_varText (cmI l i) (by omega), Option.bind_some]
      dsimp only
      rw [if_pos (by omega), Int.toNat_natCast, List.take_length]
      rw [impl_putText _ (by rw [List.length_drop]; omega), Option.bind_some]
      dsimp only
      have hAl : (vV (cmI l i : Int)).length + (putT ((l.getD i dE).1.drop (cmI l i))).length ≤ 200 := by
        have := hA; unfold pieceA at this; rw [List.length_append] at this; exact this
      rw [if_pos (by show _ < 9223372036854775808; omega)]
      rw [show vV (cmI l i : Int) ++ putT ((l.getD i dE).1.drop (cmI l i)) = pieceA l i from rfl]
      rw [writeString _ _ (by rw [iOf_len]; omega), Option.bind_some]
      dsimp only
      have hBl : (iOf (entI l i) ++ iOf (pieceA l i)).length ≤ 70000 := by rw [List.length_append, iOf_len, iOf_len]; omega
      generalize hG : iOf (entI l i) ++ iOf (pieceA l i) = G at hBl
      refine bind_eq (x := (((), (), (), l, (l.length : Int), (i : Int), sameI l i, ()), (), G, bc (prev l i), bc (l.getD i dE), ())) ?_ ?_
      · unfold sameI
        by_cases h0 : i = 0
        · subst h0; rfl
        · rw [decide_eq_true (show (i : Int) > 0 by omega), decide_eq_true (show 0 < i by omega), cond_true, Bool.true_and]
          show (bif (l.getD i dE).2.2.1 == (prev l i).2.2.1 then _ else _) = _
          cases (l.getD i dE).2.2.1 == (prev l i).2.2.1 <;> rfl
      · dsimp only
        refine bind_eq (x := (((), (), (), l, (l.length : Int), (i : Int), ()), (), G ++ iOf (pieceB l i), bc (prev l i), bc (l.getD i dE), ())) ?_ ?_
        · unfold pieceB
          have hk1 := hE.kind
          cases sameI l i with
          | true =>
            simp only [cond_true]
            refine bind_eq (show m_impl_varText (IntKind.wrap .i64 ((l.getD i dE).2.1 + 4)) = some (vV ((l.getD i dE).2.1 + 4), ()) from ?_) ?_
            · rw [wr _ (by omega)]; exact impl_varI _ (by omega)
            · dsimp only
              have hv := vV_len ((l.getD i dE).2.1 + 4)
              rw [writeString _ _ (by omega), Option.bind_some]
          | false =>
            simp only [cond_false]
            have hm1 := hE.mode
            have ht1 := hE.time
            have hv1 := vV_len (l.getD i dE).2.1
            have hv2 := vV_len (l.getD i dE).2.2.1
            have hv3 := vV_len (l.getD i dE).2.2.2.1
            refine bind_eq (show m_impl_varText (l.getD i dE).2.1 = _ from impl_varI _ (by omega)) ?_
            dsimp only
            refine bind_eq (show m_impl_varText (l.getD i dE).2.2.1 = _ from impl_varI _ (by omega)) ?_
            dsimp only
            rw [if_pos (by show _ < 9223372036854775808; omega)]
            refine bind_eq (show m_impl_varText (l.getD i dE).2.2.2.1 = _ from impl_varI _ (by omega)) ?_
            dsimp only
            rw [if_pos (by show _ < 9223372036854775808; rw [List.length_append]; omega)]
            rw [writeString _ _ (by rw [List.length_append, List.length_append]; omega), Option.bind_some]
            simp only [List.append_assoc]
        · dsimp only
          have hGB : (G ++ iOf (pieceB l i)).length ≤ 70033 := by rw [List.length_append, iOf_len]; omega
          generalize hH : G ++ iOf (pieceB l i) = H at hGB
          refine bind_eq (x := (((), (), (), l, (l.length : Int), (i : Int), ()), (), H ++ iOf (pieceC l i), bc (prev l i), bc (l.getD i dE), ())) ?_ ?_
          · unfold pieceC
            show (bif (l.getD i dE).2.1 == 1 then _ else _) = _
            cases (l.getD i dE).2.1 == 1 with
            | true =>
              simp only [cond_true]
              have hs1 := hE.size
              have hg1 := hE.group
              have hv1 := vV_len (l.getD i dE).2.2.2.2.1
              have hv2 := vV_len (l.getD i dE).2.2.2.2.2.2
              refine bind_eq (show m_impl_varText (l.getD i dE).2.2.2.2.1 = _ from impl_varI _ (by omega)) ?_
              dsimp only
              refine bind_eq (show m_impl_varText (l.getD i dE).2.2.2.2.2.2 = _ from impl_varI _ (by omega)) ?_
              dsimp only
              rw [if_pos (by show _ < 9223372036854775808; omega)]
              rw [writeString _ _ (by rw [List.length_append]; omega), Option.bind_some]
            | false =>
              simp only [cond_false]
              refine bind_eq (x := (((), (), (), l, (l.length : Int), (i : Int), ()), (), H ++ iOf (cond ((l.getD i dE).2.1 == 2) (putT (l.getD i dE).2.2.2.2.2.1) []), bc (prev l i), bc (l.getD i dE), ())) ?_ rfl
              show (bif (l.getD i dE).2.1 == 2 then _ else _) = _
              cases (l.getD i dE).2.1 == 2 with
              | true =>
                simp only [cond_true]
                have htg := hE.target
                have hv1 := putT_len (l.getD i dE).2.2.2.2.2.1
                refine bind_eq (show m_impl_putText (l.getD i dE).2.2.2.2.2.1 = _ from impl_putText _ (by omega)) ?_
                dsimp only
                rw [writeString _ _ (by omega), Option.bind_some]
              | false =>
                simp only [cond_false, iOf_nil, List.append_nil]
          · dsimp only
            rw [wr1 i (by omega)]
            have e2 : H ++ iOf (pieceC l i) = iOf (entI l (i + 1)) := by
              rw [← hH, ← hG]; simp only [entI, iOf_app, List.append_assoc]
            rw [e2]
            exact hk (l.length - (i + 1)) _ (by omega) ⟨i + 1, rfl, by omega, rfl⟩
    · have : i = l.length := by omega
      subst this
      rw [decide_eq_false (by omega)]; rfl
  · dsimp only
    have hli := hlen l.length (by omega)
    rw [builderString _ (by omega), Option.bind_some]
theorem impl_entB (l : List EntryT) : m_impl_PutEntries l = some ((), cond (entriesOk l) (iOf (entI l l.length)) [], ()) := by
  unfold m_impl_PutEntries
  rw [impl_entries l, Option.bind_some]
  cases hok : entriesOk l with
  | false => rfl
  | true =>
    simp only [Bool.not_true, cond_false, cond_true]
    rw [impl_entT l hok, Option.bind_some]
    rfl
end Go.AM
set_option linter.unusedVariables false
set_option linter.unusedSimpArgs false
namespace Go.AM
open Go
theorem toEntryS_own (l : List EntryT) (hl : l.length ≤ 1048576) : m_laws_toEntryS l = some ((), l, ()) := by
  unfold m_laws_toEntryS
  have h2 : ((72 : Nat) : Int) * (l.length : Int) ≤ 140737488355328 := by omega
  rw [if_pos ⟨by omega, by omega, h2, by show (l.length : Int) < 4611686018427387904; omega⟩]
  refine bind_ex (loopC_some' _ (fun n t => ∃ (i : Nat) (o : List EntryT), t = ((l, (), (i : Int), ()), o, ()) ∧ i ≤ l.length ∧ o.length = l.length ∧ o.take i = l.take i ∧ n = l.length - i)
    (fun t => t = (((), ()), l, ())) ?_ _ l.length _ ⟨0, _, rfl, by omega, by simp, by simp, rfl⟩ (by omega)) ?_
  · rintro n t k ⟨i, o, rfl, hi, ho, he, rfl⟩ hk
    dsimp only
    by_cases hlt : i < l.length
    · rw [decide_eq_true (by omega), cond_true, if_pos (by omega), Int.toNat_natCast]
      show ∃ r, Option.bind (some (l.getD i dE, ())) _ = some r ∧ _
      rw [Option.bind_some, if_pos (by omega), if_pos (by omega), wr1 i (by omega)]
      refine hk (l.length - (i + 1)) _ (by omega) ⟨i + 1, _, rfl, by omega, by rw [List.length_set]; exact ho, ?_, rfl⟩
      rw [List.take_add_one, List.take_add_one, List.take_set_of_le (by omega), he, List.getElem?_set_self (by omega), List.getElem?_eq_getElem hlt, List.getD_eq_getElem?_getD, List.getElem?_eq_getElem hlt]
      rfl
    · rw [decide_eq_false (by omega), cond_false]
      refine ⟨_, rfl, ?_⟩
      rw [List.take_of_length_le (by omega), List.take_of_length_le (by omega)] at he
      rw [he]
  · rintro t rfl; rfl
theorem markEntryS_some (l : List EntryT) (hl : l.length ≤ 1048576) : ∃ v l', m_laws_markEntryS 1 l = some (v, l', ()) ∧ 0 ≤ v := by
  suffices hh : ∃ t, m_laws_markEntryS 1 l = some t ∧ 0 ≤ t.1 by
    obtain ⟨⟨v, l', u⟩, hv, h0⟩ := hh
    exact ⟨v, l', hv, h0⟩
  unfold m_laws_markEntryS
  refine bind_some' (Q := fun t : (Int × Unit) × List EntryT × Unit => 0 ≤ t.1.1) (loopC_some' _ (fun n t => ∃ (i : Nat) (o : List EntryT), t = (((), ((1 + 7 * i : Nat) : Int), (i : Int), ()), o, ()) ∧ o.length = l.length ∧ i ≤ l.length ∧ n = l.length - i) _ ?_ _ l.length _ ⟨0, l, rfl, rfl, by omega, rfl⟩ (by omega)) ?_
  · rintro n t k ⟨i, o, rfl, ho, hi, rfl⟩ hk
    dsimp only
    by_cases hlt : i < l.length
    · rw [decide_eq_true (by omega), cond_true]
      refine bind_some' (Q := fun t => ∃ o' : List EntryT, t = (((), ((1 + 7 * i + 0 : Nat) : Int), (i : Int), ()), o', ()) ∧ o'.length = l.length) ?_ ?_
      · rw [markText_eq _ (by omega), Option.bind_some]
        dsimp only
        rw [if_pos (by omega), if_pos (by rw [Int.toNat_natCast]; omega)]
        exact ⟨_, rfl, _, rfl, by rw [List.length_set]; exact ho⟩
      rintro _ ⟨o, rfl, ho⟩
      dsimp only
      refine bind_some' (Q := fun t => ∃ o' : List EntryT, t = (((), ((1 + 7 * i + 1 : Nat) : Int), (i : Int), ()), o', ()) ∧ o'.length = l.length) ?_ ?_
      · have e : IntKind.wrap .i64 (((1 + 7 * i + 0 : Nat) : Int) + 1) = ((1 + 7 * i + 1 : Nat) : Int) := wr1 _ (by omega)
        rw [e]
        rw [if_pos (by omega), if_pos (by rw [Int.toNat_natCast]; omega)]
        exact ⟨_, rfl, _, rfl, by rw [List.length_set]; exact ho⟩
      rintro _ ⟨o, rfl, ho⟩
      dsimp only
      refine bind_some' (Q := fun t => ∃ o' : List EntryT, t = (((), ((1 + 7 * i + 2 : Nat) : Int), (i : Int), ()), o', ()) ∧ o'.length = l.length) ?_ ?_
      · have e : IntKind.wrap .i64 (((1 + 7 * i + 1 : Nat) : Int) + 1) = ((1 + 7 * i + 2 : Nat) : Int) := wr1 _ (by omega)
        rw [e]
        rw [if_pos (by omega), if_pos (by rw [Int.toNat_natCast]; omega)]
        exact ⟨_, rfl, _, rfl, by rw [List.length_set]; exact ho⟩
      rintro _ ⟨o, rfl, ho⟩
      dsimp only
      refine bind_some' (Q := fun t => ∃ o' : List EntryT, t = (((), ((1 + 7 * i + 3 : Nat) : Int), (i : Int), ()), o', ()) ∧ o'.length = l.length) ?_ ?_
      · have e : IntKind.wrap .i64 (((1 + 7 * i + 2 : Nat) : Int) + 1) = ((1 + 7 * i + 3 : Nat) : Int) := wr1 _ (by omega)
        rw [e]
        rw [if_pos (by omega), if_pos (by rw [Int.toNat_natCast]; omega)]
        exact ⟨_, rfl, _, rfl, by rw [List.length_set]; exact ho⟩
      rintro _ ⟨o, rfl, ho⟩
      dsimp only
      refine bind_some' (Q := fun t => ∃ o' : List EntryT, t = (((), ((1 + 7 * i + 4 : Nat) : Int), (i : Int), ()), o', ()) ∧ o'.length = l.length) ?_ ?_
      · have e : IntKind.wrap .i64 (((1 + 7 * i + 3 : Nat) : Int) + 1) = ((1 + 7 * i + 4 : Nat) : Int) := wr1 _ (by omega)
        rw [e]
        rw [if_pos (by omega), if_pos (by rw [Int.toNat_natCast]; omega)]
        exact ⟨_, rfl, _, rfl, by rw [List.length_set]; exact ho⟩
      rintro _ ⟨o, rfl, ho⟩
      dsimp only
      refine bind_some' (Q := fun t => ∃ o' : List EntryT, t = (((), ((1 + 7 * i + 5 : Nat) : Int), (i : Int), ()), o', ()) ∧ o'.length = l.length) ?_ ?_
      · have e : IntKind.wrap .i64 (((1 + 7 * i + 4 : Nat) : Int) + 1) = ((1 + 7 * i + 5 : Nat) : Int) := wr1 _ (by omega)
        rw [e]
        rw [markText_eq _ (by omega), Option.bind_some]
        dsimp only
        rw [if_pos (by omega), if_pos (by rw [Int.toNat_natCast]; omega)]
        exact ⟨_, rfl, _, rfl, by rw [List.length_set]; exact ho⟩
      rintro _ ⟨o, rfl, ho⟩
      dsimp only
      refine bind_some' (Q := fun t => ∃ o' : List EntryT, t = (((), ((1 + 7 * i + 6 : Nat) : Int), (i : Int), ()), o', ()) ∧ o'.length = l.length) ?_ ?_
      · have e : IntKind.wrap .i64 (((1 + 7 * i + 5 : Nat) : Int) + 1) = ((1 + 7 * i + 6 : Nat) : Int) := wr1 _ (by omega)
        rw [e]
        rw [if_pos (by omega), if_pos (by rw [Int.toNat_natCast]; omega)]
        exact ⟨_, rfl, _, rfl, by rw [List.length_set]; exact ho⟩
      rintro _ ⟨o, rfl, ho⟩
      dsimp only
      have e : IntKind.wrap .i64 (((1 + 7 * i + 6 : Nat) : Int) + 1) = ((1 + 7 * (i + 1) : Nat) : Int) := wr1 _ (by omega)
      rw [e, wr1 i (by omega)]
      exact hk (l.length - (i + 1)) _ (by omega) ⟨i + 1, o, rfl, ho, by omega, rfl⟩
    · rw [decide_eq_false (by omega)]
      exact ⟨_, rfl, by dsimp only; omega⟩
  · rintro ⟨⟨v, u⟩, o, u'⟩ h0
    exact ⟨_, rfl, h0⟩
def mkB (k : Nat) (n : Nat) : List Int := (List.range n).map (fun i => IntKind.wrap .u8 ((k + i : Nat) : Int))
theorem mkB_len (k n : Nat) : (mkB k n).length = n := by unfold mkB; simp
theorem markByteS_eq (xs : List Int) (k : Nat) (hk : k ≤ 68719476736) (hn : xs.length ≤ 68719476736) : m_laws_markByteS (k : Int) xs = some (((k + xs.length : Nat) : Int), mkB k xs.length, ()) := by
  unfold m_laws_markByteS
  refine bind_eq (loopC_inv _ (fun n t => ∃ (i : Nat) (o : List Int), t = (((), ((k + i : Nat) : Int), (i : Int), ()), o, ()) ∧ i ≤ xs.length ∧ o.length = xs.length ∧ o.take i = mkB k i ∧ n = xs.length - i)
    (fun _ => some ((((k + xs.length : Nat) : Int), ()), mkB k xs.length, ())) ?_ _ xs.length _ ⟨0, xs, rfl, by omega, rfl, rfl, rfl⟩ (by omega)) rfl
  rintro n t kk ⟨i, o, rfl, hi, ho, he, rfl⟩ hkk
  dsimp only
  by_cases hlt : i < xs.length
  · rw [decide_eq_true (by omega), cond_true, if_pos (by omega), if_pos (by rw [Int.toNat_natCast]; omega), Int.toNat_natCast, Option.bind_some]
    dsimp only
    rw [wr1 _ (by omega), wr1 _ (by omega)]
    refine hkk (xs.length - (i + 1)) _ (by omega) ⟨i + 1, _, rfl, by omega, by rw [List.length_set]; exact ho, ?_, rfl⟩
    rw [List.take_add_one, List.take_set_of_le (by omega), he, List.getElem?_set_self (by omega)]
    unfold mkB
    rw [List.range_succ, List.map_append]
    rfl
  · have : i = xs.length := by omega
    subst this
    rw [decide_eq_false (by omega), cond_false]
    rw [List.take_of_length_le (by omega)] at he
    rw [he]
theorem heldByteS_eq (k n : Nat) (hk : k ≤ 68719476736) (hn : n ≤ 68719476736) : m_laws_heldByteS (mkB k n) (k : Int) = some (((k + n : Nat) : Int), ()) := by
  unfold m_laws_heldByteS
  have hl := mkB_len k n
  refine joinC_of (loopC_inv _ (fun m t => ∃ (i : Nat), t = ((mkB k n, ((k + i : Nat) : Int), (i : Int), ()), ()) ∧ i ≤ n ∧ m = n - i)
    (fun _ => some (.inl ((((k + n : Nat) : Int), ()), ()))) ?_ _ n _ ⟨0, rfl, by omega, rfl⟩ (by omega)) rfl
  rintro m t kk ⟨i, rfl, hi, rfl⟩ hkk
  dsimp only
  by_cases hlt : i < n
  · rw [decide_eq_true (by omega), cond_true, if_pos (by omega), Int.toNat_natCast]
    have hg : (mkB k n).getD i (Int.ofNat (nat_lit 0)) = IntKind.wrap .u8 ((k + i : Nat) : Int) := by
      unfold mkB
      rw [List.getD_eq_getElem?_getD, List.getElem?_map, List.getElem?_range hlt]; rfl
    rw [hg, show (IntKind.wrap .u8 ((k + i : Nat) : Int) != IntKind.wrap .u8 ((k + i : Nat) : Int)) = false by simp, cond_false, wr1 _ (by omega), wr1 _ (by omega)]
    exact hkk (n - (i + 1)) _ (by omega) ⟨i + 1, rfl, by omega, rfl⟩
  · have : i = n := by omega
    subst this
    rw [decide_eq_false (by omega)]; rfl
theorem eqByteS_self (l : List Int) (hl : l.length ≤ 1099511627776) : m_laws_eqByteS l l = some (true, ()) := by
  unfold m_laws_eqByteS
  rw [show ((l.length : Int) != (l.length : Int)) = false by simp, cond_false]
  refine joinC_ex (loopC_some' _ (fun n t => ∃ i : Nat, t = ((l, l, (i : Int), ()), ()) ∧ i ≤ l.length ∧ n = l.length - i) (fun t => t = .inl ((), ())) ?_ _ l.length _ ⟨0, rfl, by omega, rfl⟩ (by omega)) ?_
  · rintro n t k ⟨i, rfl, hi, rfl⟩ hk
    dsimp only
    by_cases hlt : i < l.length
    · rw [decide_eq_true (by omega), cond_true, if_pos (by omega), if_pos (by omega)]
      rw [show (l.getD (Int.toNat (i : Int)) (Int.ofNat (nat_lit 0)) != l.getD (Int.toNat (i : Int)) (Int.ofNat (nat_lit 0))) = false by simp, cond_false, wr1 i (by omega)]
      exact hk (l.length - (i + 1)) _ (by omega) ⟨i + 1, rfl, by omega, rfl⟩
    · rw [decide_eq_false (by omega)]; exact ⟨_, rfl, rfl⟩
  · rintro t rfl; rfl
theorem law_PutEntries (l : List EntryT) (hl : l.length ≤ 9223372036854775807) (h : ∀ e ∈ l, EntryH e) : m_laws_FnExactPutEntries l = some (true, ()) := by
  unfold m_laws_FnExactPutEntries
  obtain ⟨m, e, hm⟩ := szEntryS_eq l hl h
  refine bind_eq e ?_
  dsimp only
  by_cases q : m < 0
  · rw [decide_eq_true q]; rfl
  rw [decide_eq_false q, cond_false]
  obtain ⟨g1, g2⟩ := hm (by omega)
  have hl' : l.length ≤ 1048576 := by omega
  have ht : ∀ e ∈ l, e.2.2.2.2.2.1.length ≤ 1099511627776 := fun e he => by have := (g2 e he).2; omega
  obtain ⟨v, l', hv, h0⟩ := markEntryS_some l hl'
  have hB : (cond (entriesOk l) (iOf (entI l l.length)) [] : List Int).length ≤ 100000 := by
    cases hok : entriesOk l with
    | false => exact Nat.zero_le _
    | true =>
      obtain ⟨h1, h2⟩ := entries_eok hok
      have := entI_len l h2 l.length (Nat.le_refl _)
      rw [cond_true, iOf_len]; omega
  have e1 := spec_entB l ht
  have e2 := impl_entB l
  generalize (cond (entriesOk l) (iOf (entI l l.length)) [] : List Int) = B at hB e1 e2
  have hk : m_laws_markByteS 1 B = some (((1 + B.length : Nat) : Int), mkB 1 B.length, ()) := markByteS_eq B 1 (by omega) (by omega)
  have hd : m_laws_heldByteS (mkB 1 B.length) 1 = some (((1 + B.length : Nat) : Int), ()) := heldByteS_eq 1 _ (by omega) (by omega)
  rw [toEntryS_own l hl']
  simp only [Option.bind_some]
  rw [e1]
  simp only [Option.bind_some]
  rw [e2]
  simp only [Option.bind_some]
  rw [eqByteS_self B (by omega)]
  simp only [Option.bind_some, Bool.not_true, cond_false]
  rw [eqEntryS_eq l hl']
  simp only [Option.bind_some, Bool.not_true, cond_false]
  rw [hv]
  simp only [Option.bind_some]
  rw [decide_eq_false (show ¬v < 0 by omega), cond_false]
  simp only [Option.bind_some, Bool.not_true, cond_false]
  rw [hk]
  simp only [Option.bind_some]
  rw [hd]
  simp only [Option.bind_some]
  rw [decide_eq_false (show ¬(((1 + B.length : Nat) : Int)) < 0 by omega), cond_false, show ((((1 + B.length : Nat) : Int)) != (((1 + B.length : Nat) : Int))) = false by simp, cond_false]
  simp only [toEntryS_own l hl', Option.bind_some, e2, eqByteS_self B (by omega), Bool.not_true, cond_false]
end Go.AM
