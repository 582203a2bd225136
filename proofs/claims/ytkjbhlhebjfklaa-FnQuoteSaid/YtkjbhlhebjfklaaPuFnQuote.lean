/- The plain law: the model of the law answers true. -/
import Derived.Test.YtkjbhlhebjfklaaMoFnQuote
set_option linter.unusedVariables false
set_option linter.unusedSimpArgs false
namespace Go.AM
open Go
theorem loopC_inv {S α : Type} (F : S → (S → Option α) → Option α) (I : Nat → S → Prop) (g : S → Option α)
    (h : ∀ n s k, I n s → (∀ m s', m < n → I m s' → k s' = g s') → F s k = g s) : ∀ fuel n s, I n s → n < fuel → loopC fuel F s = g s := by
  intro fuel
  induction fuel with
  | zero => intro n s _ h0; omega
  | succ f ih => intro n s hI hn; exact h n s _ hI (fun m s' hm hI' => ih m s' hI' (by omega))
theorem wr (x : Int) (h : -9223372036854775808 ≤ x ∧ x ≤ 9223372036854775807) : IntKind.wrap .i64 x = x := by
  simp [IntKind.wrap, IntKind.signed, IntKind.bits]; omega
/-- A loop ends in some result with Q. -/
theorem loopC_some' {S α : Type} (F : S → (S → Option α) → Option α) (I : Nat → S → Prop) (Q : α → Prop)
    (h : ∀ n s k, I n s → (∀ m s', m < n → I m s' → ∃ r, k s' = some r ∧ Q r) → ∃ r, F s k = some r ∧ Q r) : ∀ fuel n s, I n s → n < fuel → ∃ r, loopC fuel F s = some r ∧ Q r := by
  intro fuel
  induction fuel with
  | zero => intro n s _ h0; omega
  | succ f ih => intro n s hI hn; exact h n s _ hI (fun m s' hm hI' => ih m s' hI' (by omega))
theorem bind_some' {α β : Type} {o : Option α} {f : α → Option β} {Q : α → Prop} {R : β → Prop} (h : ∃ r, o = some r ∧ Q r) (h2 : ∀ r, Q r → ∃ t, f r = some t ∧ R t) : ∃ t, Option.bind o f = some t ∧ R t := by
  obtain ⟨r, rfl, hq⟩ := h
  exact h2 r hq
theorem bind_of {α β : Type} {o x : Option α} {f : α → Option β} {r : Option β} (h : o = x) (h2 : Option.bind x f = r) : Option.bind o f = r := by rw [h]; exact h2
theorem bind_ex {α β : Type} {o : Option α} {f : α → Option β} {Q : α → Prop} {r : Option β} (h : ∃ x, o = some x ∧ Q x) (h2 : ∀ x, Q x → f x = r) : Option.bind o f = r := by obtain ⟨x, rfl, hq⟩ := h; exact h2 x hq
theorem joinC_of {S α : Type} {o x : Option (S ⊕ α)} {k : S → Option α} {r : Option α} (h : o = x) (h2 : joinC x k = r) : joinC o k = r := by rw [h]; exact h2
theorem wr1 (i : Nat) (h : i ≤ 4611686018427387904) : IntKind.wrap .i64 ((i : Int) + 1) = ((i + 1 : Nat) : Int) := by rw [wr _ (by omega)]; rfl
def fillN : Nat → Nat → List Bool → List Bool
  | 0, _, s => s
  | n + 1, i, s => fillN n (i + 1) (s.set i true)
theorem fillN_length : ∀ n i s, (fillN n i s).length = s.length
  | 0, _, _ => rfl
  | n + 1, i, s => by rw [fillN, fillN_length n]; simp
def by8 (p : List UInt8) (i : Nat) : Nat := (p.getD i 0).toNat
theorem by8_lt (p i) : by8 p i < 256 := (p.getD i 0).toNat_lt
def cls (p : List UInt8) (i : Nat) (first : Bool) (s : List Bool) : Nat × List Bool :=
  if i < p.length ∧ (first = true ∨ by8 p i ≠ 93) then
    if i + 2 < p.length ∧ by8 p (i + 1) = 45 ∧ by8 p (i + 2) ≠ 93 then cls p (i + 3) false (fillN (by8 p (i + 2) + 1 - by8 p i) (by8 p i) s)
    else cls p (i + 1) false (s.set (by8 p i) true)
  else (i, s)
termination_by p.length - i
theorem hasPrefix_eq (a b : List UInt8) : m_strings_HasPrefix a b = some (decide (b.length ≤ a.length) && (a.take b.length == b), ()) := by
  unfold m_strings_HasPrefix m_stringslite_HasPrefix
  by_cases h : b.length ≤ a.length
  · have h1 : (a.length : Int) ≥ (b.length : Int) := by omega
    have h2 : (0 : Int) ≤ 0 ∧ (0 : Int) ≤ (b.length : Int) ∧ (b.length : Int) ≤ (a.length : Int) := by omega
    rw [decide_eq_true h1, if_pos h2]
    simp only [h, cond_true, Option.bind_some, Int.toNat_natCast, Int.toNat_zero, List.drop_zero, decide_true, Bool.true_and]
  · have h1 : ¬ (a.length : Int) ≥ (b.length : Int) := by omega
    rw [decide_eq_false h1]
    simp only [h, cond_false, Option.bind_some, decide_false, Bool.false_and]
def clsNot (p : List UInt8) : Bool := decide (1 ≤ p.length) && (by8 p 0 == 33)
def clsR (p : List UInt8) : Nat × List Bool := cls p (if clsNot p = true then 1 else 0) true (List.replicate 256 false)
theorem take1 (p : List UInt8) (x : UInt8) (n : Nat) (hx : x.toNat = n) : (decide ([x].length ≤ p.length) && (p.take [x].length == [x])) = (decide (1 ≤ p.length) && (by8 p 0 == n)) := by
  subst hx
  cases p with
  | nil => rfl
  | cons a l =>
    simp only [List.length_cons, List.length_nil, List.take_succ_cons, List.take_zero, by8, List.getD_cons_zero]
    by_cases h : a = x
    · subst h; simp
    · have : a.toNat ≠ x.toNat := fun e => h (UInt8.toNat_inj.mp e)
      rw [beq_eq_false_iff_ne.mpr this, show (([a] : List UInt8) == [x]) = false from beq_eq_false_iff_ne.mpr (fun e => h (List.cons.inj e).1)]
theorem cls_len (p : List UInt8) : ∀ n i first s, p.length - i ≤ n → (cls p i first s).2.length = s.length := by
  intro n
  induction n with
  | zero => intro i f s h; rw [cls, if_neg (by omega)]
  | succ n ih =>
    intro i f s h
    rw [cls]
    split
    · split
      · rw [ih _ _ _ (by omega), fillN_length]
      · rw [ih _ _ _ (by omega)]; simp
    · rfl
theorem cls_stop {p i first s} (h : ¬(i < p.length ∧ (first = true ∨ by8 p i ≠ 93))) : cls p i first s = (i, s) := by rw [cls, if_neg h]
theorem cls_range {p i first s} (h : i < p.length ∧ (first = true ∨ by8 p i ≠ 93)) (h2 : i + 2 < p.length ∧ by8 p (i + 1) = 45 ∧ by8 p (i + 2) ≠ 93) :
    cls p i first s = cls p (i + 3) false (fillN (by8 p (i + 2) + 1 - by8 p i) (by8 p i) s) := by rw [cls, if_pos h, if_pos h2]
theorem cls_one {p i first s} (h : i < p.length ∧ (first = true ∨ by8 p i ≠ 93)) (h2 : ¬(i + 2 < p.length ∧ by8 p (i + 1) = 45 ∧ by8 p (i + 2) ≠ 93)) :
    cls p i first s = cls p (i + 1) false (s.set (by8 p i) true) := by rw [cls, if_pos h, if_neg h2]
theorem impl_class_eq (p : List UInt8) (hp : p.length ≤ 60) : m_impl_class p = some (if (clsR p).1 ≥ p.length then (none, 0, ()) else (some (4, clsNot p, (clsR p).2), (((clsR p).1 + 1 : Nat) : Int), ()), ()) := by
  unfold m_impl_class
  rw [hasPrefix_eq, take1 p 33 33 rfl]
  show Option.bind (some (clsNot p, ())) _ = _
  rw [Option.bind_some]
  have key : ∀ (nt : Bool) (i : Nat) (hi : i ≤ p.length + 1) (st : (List UInt8 × Unit × Int × Unit) × (Int × Bool × List Bool) × Unit), st = ((p, (), (i : Int), ()), (4, nt, List.replicate 256 false), ()) → ∀ R, R = cls p i true (List.replicate 256 false) → True := fun _ _ _ _ _ _ _ => trivial
  rw [show (bif clsNot p then some ((p, (), IntKind.wrap IntKind.i64 ((0 : Int) + (1 : Int)), ()), ((4 : Int), true, List.replicate (256 : Nat) false), ()) else some ((p, (), (0 : Int), ()), ((4 : Int), false, List.replicate (256 : Nat) false), ()) : Option ((List UInt8 × Unit × Int × Unit) × (Int × Bool × List Bool) × Unit)) = some ((p, (), (((if clsNot p = true then 1 else 0) : Nat) : Int), ()), (4, clsNot p, List.replicate 256 false), ()) from by cases clsNot p <;> rfl]
  rw [Option.bind_some]
  have hcl : ∀ (r : Nat × List Bool), clsR p = r → True := fun _ _ => trivial
  generalize hi0 : (if clsNot p = true then 1 else 0 : Nat) = i0
  have hR : clsR p = cls p i0 true (List.replicate 256 false) := by rw [← hi0]; rfl
  rw [hR]
  have hi0' : i0 ≤ 1 := by rw [← hi0]; split <;> omega
  refine (loopC_inv _
    (fun n s => ∃ i first set, s = ((p, (), ((i : Nat) : Int), first, ()), (4, clsNot p, set), ()) ∧ set.length = 256 ∧ i ≤ 64 ∧ n = p.length - i)
    (fun s => some (if (cls p s.1.2.2.1.toNat s.1.2.2.2.1 s.2.1.2.2).1 ≥ p.length then (none, 0, ()) else (some (4, clsNot p, (cls p s.1.2.2.1.toNat s.1.2.2.2.1 s.2.1.2.2).2), (((cls p s.1.2.2.1.toNat s.1.2.2.2.1 s.2.1.2.2).1 + 1 : Nat) : Int), ()), ())) ?_ _ (p.length - i0) _ ?_ ?_).trans ?_
  · rintro n s k ⟨i, first, set, rfl, hs, hi, rfl⟩ hk
    dsimp only
    rw [Int.toNat_natCast]
    have w1 : IntKind.wrap IntKind.i64 ((i : Int) + 1) = ((i + 1 : Nat) : Int) := by rw [wr _ (by omega)]; omega
    have w2 : IntKind.wrap IntKind.i64 (((i + 1 : Nat) : Int) + 1) = ((i + 2 : Nat) : Int) := by rw [wr _ (by omega)]; omega
    have w3 : IntKind.wrap IntKind.i64 (((i + 1 : Nat) : Int) + 2) = ((i + 3 : Nat) : Int) := by rw [wr _ (by omega)]; omega
    have wb : ∀ j : Nat, IntKind.wrap IntKind.i64 (((UInt8.toNat (p.getD j 0)) : Nat) : Int) = (by8 p j : Int) := by
      intro j; have := by8_lt p j; unfold by8 at *; rw [wr _ (by omega)]
    have wb' : ∀ j : Nat, (((UInt8.toNat (p.getD j 0)) : Nat) : Int) = (by8 p j : Int) := fun j => rfl
    have wv : ∀ j : Nat, IntKind.wrap IntKind.i64 (by8 p j : Int) = (by8 p j : Int) := wb
    have ne93 : ∀ j : Nat, (((by8 p j : Nat) : Int) != 93) = decide (by8 p j ≠ 93) := by
      intro j; by_cases h : by8 p j = 93
      · rw [h]; rfl
      · rw [decide_eq_true h, bne_iff_ne]; omega
    have eq45 : ∀ j : Nat, (((by8 p j : Nat) : Int) == 45) = decide (by8 p j = 45) := by
      intro j; by_cases h : by8 p j = 45
      · rw [h]; rfl
      · rw [decide_eq_false h, beq_eq_false_iff_ne]; omega
    simp only [w1, w2, Int.toNat_natCast, wb, wb', wv, ne93, eq45]
    by_cases hc : i < p.length ∧ (first = true ∨ by8 p i ≠ 93)
    · obtain ⟨hl, hf⟩ := hc
      have hg : (0 : Int) ≤ (i : Int) ∧ (i : Int) < (p.length : Int) := by omega
      have hd : decide ((i : Int) < (p.length : Int)) = true := decide_eq_true hg.2
      have step1 : (bif first then some ((p, (), (i : Int), true, ()), ((4 : Int), clsNot p, set), ()) else some ((p, (), (i : Int), decide (by8 p i ≠ 93), ()), ((4 : Int), clsNot p, set), ()) : Option ((List UInt8 × Unit × Int × Bool × Unit) × (Int × Bool × List Bool) × Unit)) = some ((p, (), (i : Int), true, ()), (4, clsNot p, set), ()) := by
        rcases hf with rfl | h
        · rfl
        · rw [decide_eq_true h]; cases first <;> rfl
      rw [hd]
      simp only [cond_true, if_pos hg, step1, Option.bind_some, w1, w2, Int.toNat_natCast, wb, wb', wv, ne93, eq45]
      by_cases hr : i + 2 < p.length ∧ by8 p (i + 1) = 45 ∧ by8 p (i + 2) ≠ 93
      · rw [cls_range ⟨hl, hf⟩ hr]
        have d1 : decide (((i + 2 : Nat) : Int) < (p.length : Int)) = true := decide_eq_true (by omega)
        have g1 : (0 : Int) ≤ ((i + 1 : Nat) : Int) ∧ ((i + 1 : Nat) : Int) < (p.length : Int) := by omega
        have g2 : (0 : Int) ≤ ((i + 2 : Nat) : Int) ∧ ((i + 2 : Nat) : Int) < (p.length : Int) := by omega
        rw [d1]
        simp only [cond_true, if_pos g1, if_pos g2, decide_eq_true hr.2.1, decide_eq_true hr.2.2, Option.bind_some, w2, w3, Int.toNat_natCast, wb]
        refine (loopC_inv _
          (fun n s => ∃ (lo : Nat) (set' : List Bool), s = ((p, (), ((i + 3 : Nat) : Int), (by8 p (i + 2) : Int), (lo : Int), ()), (4, clsNot p, set'), ()) ∧ set'.length = 256 ∧ lo ≤ 257 ∧ n = by8 p (i + 2) + 1 - lo)
          (fun s => k ((p, (), ((i + 3 : Nat) : Int), false, ()), (4, clsNot p, fillN (by8 p (i + 2) + 1 - s.1.2.2.2.2.1.toNat) s.1.2.2.2.2.1.toNat s.2.1.2.2), ())) ?_ _ (by8 p (i + 2) + 1 - by8 p i) _ ?_ ?_).trans ?_
        · rintro n s k1 ⟨lo, set', rfl, hs', hlo, rfl⟩ hk1
          dsimp only
          have wlo : IntKind.wrap IntKind.i64 ((lo : Int) + 1) = ((lo + 1 : Nat) : Int) := by rw [wr _ (by omega)]; omega
          by_cases hle : lo ≤ by8 p (i + 2)
          · have hlt : by8 p (i + 2) < 256 := by8_lt _ _
            have c1 : (0 : Int) ≤ (lo : Int) ∧ (lo : Int) < ((256 : Nat) : Int) ∧ (lo : Int) < (set'.length : Int) := by omega
            have c2 : lo < set'.length := by omega
            rw [decide_eq_true (show ((lo : Int) ≤ (by8 p (i + 2) : Int)) by omega), cond_true, if_pos c1]
            simp only [Int.toNat_natCast, if_pos c2, wlo]
            rw [hk1 (by8 p (i + 2) + 1 - (lo + 1)) _ (by omega) ⟨lo + 1, _, rfl, by rw [List.length_set]; exact hs', by omega, rfl⟩]
            simp only [Int.toNat_natCast]
            rw [show by8 p (i + 2) + 1 - lo = (by8 p (i + 2) + 1 - (lo + 1)) + 1 by omega, fillN]
          · rw [decide_eq_false (show ¬((lo : Int) ≤ (by8 p (i + 2) : Int)) by omega), cond_false]
            simp only [Int.toNat_natCast]
            rw [show by8 p (i + 2) + 1 - lo = 0 by omega, fillN]
        · exact ⟨by8 p i, set, rfl, hs, by have := by8_lt p i; omega, rfl⟩
        · have := by8_lt p i; have := by8_lt p (i + 2); try simp only [Int.toNat_natCast]
          omega
        · simp only [Int.toNat_natCast]
          rw [hk (p.length - (i + 3)) _ (by omega) ⟨i + 3, false, _, rfl, by rw [fillN_length]; exact hs, by omega, rfl⟩]
          simp only [Int.toNat_natCast]
      · rw [cls_one ⟨hl, hf⟩ hr]
        rw [show (bif decide (((i + 2 : Nat) : Int) < (p.length : Int)) then
            if (0 : Int) ≤ ((i + 1 : Nat) : Int) ∧ ((i + 1 : Nat) : Int) < (p.length : Int) then
              bif decide (by8 p (i + 1) = 45) then
                if (0 : Int) ≤ ((i + 2 : Nat) : Int) ∧ ((i + 2 : Nat) : Int) < (p.length : Int) then
                  some ((p, (), ((i + 1 : Nat) : Int), (by8 p i : Int), (by8 p i : Int), decide (by8 p (i + 2) ≠ 93), ()), ((4 : Int), clsNot p, set), ())
                else none
              else some ((p, (), ((i + 1 : Nat) : Int), (by8 p i : Int), (by8 p i : Int), false, ()), ((4 : Int), clsNot p, set), ())
            else none
          else some ((p, (), ((i + 1 : Nat) : Int), (by8 p i : Int), (by8 p i : Int), false, ()), ((4 : Int), clsNot p, set), ()) : Option ((List UInt8 × Unit × Int × Int × Int × Bool × Unit) × (Int × Bool × List Bool) × Unit)) = some ((p, (), ((i + 1 : Nat) : Int), (by8 p i : Int), (by8 p i : Int), false, ()), ((4 : Int), clsNot p, set), ()) from by
          by_cases a1 : i + 2 < p.length
          · have d1 : decide (((i + 2 : Nat) : Int) < (p.length : Int)) = true := decide_eq_true (by omega)
            have g1 : (0 : Int) ≤ ((i + 1 : Nat) : Int) ∧ ((i + 1 : Nat) : Int) < (p.length : Int) := by omega
            have g2 : (0 : Int) ≤ ((i + 2 : Nat) : Int) ∧ ((i + 2 : Nat) : Int) < (p.length : Int) := by omega
            rw [d1]; simp only [cond_true, if_pos g1, if_pos g2]
            by_cases a2 : by8 p (i + 1) = 45
            · have a3 : ¬ by8 p (i + 2) ≠ 93 := fun h => hr ⟨a1, a2, h⟩
              rw [decide_eq_true a2, decide_eq_false a3]; rfl
            · rw [decide_eq_false a2]; rfl
          · have d1 : decide (((i + 2 : Nat) : Int) < (p.length : Int)) = false := decide_eq_false (by omega)
            rw [d1]; rfl]
        simp only [Option.bind_some, cond_false]
        refine (loopC_inv _
          (fun n s => ∃ (lo : Nat) (set' : List Bool), s = ((p, (), ((i + 1 : Nat) : Int), (by8 p (i) : Int), (lo : Int), ()), (4, clsNot p, set'), ()) ∧ set'.length = 256 ∧ lo ≤ 257 ∧ n = by8 p (i) + 1 - lo)
          (fun s => k ((p, (), ((i + 1 : Nat) : Int), false, ()), (4, clsNot p, fillN (by8 p (i) + 1 - s.1.2.2.2.2.1.toNat) s.1.2.2.2.2.1.toNat s.2.1.2.2), ())) ?_ _ (by8 p (i) + 1 - by8 p i) _ ?_ ?_).trans ?_
        · rintro n s k1 ⟨lo, set', rfl, hs', hlo, rfl⟩ hk1
          dsimp only
          have wlo : IntKind.wrap IntKind.i64 ((lo : Int) + 1) = ((lo + 1 : Nat) : Int) := by rw [wr _ (by omega)]; omega
          by_cases hle : lo ≤ by8 p (i)
          · have hlt : by8 p (i) < 256 := by8_lt _ _
            have c1 : (0 : Int) ≤ (lo : Int) ∧ (lo : Int) < ((256 : Nat) : Int) ∧ (lo : Int) < (set'.length : Int) := by omega
            have c2 : lo < set'.length := by omega
            rw [decide_eq_true (show ((lo : Int) ≤ (by8 p (i) : Int)) by omega), cond_true, if_pos c1]
            simp only [Int.toNat_natCast, if_pos c2, wlo]
            rw [hk1 (by8 p (i) + 1 - (lo + 1)) _ (by omega) ⟨lo + 1, _, rfl, by rw [List.length_set]; exact hs', by omega, rfl⟩]
            simp only [Int.toNat_natCast]
            rw [show by8 p (i) + 1 - lo = (by8 p (i) + 1 - (lo + 1)) + 1 by omega, fillN]
          · rw [decide_eq_false (show ¬((lo : Int) ≤ (by8 p (i) : Int)) by omega), cond_false]
            simp only [Int.toNat_natCast]
            rw [show by8 p (i) + 1 - lo = 0 by omega, fillN]
        · exact ⟨by8 p i, set, rfl, hs, by have := by8_lt p i; omega, rfl⟩
        · have := by8_lt p i; have := by8_lt p (i); try simp only [Int.toNat_natCast]
          omega
        · simp only [Int.toNat_natCast]
          rw [show by8 p i + 1 - by8 p i = 0 + 1 by omega, fillN, fillN]
          rw [hk (p.length - (i + 1)) _ (by omega) ⟨i + 1, false, _, rfl, by rw [List.length_set]; exact hs, by omega, rfl⟩]
          simp only [Int.toNat_natCast]
    · rw [cls_stop hc]
      have step1 : (bif decide ((i : Int) < (p.length : Int)) then bif first then some ((p, (), (i : Int), true, ()), ((4 : Int), clsNot p, set), ()) else if (0 : Int) ≤ (i : Int) ∧ (i : Int) < (p.length : Int) then some ((p, (), (i : Int), decide (by8 p i ≠ 93), ()), ((4 : Int), clsNot p, set), ()) else none else some ((p, (), (i : Int), false, ()), ((4 : Int), clsNot p, set), ()) : Option ((List UInt8 × Unit × Int × Bool × Unit) × (Int × Bool × List Bool) × Unit)) = some ((p, (), (i : Int), false, ()), (4, clsNot p, set), ()) := by
        by_cases hl : i < p.length
        · rw [decide_eq_true (show ((i : Int) < (p.length : Int)) by omega), cond_true, if_pos (show (0 : Int) ≤ (i : Int) ∧ (i : Int) < (p.length : Int) by omega)]
          have hf : first = false := by cases first; rfl; exact absurd ⟨hl, Or.inl rfl⟩ hc
          have h9 : ¬ by8 p i ≠ 93 := fun h => hc ⟨hl, Or.inr h⟩
          rw [hf, decide_eq_false h9]; rfl
        · rw [decide_eq_false (show ¬((i : Int) < (p.length : Int)) by omega)]; rfl
      rw [step1]
      simp only [Option.bind_some, cond_false]
      by_cases hl : i ≥ p.length
      · rw [decide_eq_true (show (i : Int) ≥ (p.length : Int) by omega), if_pos hl]; rfl
      · rw [decide_eq_false (show ¬((i : Int) ≥ (p.length : Int)) by omega), if_neg hl, cond_false, w1]
  · exact ⟨i0, true, _, rfl, List.length_replicate .., by omega, rfl⟩
  · simp only []; omega
  · simp only [Int.toNat_natCast]
inductive Pc where
  | byte (b : Nat) | any (b : Nat) | star (b : Nat) | stars (b : Nat) | cl (nt : Bool) (s : List Bool)
def Pc.S : Pc → Int × Int × Bool × List Bool
  | .byte b => (0, b, false, [])
  | .any b => (1, b, false, [])
  | .star b => (3, b, false, [])
  | .stars b => (4, b, false, [])
  | .cl nt s => (2, 0, nt, s)
def Pc.I : Pc → Int × Bool × List Bool
  | .byte b => (0, false, (List.replicate 256 false).set b true)
  | .any _ => (1, false, List.replicate 256 false)
  | .star _ => (2, false, List.replicate 256 false)
  | .stars _ => (3, false, List.replicate 256 false)
  | .cl nt s => (4, nt, s)
def pc1 (p : List UInt8) : Option (Pc × Nat) :=
  if (decide (2 ≤ p.length) && (p.take 2 == [42, 42])) = true then some (.stars (by8 p 0), 2)
  else if by8 p 0 = 42 then some (.star (by8 p 0), 1)
  else if by8 p 0 = 63 then some (.any (by8 p 0), 1)
  else if by8 p 0 = 91 then (if (clsR (p.drop 1)).1 ≥ (p.drop 1).length then none else some (.cl (clsNot (p.drop 1)) (clsR (p.drop 1)).2, 1 + ((clsR (p.drop 1)).1 + 1)))
  else if by8 p 0 = 92 then (if p.length < 2 then none else some (.byte (by8 p 1), 2))
  else some (.byte (by8 p 0), 1)
def pcs : Nat → List UInt8 → Option (List Pc)
  | 0, _ => some []
  | n + 1, p => if p.length = 0 then some [] else
    match pc1 p with
    | none => none
    | some (c, m) => (pcs n (p.drop m)).map (c :: ·)
theorem pc1_pos {p c m} (h : pc1 p = some (c, m)) (hp : 0 < p.length) : 1 ≤ m ∧ m ≤ p.length := by
  unfold pc1 at h
  split at h
  · next h1 =>
    simp only [Bool.and_eq_true, decide_eq_true_eq] at h1
    cases h; omega
  split at h
  · cases h; omega
  split at h
  · cases h; omega
  split at h
  · split at h
    · cases h
    · next h2 => cases h; rw [List.length_drop] at h2; omega
  split at h
  · split at h
    · cases h
    · cases h; omega
  · cases h; omega
theorem pcs_more : ∀ n p m, p.length ≤ n → n ≤ m → pcs m p = pcs n p := by
  intro n
  induction n with
  | zero => intro p m h _; cases m with
    | zero => rfl
    | succ m => rw [show pcs 0 p = some [] from rfl, pcs, if_pos (by omega)]
  | succ n ih =>
    intro p m h hm
    obtain ⟨m, rfl⟩ : ∃ m', m = m' + 1 := ⟨m - 1, by omega⟩
    rw [pcs, pcs]
    split
    · rfl
    · next h0 =>
      cases hc : pc1 p with
      | none => rfl
      | some x =>
        obtain ⟨c, k⟩ := x
        have := pc1_pos hc (by omega)
        simp only
        rw [ih (p.drop k) m (by rw [List.length_drop]; omega) (by omega)]
def pieces (p : List UInt8) : Option (List Pc) := pcs p.length p
theorem pieces_nil : pieces [] = some [] := rfl
theorem pieces_none {p} (hp : p.length ≠ 0) (h : pc1 p = none) : pieces p = none := by
  unfold pieces
  obtain ⟨n, hn⟩ : ∃ n, p.length = n + 1 := ⟨p.length - 1, by omega⟩
  rw [hn, pcs, if_neg hp, h]
theorem pieces_some {p c m} (hp : p.length ≠ 0) (h : pc1 p = some (c, m)) : pieces p = (pieces (p.drop m)).map (c :: ·) := by
  have := pc1_pos h (by omega)
  unfold pieces
  obtain ⟨n, hn⟩ : ∃ n, p.length = n + 1 := ⟨p.length - 1, by omega⟩
  rw [hn, pcs, if_neg hp, h]
  simp only
  rw [pcs_more (p.drop m).length (p.drop m) n (by omega) (by rw [List.length_drop]; omega)]
theorem joinC_inl {S α : Type} (s : S) (k : S → Option α) : joinC (some (.inl s)) k = k s := rfl
theorem within_eq (a b c : Int) : m_impl_within a b c = some (decide (a ≥ b ∧ a ≤ c), ()) := by
  unfold m_impl_within
  by_cases h : a ≥ b <;> by_cases h2 : a ≤ c <;> simp [h, h2]
theorem one_eq (p : List UInt8) (j : Nat) : m_impl_one (((p.getD j 0).toNat : Nat) : Int) = some ((Pc.byte (by8 p j)).I, ()) := by
  unfold m_impl_one
  have h := by8_lt p j
  have h1 : (0 : Int) ≤ (((p.getD j 0).toNat : Nat) : Int) ∧ (((p.getD j 0).toNat : Nat) : Int) < ((256 : Nat) : Int) ∧ (((p.getD j 0).toNat : Nat) : Int) < (((List.replicate 256 false).length : Nat) : Int) := by
    unfold by8 at h; rw [List.length_replicate]; omega
  rw [if_pos h1, Int.toNat_natCast, if_pos (by rw [List.length_replicate]; exact h)]
  rfl
theorem eqI (p : List UInt8) (j n : Nat) : ((((p.getD j 0).toNat : Nat) : Int) == (n : Int)) = decide (by8 p j = n) := by
  by_cases h : by8 p j = n
  · rw [decide_eq_true h, beq_iff_eq]; unfold by8 at h; omega
  · rw [decide_eq_false h, beq_eq_false_iff_ne]; unfold by8 at h; omega
theorem impl_pieces_eq (p : List UInt8) : m_impl_pieces p = some (if 1 ≤ p.length ∧ p.length ≤ 60 then (match pieces p with | none => ([], false, ()) | some l => (l.map Pc.I, true, ())) else ([], false, ()), ()) := by
  unfold m_impl_pieces
  rw [within_eq, Option.bind_some]
  by_cases hp : 1 ≤ p.length ∧ p.length ≤ 60
  · rw [decide_eq_true (show (p.length : Int) ≥ 1 ∧ (p.length : Int) ≤ 60 by omega), if_pos hp]
    simp only [Bool.not_true, cond_false]
    refine (loopC_inv _
      (fun n s => ∃ (q : List UInt8) (out : List (Int × Bool × List Bool)), s = ((q, (), ()), out, ()) ∧ q.length ≤ 60 ∧ out.length + q.length ≤ 60 ∧ n = q.length)
      (fun s => some (match pieces s.1.1 with | none => ([], false, ()) | some l => (s.2.1 ++ l.map Pc.I, true, ()), ())) ?_ _ p.length _ ?_ ?_).trans ?_
    · rintro n s k ⟨q, out, rfl, hq, ho, rfl⟩ hk
      dsimp only
      by_cases h0 : q.length = 0
      · have : q = [] := List.eq_nil_of_length_eq_zero h0
        subst this
        rw [pieces_nil]
        exact congrArg (fun l => some ((l, true, ()), ())) (List.append_nil out).symm
      · have hne : (!q == nilOf UInt8) = true := by cases q with
          | nil => exact absurd rfl h0
          | cons => rfl
        rw [hne, cond_true, hasPrefix_eq, Option.bind_some]
        have g0 : (0 : Int) ≤ 0 ∧ (0 : Int) < (q.length : Int) := by omega
        have hk' : ∀ (m : Nat) (c : Pc), pc1 q = some (c, m) → k ((List.drop m (List.take q.length q), (), ()), out ++ [c.I], ()) = some (match pieces q with | none => ([], false, ()) | some l => (out ++ l.map Pc.I, true, ()), ()) := by
          intro m c hc
          have := pc1_pos hc (by omega)
          rw [hk (q.drop m).length _ (by rw [List.length_drop]; omega) ⟨q.drop m, out ++ [c.I], by rw [List.take_length], by rw [List.length_drop]; omega, by rw [List.length_append, List.length_drop]; show out.length + 1 + _ ≤ _; omega, rfl⟩]
          rw [pieces_some h0 hc, List.take_length]
          cases pieces (q.drop m) with
          | none => rfl
          | some l => simp
        have gk : ∀ m c, pc1 q = some (c, m) → ((0 : Int) ≤ (m : Int) ∧ (m : Int) ≤ (q.length : Int) ∧ (q.length : Int) ≤ (q.length : Int)) := by
          intro m c hc; have := pc1_pos hc (by omega); omega
        have gl : ∀ x : Int × Bool × List Bool, (out.length + List.length [x]) * 8 ≤ 140737488355328 := by
          intro x; show (out.length + 1) * 8 ≤ _; omega
        have fin : ∀ (mi : Int) (m : Nat) (c : Pc) (x : Int × Bool × List Bool), mi = (m : Int) → x = c.I → pc1 q = some (c, m) →
            (if (0 : Int) ≤ mi ∧ mi ≤ (q.length : Int) ∧ (q.length : Int) ≤ (q.length : Int) then k ((List.drop (Int.toNat mi) (List.take (Int.toNat (q.length : Int)) q), (), ()), out ++ [x], ()) else none) = some (match pieces q with | none => ([], false, ()) | some l => (out ++ l.map Pc.I, true, ()), ()) := by
          intro mi m c x e1 e2 hc
          subst e1 e2
          rw [if_pos (gk _ _ hc), Int.toNat_natCast, Int.toNat_natCast]
          exact hk' m c hc
        have e42 : ((((q.getD 0 0).toNat : Nat) : Int) == (42 : Int)) = decide (by8 q 0 = 42) := eqI q 0 42
        have e63 : ((((q.getD 0 0).toNat : Nat) : Int) == (63 : Int)) = decide (by8 q 0 = 63) := eqI q 0 63
        have e91 : ((((q.getD 0 0).toNat : Nat) : Int) == (91 : Int)) = decide (by8 q 0 = 91) := eqI q 0 91
        have e92 : ((((q.getD 0 0).toNat : Nat) : Int) == (92 : Int)) = decide (by8 q 0 = 92) := eqI q 0 92
        have tz : Int.toNat (0 : Int) = 0 := rfl
        have t1 : Int.toNat (1 : Int) = 1 := rfl
        by_cases c1 : (decide (2 ≤ q.length) && (q.take 2 == [42, 42])) = true
        · have hc : pc1 q = some (.stars (by8 q 0), 2) := by unfold pc1; rw [if_pos c1]
          rw [show (decide ([(42 : UInt8), 42].length ≤ q.length) && (q.take [(42 : UInt8), 42].length == [42, 42])) = true from c1]
          simp only [cond_true, if_pos (gl _), joinC_inl]
          exact fin _ _ _ _ rfl rfl hc
        · rw [show (decide ([(42 : UInt8), 42].length ≤ q.length) && (q.take [(42 : UInt8), 42].length == [42, 42])) = false from eq_false_of_ne_true c1]
          simp only [cond_false, if_pos g0, tz, t1, e42, e63, e91, e92]
          by_cases c2 : by8 q 0 = 42
          · have hc : pc1 q = some (.star (by8 q 0), 1) := by unfold pc1; rw [if_neg c1, if_pos c2]
            simp only [decide_eq_true c2, cond_true, if_pos (gl _), joinC_inl]
            exact fin _ _ _ _ rfl rfl hc
          by_cases c3 : by8 q 0 = 63
          · have hc : pc1 q = some (.any (by8 q 0), 1) := by unfold pc1; rw [if_neg c1, if_neg c2, if_pos c3]
            simp only [decide_eq_false c2, cond_false, decide_eq_true c3, cond_true, if_pos (gl _), joinC_inl]
            exact fin _ _ _ _ rfl rfl hc
          by_cases c4 : by8 q 0 = 91
          · have g1 : (0 : Int) ≤ 1 ∧ (1 : Int) ≤ (q.length : Int) ∧ (q.length : Int) ≤ (q.length : Int) := by omega
            simp only [decide_eq_false c2, decide_eq_false c3, cond_false, decide_eq_true c4, cond_true, if_pos g1, Int.toNat_natCast, List.take_length]
            have hl : (q.drop 1).length ≤ 60 := by rw [List.length_drop]; omega
            rw [impl_class_eq _ hl, Option.bind_some]
            by_cases c5 : (clsR (q.drop 1)).1 ≥ (q.drop 1).length
            · have hc : pc1 q = none := by unfold pc1; rw [if_neg c1, if_neg c2, if_neg c3, if_pos c4, if_pos c5]
              rw [if_pos c5, pieces_none h0 hc]
              rfl
            · have hc : pc1 q = some (.cl (clsNot (q.drop 1)) (clsR (q.drop 1)).2, 1 + ((clsR (q.drop 1)).1 + 1)) := by unfold pc1; rw [if_neg c1, if_neg c2, if_neg c3, if_pos c4, if_neg c5]
              have := pc1_pos hc (by omega)
              rw [if_neg c5]
              simp only
              rw [show (((((clsR (q.drop 1)).1 + 1 : Nat) : Int)) == (0 : Int)) = false from by rw [beq_eq_false_iff_ne]; omega]
              simp only [cond_false, Option.bind_some, if_pos (gl _), joinC_inl]
              have := fin (IntKind.wrap IntKind.i64 ((1 : Int) + (((clsR (q.drop 1)).1 + 1 : Nat) : Int))) _ _ _ (by rw [wr _ (by omega)]; omega) rfl hc
              simp only [Int.toNat_natCast, List.take_length] at this
              exact this
          by_cases c5 : by8 q 0 = 92
          · simp only [decide_eq_false c2, decide_eq_false c3, decide_eq_false c4, cond_false, decide_eq_true c5, cond_true]
            by_cases c6 : q.length < 2
            · have hc : pc1 q = none := by unfold pc1; rw [if_neg c1, if_neg c2, if_neg c3, if_neg c4, if_pos c5, if_pos c6]
              rw [pieces_none h0 hc, decide_eq_true (show (q.length : Int) < 2 by omega)]
              rfl
            · have hc : pc1 q = some (.byte (by8 q 1), 2) := by unfold pc1; rw [if_neg c1, if_neg c2, if_neg c3, if_neg c4, if_pos c5, if_neg c6]
              rw [decide_eq_false (show ¬(q.length : Int) < 2 by omega)]
              simp only [cond_false]
              rw [if_pos (show (0 : Int) ≤ 1 ∧ (1 : Int) < (q.length : Int) by omega), one_eq, Option.bind_some]
              simp only [if_pos (gl _), joinC_inl]
              exact fin _ _ _ _ rfl rfl hc
          · have hc : pc1 q = some (.byte (by8 q 0), 1) := by unfold pc1; rw [if_neg c1, if_neg c2, if_neg c3, if_neg c4, if_neg c5]
            simp only [decide_eq_false c2, decide_eq_false c3, decide_eq_false c4, decide_eq_false c5, cond_false, one_eq, Option.bind_some, if_pos (gl _), joinC_inl]
            exact fin _ _ _ _ rfl rfl hc
    · exact ⟨p, [], rfl, by omega, by show 0 + _ ≤ _; omega, rfl⟩
    · show p.length < p.length + 0 + 300; omega
    · cases pieces p <;> simp [nilOf]
  · rw [decide_eq_false (by omega), if_neg hp]; rfl
theorem impl_ok_eq (p : List UInt8) : m_impl_PatternOk p = some (decide (1 ≤ p.length ∧ p.length ≤ 60) && (pieces p).isSome, ()) := by
  unfold m_impl_PatternOk
  rw [impl_pieces_eq, Option.bind_some]
  by_cases h : 1 ≤ p.length ∧ p.length ≤ 60
  · rw [if_pos h, decide_eq_true h]; cases pieces p <;> rfl
  · rw [if_neg h, decide_eq_false h]; rfl
def wildB (b : UInt8) : Bool := (b.toNat == 42 || b.toNat == 63) || (b.toNat == 91 || b.toNat == 92)
def okP (p : List UInt8) : Bool := decide (1 ≤ p.length ∧ p.length ≤ 60) && (pieces p).isSome
theorem eqIN (b n : Nat) : (((b : Nat) : Int) == (n : Int)) = (b == n) := by
  rw [Bool.eq_iff_iff]; simp only [beq_iff_eq]; omega
theorem byte_of (b : UInt8) : ∃ k : Fin 256, UInt8.ofNat k.val = b := ⟨⟨b.toNat, b.toNat_lt⟩, by simp⟩
theorem any_wild : ∀ p : List UInt8, Go.Lib.containsAny p [42, 63, 91, 92] = p.any wildB
  | [] => rfl
  | b :: l => by
    have ih := any_wild l
    unfold Go.Lib.containsAny at ih ⊢
    rw [Go.Lib.indexAny, List.any_cons]
    have hb : [(42 : UInt8), 63, 91, 92].contains b = wildB b := by
      obtain ⟨n, hn⟩ := byte_of b
      subst hn
      have : ∀ k : Fin 256, [42, 63, 91, 92].contains (UInt8.ofNat k.val) = wildB (UInt8.ofNat k.val) := by decide +kernel
      exact this n
    rw [hb, ← ih]
    have := Go.Lib.indexAny_ge [42, 63, 91, 92] l
    cases wildB b with
    | true => rfl
    | false =>
      simp only [Bool.false_or]
      by_cases h : Go.Lib.indexAny l [42, 63, 91, 92] = -1
      · rw [h]; rfl
      · rw [if_neg (by simp), if_neg (by simpa using h)]
        exact decide_eq_decide.2 (by omega)
theorem impl_plain_eq (p : List UInt8) (hp : p.length ≤ 1048576) : m_impl_Plain p = some (okP p && p.all (fun b => !wildB b), ()) := by
  unfold m_impl_Plain
  rw [impl_ok_eq, Option.bind_some]
  show Option.bind (bif okP p then _ else _) _ = _
  cases okP p with
  | false => rfl
  | true =>
    simp only [cond_true, Bool.true_and]
    unfold m_strings_ContainsAny containsM
    rw [if_pos ⟨⟨by omega, by decide⟩, by decide⟩, any_wild]
    show some (!(p.any wildB), ()) = _
    congr 2
    induction p with
    | nil => rfl
    | cons b l ih => rw [List.any_cons, List.all_cons, Bool.not_or, ih (by simp at hp; omega)]
def Pc.takes : Pc → Nat → Bool
  | .byte x, b => b == x
  | .any _, b => b != 47
  | .star _, b => b != 47
  | .stars _, _ => true
  | .cl nt s, b => b != 47 && (!(s.getD b false == nt))
def Pc.many : Pc → Bool
  | .star _ => true
  | .stars _ => true
  | _ => false
def Pc.wf : Pc → Prop
  | .byte x => x < 256
  | .cl _ s => s.length = 256
  | _ => True
theorem clsR_len (p : List UInt8) : (clsR p).2.length = 256 := by
  unfold clsR; rw [cls_len p _ _ _ _ (Nat.le_refl _), List.length_replicate]
theorem pc1_wf {p c m} (h : pc1 p = some (c, m)) : c.wf := by
  unfold pc1 at h
  split at h
  · cases h; trivial
  split at h
  · cases h; trivial
  split at h
  · cases h; trivial
  split at h
  · split at h
    · cases h
    · cases h; exact clsR_len _
  split at h
  · split at h
    · cases h
    · cases h; exact by8_lt _ _
  · cases h; exact by8_lt _ _
theorem pcs_wf : ∀ n p l, pcs n p = some l → ∀ c ∈ l, c.wf := by
  intro n
  induction n with
  | zero => intro p l h; cases h; intro c hc; cases hc
  | succ n ih =>
    intro p l h
    rw [pcs] at h
    split at h
    · cases h; intro c hc; cases hc
    · cases hc : pc1 p with
      | none => rw [hc] at h; cases h
      | some x =>
        obtain ⟨c, k⟩ := x
        rw [hc] at h
        simp only at h
        cases hq : pcs n (p.drop k) with
        | none => rw [hq] at h; cases h
        | some l' =>
          rw [hq] at h
          cases h
          intro d hd
          rcases List.mem_cons.mp hd with rfl | hd
          · exact pc1_wf hc
          · exact ih _ _ hq d hd
theorem pieces_wf {p l} (h : pieces p = some l) : ∀ c ∈ l, c.wf := pcs_wf _ _ _ h
theorem pieces_len : ∀ n p l, pcs n p = some l → l.length ≤ n := by
  intro n
  induction n with
  | zero => intro p l h; cases h; exact Nat.le_refl _
  | succ n ih =>
    intro p l h
    rw [pcs] at h
    split at h
    · cases h; exact Nat.zero_le _
    · cases hc : pc1 p with
      | none => rw [hc] at h; cases h
      | some x =>
        obtain ⟨c, k⟩ := x
        rw [hc] at h
        simp only at h
        cases hq : pcs n (p.drop k) with
        | none => rw [hq] at h; cases h
        | some l' => rw [hq] at h; cases h; have := ih _ _ hq; simp only [List.length_cons]; omega
theorem ne47 (b : Nat) : (((b : Nat) : Int) != (47 : Int)) = (b != 47) := by
  by_cases h : b = 47
  · subst h; rfl
  · rw [bne_iff_ne.mpr h, bne_iff_ne]; omega
theorem many_eq (c : Pc) : m_impl_piece_isMany c.I = some (c.many, ()) := by cases c <;> rfl
set_option maxRecDepth 100000 in
theorem takes_eq (c : Pc) (hc : c.wf) (b : Nat) (hb : b < 256) : m_impl_piece_takes c.I (b : Int) = some (c.takes b, ()) := by
  unfold m_impl_piece_takes
  cases c with
  | byte x =>
    have hx : x < 256 := hc
    show (if (0 : Int) ≤ (b : Int) ∧ (b : Int) < ((256 : Nat) : Int) ∧ (b : Int) < ((((List.replicate 256 false).set x true).length : Nat) : Int) then some (List.getD ((List.replicate 256 false).set x true) (Int.toNat (b : Int)) false, ()) else none) = some (b == x, ())
    rw [if_pos (by rw [List.length_set, List.length_replicate]; omega), Int.toNat_natCast, List.getD_eq_getElem?_getD, List.getElem?_set]
    by_cases h : x = b
    · subst h; rw [if_pos rfl, if_pos (by rw [List.length_replicate]; exact hx)]; simp
    · rw [if_neg h, List.getElem?_replicate, if_pos hb, beq_eq_false_iff_ne.mpr (fun e => h e.symm)]; rfl
  | any x => show some (((b : Nat) : Int) != (47 : Int), ()) = _; rw [ne47]; rfl
  | star x => show some (((b : Nat) : Int) != (47 : Int), ()) = _; rw [ne47]; rfl
  | stars x => rfl
  | cl nt s =>
    have hl : s.length = 256 := hc
    show Option.bind (bif ((b : Nat) : Int) != (47 : Int) then (if (0 : Int) ≤ (b : Int) ∧ (b : Int) < ((256 : Nat) : Int) ∧ (b : Int) < (s.length : Int) then some ((!(List.getD s (Int.toNat (b : Int)) false == nt), ()), ()) else none) else some ((false, ()), ())) _ = _
    rw [ne47, if_pos (by omega), Int.toNat_natCast]
    show _ = some (b != 47 && (!(s.getD b false == nt)), ())
    cases (b != 47) <;> rfl
def nx (c : Pc) (s : List UInt8) (at' : List Bool) : Nat → Bool
  | 0 => c.many && at'.getD 0 false
  | i + 1 => bif c.many then at'.getD (i + 1) false || (nx c s at' i && c.takes (by8 s i)) else at'.getD i false && c.takes (by8 s i)
def rowOf (f : Nat → Bool) (n : Nat) : List Bool := (List.range (n + 1)).map f
theorem rowOf_len (f n) : (rowOf f n).length = n + 1 := by simp [rowOf]
theorem eq_rowOf {f : Nat → Bool} {n : Nat} {l : List Bool} (hl : l.length = n + 1) (h : ∀ j, j ≤ n → l.getD j false = f j) : l = rowOf f n := by
  apply List.ext_getElem
  · rw [hl, rowOf_len]
  · intro i h1 h2
    have := h i (by omega)
    rw [List.getD_eq_getElem?_getD, List.getElem?_eq_getElem h1] at this
    simp only [rowOf, List.getElem_map, List.getElem_range]
    exact this
def row0 (n : Nat) : List Bool := true :: List.replicate n false
def rows (s : List UInt8) (l : List Pc) (at' : List Bool) : List Bool := l.foldl (fun a c => rowOf (nx c s a) s.length) at'
def matchP (l : List Pc) (s : List UInt8) : Bool := (rows s l (row0 s.length)).getD s.length false
theorem getD_set {l : List Bool} {i j : Nat} {b : Bool} (hi : i < l.length) : (l.set i b).getD j false = if i = j then b else l.getD j false := by
  rw [List.getD_eq_getElem?_getD, List.getElem?_set]
  by_cases h : i = j
  · rw [if_pos h, if_pos h, if_pos hi]; rfl
  · rw [if_neg h, if_neg h, List.getD_eq_getElem?_getD]
theorem getD_rep {n j : Nat} : (List.replicate n false).getD j false = false := by
  rw [List.getD_eq_getElem?_getD, List.getElem?_replicate]; split <;> rfl
def matchB (p s : List UInt8) : Bool := match (if 1 ≤ p.length ∧ p.length ≤ 60 then pieces p else none) with | none => false | some l => decide (s.length ≤ 200) && matchP l s
theorem mapI_getD (l : List Pc) (k : Nat) (hk : k < l.length) (d) : (l.map Pc.I).getD k d = (l[k]).I := by
  rw [List.getD_eq_getElem?_getD, List.getElem?_map, List.getElem?_eq_getElem hk]; rfl
def RowI (n : Nat) (c : Pc) (s : List UInt8) (at' : List Bool) (i : Nat) (next : List Bool) : Prop :=
  next.length = n + 1 ∧ ∀ j, j ≤ n → next.getD j false = if j < i then nx c s at' j else false
theorem RowI.set {n c s at' next i} (h : RowI n c s at' i next) (hi : i ≤ n) {x : Bool} (hx : x = nx c s at' i) : RowI n c s at' (i + 1) (next.set i x) := by
  refine ⟨by rw [List.length_set]; exact h.1, fun j hj => ?_⟩
  rw [getD_set (by rw [h.1]; omega)]
  by_cases hij : i = j
  · subst hij; rw [if_pos rfl, if_pos (by omega), hx]
  · rw [if_neg hij, h.2 j hj]
    by_cases hl : j < i
    · rw [if_pos hl, if_pos (by omega)]
    · rw [if_neg hl, if_neg (by omega)]
theorem RowI.same {n c s at' next i} (h : RowI n c s at' i next) (hx : nx c s at' i = false) : RowI n c s at' (i + 1) next := by
  refine ⟨h.1, fun j hj => ?_⟩
  rw [h.2 j hj]
  by_cases hij : j = i
  · subst hij; rw [if_neg (by omega), if_pos (by omega), hx]
  · by_cases hl : j < i
    · rw [if_pos hl, if_pos (by omega)]
    · rw [if_neg hl, if_neg (by omega)]
theorem impl_match_eq (l : List Pc) (hwf : ∀ c ∈ l, c.wf) (hll : l.length ≤ 60) (s : List UInt8) (hs : s.length ≤ 200) : m_impl_match (l.map Pc.I) s = some (matchP l s, ()) := by
  unfold m_impl_match
  have wn : IntKind.wrap IntKind.i64 ((s.length : Int) + 1) = ((s.length + 1 : Nat) : Int) := by rw [wr _ (by omega)]; omega
  have gq : (0 : Int) ≤ ((s.length + 1 : Nat) : Int) ∧ ((s.length + 1 : Nat) : Int) ≤ ((s.length + 1 : Nat) : Int) ∧ ((1 : Nat) : Int) * ((s.length + 1 : Nat) : Int) ≤ (140737488355328 : Int) ∧ ((s.length + 1 : Nat) : Int) < (2 : Int) ^ (62 : Nat) := by
    refine ⟨by omega, by omega, by omega, ?_⟩
    show _ < (4611686018427387904 : Int)
    omega
  have tz : Int.toNat (0 : Int) = 0 := rfl
  simp only [wn, Int.toNat_natCast, tz, List.length_replicate, List.length_map]
  rw [if_pos gq, if_pos (by omega), if_pos (by omega)]
  have h0 : (List.replicate (s.length + 1) false).set 0 true = row0 s.length := by rw [List.replicate_succ]; rfl
  rw [h0]
  refine (congrArg (fun o => Option.bind o _) ((loopC_inv _
    (fun n st => ∃ (k : Nat) (at' : List Bool), st = ((s, (), l.map Pc.I, (l.length : Int), (k : Int), ()), at', ()) ∧ at'.length = s.length + 1 ∧ k ≤ l.length ∧ n = l.length - k)
    (fun st => some ((s, (), ()), rows s (l.drop st.1.2.2.2.2.1.toNat) st.2.1, ())) ?_ _ l.length _ ?_ ?_))).trans ?_
  · rintro n st kk ⟨k, at', rfl, hat, hkl, rfl⟩ hk
    dsimp only
    by_cases hlt : k < l.length
    · rw [decide_eq_true (show (k : Int) < (l.length : Int) by omega), cond_true, if_pos (by rw [List.length_map]; omega)]
      simp only [wn, Int.toNat_natCast, tz, List.length_replicate, List.length_map]
      rw [if_pos gq]
      have hkc : (l[k]).wf := hwf _ (List.getElem_mem hlt)
      rw [mapI_getD l k hlt]
      generalize hc : l[k] = c at hkc ⊢
      refine (congrArg (fun o => Option.bind o _) ((loopC_inv _
        (fun n st => ∃ (i : Nat) (next : List Bool), st = ((s, (), c.I, (), l.map Pc.I, (l.length : Int), (k : Int), ((s.length + 1 : Nat) : Int), (i : Int), ()), at', next, ()) ∧ i ≤ s.length + 1 ∧ RowI s.length c s at' i next ∧ n = s.length + 1 - i)
        (fun st => some ((s, (), l.map Pc.I, (l.length : Int), (k : Int), ()), rowOf (nx c s at') s.length, ())) ?_ _ (s.length + 1) _ ?_ ?_))).trans ?_
      · rintro n st k1 ⟨i, next, rfl, hi, hinv, rfl⟩ hk1
        have w1 : IntKind.wrap IntKind.i64 ((i : Int) + 1) = ((i + 1 : Nat) : Int) := by rw [wr _ (by omega)]; omega
        dsimp only
        by_cases hle : i ≤ s.length
        · have fin : ∀ next', RowI s.length c s at' (i + 1) next' → k1 ((s, (), c.I, (), l.map Pc.I, (l.length : Int), (k : Int), ((s.length + 1 : Nat) : Int), ((i + 1 : Nat) : Int), ()), at', next', ()) = some ((s, (), l.map Pc.I, (l.length : Int), (k : Int), ()), rowOf (nx c s at') s.length, ()) :=
            fun next' h' => hk1 (s.length + 1 - (i + 1)) _ (by omega) ⟨i + 1, next', rfl, by omega, h', rfl⟩
          have hn1 : next.length = s.length + 1 := hinv.1
          have ga : (0 : Int) ≤ (i : Int) ∧ (i : Int) < (at'.length : Int) := by omega
          have ga' : i < at'.length := by omega
          have gn : (0 : Int) ≤ (i : Int) ∧ (i : Int) < (next.length : Int) := by omega
          have gn' : i < next.length := by omega
          rw [decide_eq_true (show (i : Int) < ((s.length + 1 : Nat) : Int) by omega), cond_true, many_eq, Option.bind_some]
          simp only [Int.toNat_natCast, if_pos ga, if_pos ga', if_pos gn, if_pos gn', w1]
          cases i with
          | zero =>
            rw [decide_eq_false (show ¬((0 : Nat) : Int) > (0 : Int) by omega)]
            cases hm : c.many with
            | true =>
              cases hA : at'.getD 0 false with
              | true => simp only [cond_true, Option.bind_some, w1]; exact fin _ (hinv.set hle (x := true) (by simp only [nx, hm, hA, cond_true, cond_false, Bool.true_and, Bool.false_and, Bool.true_or, Bool.false_or]))
              | false => simp only [cond_true, cond_false, Option.bind_some, w1]; exact fin _ (hinv.set hle (x := false) (by simp only [nx, hm, hA, cond_true, cond_false, Bool.true_and, Bool.false_and, Bool.true_or, Bool.false_or]))
            | false => simp only [cond_false, Option.bind_some, w1]; exact fin _ (hinv.same (by simp only [nx, hm, cond_true, cond_false, Bool.true_and, Bool.false_and, Bool.true_or, Bool.false_or]))
          | succ j =>
            have wm : IntKind.wrap IntKind.i64 (((j + 1 : Nat) : Int) - 1) = (j : Int) := by rw [wr _ (by omega)]; omega
            have ga2 : (0 : Int) ≤ (j : Int) ∧ (j : Int) < (at'.length : Int) := by omega
            have ga2' : j < at'.length := by omega
            have gn2 : (0 : Int) ≤ (j : Int) ∧ (j : Int) < (next.length : Int) := by omega
            have gn2' : j < next.length := by omega
            have gs2 : (0 : Int) ≤ (j : Int) ∧ (j : Int) < (s.length : Int) := by omega
            have hnj : next.getD j false = nx c s at' j := by rw [hinv.2 j (by omega), if_pos (by omega)]
            have ht : m_impl_piece_takes c.I (((s.getD j 0).toNat : Nat) : Int) = some (c.takes (by8 s j), ()) := takes_eq c hkc _ (by8_lt _ _)
            rw [decide_eq_true (show ((j + 1 : Nat) : Int) > (0 : Int) by omega)]
            simp only [wm, Int.toNat_natCast, if_pos ga2, if_pos ga2', if_pos gn2, if_pos gn2', if_pos gs2, ht, hnj, Option.bind_some, cond_true]
            cases hm : c.many with
            | true =>
              cases hA : at'.getD (j + 1) false with
              | true => simp only [cond_true, Option.bind_some, w1]; exact fin _ (hinv.set hle (x := true) (by simp only [nx, hm, hA, cond_true, cond_false, Bool.true_and, Bool.false_and, Bool.true_or, Bool.false_or]))
              | false =>
                cases hN : nx c s at' j with
                | true => simp only [cond_true, cond_false, Option.bind_some, w1]; exact fin _ (hinv.set hle (x := c.takes (by8 s j)) (by simp only [nx, hm, hA, hN, cond_true, cond_false, Bool.true_and, Bool.false_and, Bool.true_or, Bool.false_or]))
                | false => simp only [cond_true, cond_false, Option.bind_some, w1]; exact fin _ (hinv.set hle (x := false) (by simp only [nx, hm, hA, hN, cond_true, cond_false, Bool.true_and, Bool.false_and, Bool.true_or, Bool.false_or]))
            | false =>
              cases hA : at'.getD j false with
              | true => simp only [cond_true, cond_false, Option.bind_some, w1]; exact fin _ (hinv.set hle (x := c.takes (by8 s j)) (by simp only [nx, hm, hA, cond_true, cond_false, Bool.true_and, Bool.false_and, Bool.true_or, Bool.false_or]))
              | false => simp only [cond_true, cond_false, Option.bind_some, w1]; exact fin _ (hinv.set hle (x := false) (by simp only [nx, hm, hA, cond_true, cond_false, Bool.true_and, Bool.false_and, Bool.true_or, Bool.false_or]))
        · have : i = s.length + 1 := by omega
          rw [decide_eq_false (by omega), cond_false]
          have : next = rowOf (nx c s at') s.length := eq_rowOf hinv.1 (fun j hj => by rw [hinv.2 j hj, if_pos (by omega)])
          rw [this]
      · exact ⟨0, _, rfl, by omega, ⟨by simp, fun j hj => by rw [getD_rep, if_neg (by omega)]⟩, rfl⟩
      · omega
      · simp only [Option.bind_some]
        have w1 : IntKind.wrap IntKind.i64 ((k : Int) + 1) = ((k + 1 : Nat) : Int) := by rw [wr _ (by omega)]; omega
        rw [w1, hk (l.length - (k + 1)) _ (by omega) ⟨k + 1, _, rfl, rowOf_len _ _, by omega, rfl⟩]
        simp only [Int.toNat_natCast]
        rw [List.drop_eq_getElem_cons hlt, hc]
        rfl
    · have : k = l.length := by omega
      rw [decide_eq_false (by omega), cond_false, this]
      simp only [Int.toNat_natCast, List.drop_length]; rfl
  · exact ⟨0, _, rfl, by simp [row0], by omega, rfl⟩
  · omega
  · simp only [Option.bind_some, tz, List.drop_zero]
    have hlen : (rows s l (row0 s.length)).length = s.length + 1 := by
      unfold rows
      have : ∀ (l : List Pc) (a : List Bool), a.length = s.length + 1 → (l.foldl (fun a c => rowOf (nx c s a) s.length) a).length = s.length + 1 := by
        intro l
        induction l with
        | nil => intro a h; exact h
        | cons c l ih => intro a h; exact ih _ (rowOf_len _ _)
      exact this _ _ (by simp [row0])
    rw [if_pos (by omega), if_pos (by omega)]
    rfl
theorem impl_Match_eq (p s : List UInt8) : m_impl_Match p s = some (matchB p s, ()) := by
  unfold m_impl_Match matchB
  rw [impl_pieces_eq, Option.bind_some]
  by_cases hp : 1 ≤ p.length ∧ p.length ≤ 60
  · rw [if_pos hp, if_pos hp]
    cases hq : pieces p with
    | none => rfl
    | some l =>
      have hll : l.length ≤ 60 := by have := pieces_len _ _ _ hq; omega
      simp only [cond_true]
      by_cases hs : s.length ≤ 200
      · rw [decide_eq_true (show (s.length : Int) ≤ 200 by omega), decide_eq_true hs, impl_match_eq l (pieces_wf hq) hll s hs]; rfl
      · rw [decide_eq_false (show ¬(s.length : Int) ≤ 200 by omega), decide_eq_false hs]; rfl
  · rw [if_neg hp, if_neg hp]; rfl
/-- What a list of pieces means. -/
def mean : List Pc → List UInt8 → Prop
  | [], t => t = []
  | c :: l, t => if c.many = true then ∃ u v, t = u ++ v ∧ (∀ b ∈ u, c.takes (UInt8.toNat b) = true) ∧ mean l v else ∃ b v, t = b :: v ∧ c.takes (UInt8.toNat b) = true ∧ mean l v
/-- One piece from place i to place j. -/
def leg (c : Pc) (s : List UInt8) (i j : Nat) : Prop :=
  if c.many = true then i ≤ j ∧ ∀ k, i ≤ k → k < j → c.takes (by8 s k) = true else j = i + 1 ∧ c.takes (by8 s i) = true
theorem nx_iff (c : Pc) (s : List UInt8) (at' : List Bool) : ∀ j, nx c s at' j = true ↔ ∃ i, i ≤ j ∧ at'.getD i false = true ∧ leg c s i j := by
  intro j
  induction j with
  | zero =>
    rw [nx]
    unfold leg
    cases hm : c.many with
    | true =>
      simp only [Bool.true_and, if_pos]
      constructor
      · intro h; exact ⟨0, Nat.le_refl _, h, Nat.le_refl _, fun k h1 h2 => by omega⟩
      · rintro ⟨i, hi, ha, _⟩
        have : i = 0 := by omega
        subst this; exact ha
    | false =>
      simp only [Bool.false_and, Bool.false_eq_true, if_false, false_iff]
      rintro ⟨i, hi, ha, h, _⟩
      omega
  | succ j ih =>
    rw [nx]
    cases hm : c.many with
    | true =>
      simp only [cond_true, Bool.or_eq_true, Bool.and_eq_true, ih]
      unfold leg
      simp only [hm, if_true]
      constructor
      · rintro (h | ⟨⟨i, hi, ha, hle, hk⟩, ht⟩)
        · exact ⟨j + 1, Nat.le_refl _, h, Nat.le_refl _, fun k h1 h2 => by omega⟩
        · refine ⟨i, by omega, ha, by omega, fun k h1 h2 => ?_⟩
          by_cases hkj : k = j
          · subst hkj; exact ht
          · exact hk k h1 (by omega)
      · rintro ⟨i, hi, ha, hle, hk⟩
        by_cases hij : i = j + 1
        · subst hij; exact Or.inl ha
        · exact Or.inr ⟨⟨i, by omega, ha, by omega, fun k h1 h2 => hk k h1 (by omega)⟩, hk j (by omega) (by omega)⟩
    | false =>
      simp only [cond_false, Bool.and_eq_true]
      unfold leg
      simp only [hm, Bool.false_eq_true, if_false]
      constructor
      · rintro ⟨ha, ht⟩; exact ⟨j, by omega, ha, rfl, ht⟩
      · rintro ⟨i, hi, ha, he, ht⟩
        have : i = j := by omega
        subst this; exact ⟨ha, ht⟩
/-- The pieces from place i to place j. -/
def way : List Pc → List UInt8 → Nat → Nat → Prop
  | [], _, i, j => i = j
  | c :: l, s, i, j => ∃ k, i ≤ k ∧ k ≤ j ∧ leg c s i k ∧ way l s k j
theorem rowOf_getD (f : Nat → Bool) (n j : Nat) (hj : j ≤ n) : (rowOf f n).getD j false = f j := by
  unfold rowOf
  rw [List.getD_eq_getElem?_getD, List.getElem?_map, List.getElem?_range (by omega)]; rfl
theorem rows_iff (s : List UInt8) : ∀ (l : List Pc) (at' : List Bool) (j : Nat), j ≤ s.length → at'.length = s.length + 1 →
    ((rows s l at').getD j false = true ↔ ∃ i, i ≤ j ∧ at'.getD i false = true ∧ way l s i j) := by
  intro l
  induction l with
  | nil =>
    intro at' j hj _
    show at'.getD j false = true ↔ _
    constructor
    · intro h; exact ⟨j, Nat.le_refl _, h, rfl⟩
    · rintro ⟨i, _, ha, hw⟩
      have : i = j := hw
      subst this; exact ha
  | cons c l ih =>
    intro at' j hj hl
    show (rows s l (rowOf (nx c s at') s.length)).getD j false = true ↔ _
    rw [ih _ j hj (rowOf_len _ _)]
    constructor
    · rintro ⟨k, hk, ha, hw⟩
      rw [rowOf_getD _ _ _ (by omega), nx_iff] at ha
      obtain ⟨i, hi, ha, hleg⟩ := ha
      exact ⟨i, by omega, ha, k, hi, hk, hleg, hw⟩
    · rintro ⟨i, hi, ha, k, h1, h2, hleg, hw⟩
      exact ⟨k, h2, by rw [rowOf_getD _ _ _ (by omega), nx_iff]; exact ⟨i, h1, ha, hleg⟩, hw⟩
theorem by8_drop (s : List UInt8) (i k : Nat) (h : i + k < s.length) : ∃ b, (s.drop i)[k]? = some b ∧ b.toNat = by8 s (i + k) := by
  refine ⟨s[i + k], by rw [List.getElem?_drop, List.getElem?_eq_getElem h], ?_⟩
  unfold by8
  rw [List.getD_eq_getElem?_getD, List.getElem?_eq_getElem h]; rfl
theorem way_mean (s : List UInt8) : ∀ (l : List Pc) (i : Nat), i ≤ s.length → (way l s i s.length ↔ mean l (s.drop i)) := by
  intro l
  induction l with
  | nil =>
    intro i hi
    show i = s.length ↔ s.drop i = []
    rw [List.drop_eq_nil_iff]; omega
  | cons c l ih =>
    intro i hi
    unfold way mean
    cases hm : c.many with
    | true =>
      simp only [if_true]
      constructor
      · rintro ⟨k, h1, h2, hleg, hw⟩
        unfold leg at hleg
        rw [hm, if_pos rfl] at hleg
        refine ⟨(s.drop i).take (k - i), s.drop k, ?_, ?_, (ih k h2).1 hw⟩
        · have : s.drop k = (s.drop i).drop (k - i) := by rw [List.drop_drop]; congr 1; omega
          rw [this, List.take_append_drop]
        · intro b hb
          obtain ⟨j, hj⟩ := List.mem_iff_getElem?.1 hb
          have hjl : j < k - i := by
            have := (List.getElem?_eq_some_iff.1 hj).1
            rw [List.length_take] at this; omega
          rw [List.getElem?_take_of_lt hjl] at hj
          obtain ⟨b', hb', he⟩ := by8_drop s i j (by omega)
          rw [hj] at hb'; cases hb'
          rw [he]; exact hleg.2 _ (by omega) (by omega)
      · rintro ⟨u, v, huv, hu, hv⟩
        have hlen : u.length + v.length = s.length - i := by rw [← List.length_append, ← huv, List.length_drop]
        have hv' : s.drop (i + u.length) = v := by rw [← List.drop_drop, huv, List.drop_left]
        refine ⟨i + u.length, by omega, by omega, ?_, (ih _ (by omega)).2 (hv' ▸ hv)⟩
        unfold leg
        rw [hm, if_pos rfl]
        refine ⟨by omega, fun k h1 h2 => ?_⟩
        obtain ⟨b', hb', he⟩ := by8_drop s i (k - i) (by omega)
        rw [huv, List.getElem?_append_left (by omega)] at hb'
        have := hu b' (List.mem_of_getElem? hb')
        rw [he, show i + (k - i) = k by omega] at this
        exact this
    | false =>
      simp only [Bool.false_eq_true, if_false]
      constructor
      · rintro ⟨k, h1, h2, hleg, hw⟩
        unfold leg at hleg
        rw [hm, if_neg (by simp)] at hleg
        obtain ⟨rfl, ht⟩ := hleg
        have hlt : i < s.length := by omega
        refine ⟨s[i], s.drop (i + 1), List.drop_eq_getElem_cons hlt, ?_, (ih _ h2).1 hw⟩
        unfold by8 at ht
        rw [List.getD_eq_getElem?_getD, List.getElem?_eq_getElem hlt] at ht
        exact ht
      · rintro ⟨b, v, hbv, ht, hv⟩
        have hlt : i < s.length := by
          have : (s.drop i).length = v.length + 1 := by rw [hbv]; rfl
          rw [List.length_drop] at this; omega
        rw [List.drop_eq_getElem_cons hlt] at hbv
        obtain ⟨rfl, rfl⟩ := List.cons.inj hbv
        refine ⟨i + 1, by omega, by omega, ?_, (ih _ (by omega)).2 hv⟩
        unfold leg
        rw [hm, if_neg (by simp)]
        refine ⟨rfl, ?_⟩
        unfold by8
        rw [List.getD_eq_getElem?_getD, List.getElem?_eq_getElem hlt]
        exact ht
theorem matchP_iff (l : List Pc) (s : List UInt8) : matchP l s = true ↔ mean l s := by
  unfold matchP
  rw [rows_iff s l _ _ (Nat.le_refl _) (by simp [row0])]
  have h0 : mean l s ↔ way l s 0 s.length := by rw [way_mean s l 0 (Nat.zero_le _), List.drop_zero]
  rw [h0]
  constructor
  · rintro ⟨i, hi, ha, hw⟩
    cases i with
    | zero => exact hw
    | succ i =>
      have : (row0 s.length).getD (i + 1) false = false := by
        unfold row0
        rw [List.getD_cons_succ, getD_rep]
      rw [this] at ha; cases ha
  · intro hw; exact ⟨0, Nat.zero_le _, rfl, hw⟩
def Cur (s : List Int × Int × Int × Unit) : Prop := 0 ≤ s.2.1 ∧ s.2.1 ≤ (s.1.length : Int) ∧ s.1.length ≤ 1048576
theorem and255 (x : Int) : 0 ≤ bitsOf .and .i64 x 255 ∧ bitsOf .and .i64 x 255 ≤ 255 := by
  have h : (BitVec.ofInt 64 x &&& BitVec.ofInt 64 255).toNat ≤ 255 := by rw [BitVec.toNat_and]; exact Nat.and_le_right
  show 0 ≤ IntKind.wrap .i64 ((BitVec.ofInt 64 x &&& BitVec.ofInt 64 255).toNat : Int) ∧ IntKind.wrap .i64 ((BitVec.ofInt 64 x &&& BitVec.ofInt 64 255).toNat : Int) ≤ 255
  rw [wr _ (by omega)]; omega
theorem byte_some (s : List Int × Int × Int × Unit) (h : Cur s) : ∃ b s', m_spec_l01Byte s = some (b, s', ()) ∧ 0 ≤ b ∧ b ≤ 255 ∧ Cur s' := by
  obtain ⟨c, i, x, u⟩ := s
  obtain ⟨h1, h2, h3⟩ := h
  simp only at h1 h2 h3
  unfold m_spec_l01Byte
  rw [if_pos (by decide), if_pos (by decide)]
  dsimp only
  by_cases hl : i < (c.length : Int)
  · rw [decide_eq_true hl, cond_true, if_pos ⟨h1, hl⟩]
    refine ⟨_, _, rfl, (and255 _).1, (and255 _).2, ?_⟩
    refine ⟨?_, ?_, h3⟩
    · show 0 ≤ IntKind.wrap .i64 (i + 1); rw [wr _ (by omega)]; omega
    · show IntKind.wrap .i64 (i + 1) ≤ _; rw [wr _ (by omega)]; show i + 1 ≤ (c.length : Int); omega
  · rw [decide_eq_false hl, cond_false]
    exact ⟨_, _, rfl, (and255 _).1, (and255 _).2, h1, h2, h3⟩
theorem below_some (n : Int) (hn : 0 < n) (s : List Int × Int × Int × Unit) (h : Cur s) : ∃ b s', m_spec_l01Below n s = some (b, s', ()) ∧ (n ≤ 256 → 0 ≤ b ∧ b < n) ∧ Cur s' := by
  obtain ⟨c, i, x, u⟩ := s
  unfold m_spec_l01Below
  rw [decide_eq_false (show ¬ n ≤ 0 by omega), cond_false]
  by_cases h256 : n ≤ 256
  · rw [decide_eq_true h256, cond_true]
    obtain ⟨b, s', e, hb1, hb2, hc⟩ := byte_some (c, i, x, ()) h
    obtain ⟨c', i', x', u'⟩ := s'
    simp only
    rw [e, Option.bind_some]
    simp only
    rw [if_pos (by omega)]
    exact ⟨_, _, rfl, fun _ => ⟨Int.tmod_nonneg _ hb1, Int.tmod_lt_of_pos _ hn⟩, hc⟩
  · rw [decide_eq_false h256, cond_false]
    obtain ⟨b, s1, e, _, _, hc⟩ := byte_some (c, i, x, ()) h
    obtain ⟨c1, i1, x1, u1⟩ := s1
    simp only
    rw [e, Option.bind_some]
    simp only
    obtain ⟨b2, s2, e2, _, _, hc2⟩ := byte_some (c1, i1, x1, ()) hc
    obtain ⟨c2, i2, x2, u2⟩ := s2
    rw [e2, Option.bind_some]
    simp only
    obtain ⟨b3, s3, e3, _, _, hc3⟩ := byte_some (c2, i2, x2, ()) hc2
    obtain ⟨c3, i3, x3, u3⟩ := s3
    rw [e3, Option.bind_some]
    simp only
    obtain ⟨b4, s4, e4, _, _, hc4⟩ := byte_some (c3, i3, x3, ()) hc3
    obtain ⟨c4, i4, x4, u4⟩ := s4
    rw [e4, Option.bind_some]
    simp only
    rw [if_pos (by omega)]
    exact ⟨_, _, rfl, fun h => absurd h h256, hc4⟩
theorem once_some (n : Int) (hn : 0 < n) (s : List Int × Int × Int × Unit) (h : Cur s) : ∃ b s', m_spec_l01Once n s = some (b, s', ()) ∧ Cur s' := by
  obtain ⟨c, i, x, u⟩ := s
  unfold m_spec_l01Once
  obtain ⟨b, s1, e, _, hc⟩ := below_some n hn (c, i, x, ()) h
  obtain ⟨c1, i1, x1, u1⟩ := s1
  simp only
  rw [e, Option.bind_some]
  exact ⟨_, _, rfl, hc⟩
theorem pick_some (l : List (List UInt8)) (hl : 0 < l.length) (hl2 : l.length ≤ 256) (m : Nat) (hm : ∀ x ∈ l, x.length ≤ m) (s : List Int × Int × Int × Unit) (h : Cur s) : ∃ t s', m_spec_l01Pick l s = some (t, s', ()) ∧ t.length ≤ m ∧ Cur s' := by
  obtain ⟨c, i, x, u⟩ := s
  unfold m_spec_l01Pick
  obtain ⟨b, s1, e, hb, hc⟩ := below_some (l.length : Int) (by omega) (c, i, x, ()) h
  obtain ⟨c1, i1, x1, u1⟩ := s1
  obtain ⟨hb1, hb2⟩ := hb (by omega)
  simp only
  rw [e, Option.bind_some]
  simp only
  rw [if_pos ⟨hb1, hb2⟩]
  refine ⟨_, _, rfl, ?_, hc⟩
  have hlt : b.toNat < l.length := by omega
  rw [List.getD_eq_getElem?_getD, List.getElem?_eq_getElem hlt]
  exact hm _ (List.getElem_mem hlt)
theorem new_some (c : List Int) (hc : c.length ≤ 1048576) : ∃ r, m_spec_l01New c = some r ∧ Cur r.2.1 := by
  unfold m_spec_l01New
  refine bind_some' (Q := fun r => r.1.1 = c) (loopC_some' _ (fun n s => ∃ (x : Int) (i : Nat), s = ((c, x, (i : Int), ()), ()) ∧ i ≤ c.length ∧ n = c.length - i) _ ?_ _ c.length _ ⟨_, 0, rfl, by omega, rfl⟩ (by omega)) ?_
  · rintro n s k ⟨x, i, rfl, hi, rfl⟩ hk
    dsimp only
    by_cases hl : i < c.length
    · rw [decide_eq_true (show (i : Int) < (c.length : Int) by omega), cond_true, Option.bind_some]
      dsimp only
      cases decide ((i : Int) < 4000) with
      | true =>
        rw [cond_true, if_pos (by omega)]
        exact hk (c.length - (i + 1)) _ (by omega) ⟨_, i + 1, by rw [wr _ (show -9223372036854775808 ≤ (i : Int) + 1 ∧ (i : Int) + 1 ≤ 9223372036854775807 by omega)]; rfl, by omega, rfl⟩
      | false => rw [cond_false]; exact ⟨_, rfl, rfl⟩
    · rw [decide_eq_false (by omega), cond_false, Option.bind_some]
      exact ⟨_, rfl, rfl⟩
  · rintro ⟨⟨c', x, u⟩, u2⟩ hq
    have hq' : c' = c := hq
    subst hq'
    exact ⟨_, rfl, by show (0 : Int) ≤ 0; omega, by show (0 : Int) ≤ _; omega, hc⟩
theorem pick_some' (l : List (List UInt8)) (m : Nat) (s : List Int × Int × Int × Unit) (hl : 0 < l.length ∧ l.length ≤ 256 ∧ ∀ x ∈ l, x.length ≤ m) (h : Cur s) : ∃ r, m_spec_l01Pick l s = some r ∧ r.1.length ≤ m ∧ Cur r.2.1 := by
  obtain ⟨t, s', e, ht, hc⟩ := pick_some l hl.1 hl.2.1 m hl.2.2 s h
  exact ⟨_, e, ht, hc⟩
theorem name_some (s : List Int × Int × Int × Unit) (h : Cur s) : ∃ r, m_spec_l02Name s = some r ∧ r.1.length ≤ 10 ∧ Cur r.2.1 := by
  obtain ⟨c, i, x, u⟩ := s
  unfold m_spec_l02Name
  refine bind_some' (pick_some' _ 10 (c, i, x, ()) (by decide) h) ?_
  rintro ⟨t, ⟨c1, i1, x1, u1⟩, u2⟩ ⟨ht, hc⟩
  exact ⟨_, rfl, ht, hc⟩
theorem path_some (s : List Int × Int × Int × Unit) (h : Cur s) : ∃ r, m_spec_l02Path s = some r ∧ r.1.length ≤ 100 ∧ Cur r.2.1 := by
  obtain ⟨c, i, x, u⟩ := s
  unfold m_spec_l02Path
  refine bind_some' (name_some (c, i, x, ()) h) ?_
  rintro ⟨t, ⟨c1, i1, x1, u1⟩, u2⟩ ⟨ht, hc⟩
  obtain ⟨b, s2, e, hb, hc2⟩ := below_some 4 (by omega) (c1, i1, x1, ()) hc
  obtain ⟨c2, i2, x2, u3⟩ := s2
  obtain ⟨hb1, hb2⟩ := hb (by omega)
  dsimp only
  rw [e, Option.bind_some]
  dsimp only
  have ht' : t.length ≤ 10 := ht
  refine bind_some' (Q := fun r => r.1.1.length ≤ 100 ∧ Cur r.2.1) (loopC_some' _ (fun n s => ∃ (o : List UInt8) (j : Nat) (cu : List Int × Int × Int × Unit), s = (((), o, b, (j : Int), ()), cu, ()) ∧ o.length ≤ 10 + 11 * j ∧ (j : Int) ≤ b ∧ Cur cu ∧ n = b.toNat - j) _ ?_ _ b.toNat _ ⟨t, 0, (c2, i2, x2, ()), rfl, by omega, by omega, hc2, rfl⟩ (by omega)) ?_
  · rintro n s k ⟨o, j, ⟨c3, i3, x3, u4⟩, rfl, ho, hj, hc3, rfl⟩ hk
    dsimp only
    by_cases hl : (j : Int) < b
    · rw [decide_eq_true hl, cond_true]
      have h63 : ∀ n : Nat, n ≤ 1000 → n < 2 ^ 63 := fun n hn => by show n < 9223372036854775808; omega
      rw [if_pos (h63 _ (by simp only [List.length_cons, List.length_nil]; omega))]
      refine bind_some' (name_some (c3, i3, x3, ()) hc3) ?_
      rintro ⟨t4, ⟨c4, i4, x4, u5⟩, u6⟩ ⟨ht4, hc4⟩
      have ht4' : t4.length ≤ 10 := ht4
      dsimp only
      rw [if_pos (h63 _ (by simp only [List.length_append, List.length_cons, List.length_nil]; omega))]
      exact hk (b.toNat - (j + 1)) _ (by omega) ⟨_, j + 1, (c4, i4, x4, ()), by rw [wr _ (show -9223372036854775808 ≤ (j : Int) + 1 ∧ (j : Int) + 1 ≤ 9223372036854775807 by omega)]; rfl, by simp only [List.length_append, List.length_cons, List.length_nil]; omega, by omega, hc4, rfl⟩
    · rw [decide_eq_false hl, cond_false]
      exact ⟨_, rfl, by show o.length ≤ 100; omega, hc3⟩
  · rintro ⟨⟨o, u7⟩, ⟨c5, i5, x5, u8⟩, u9⟩ ⟨ho, hc5⟩
    exact ⟨_, rfl, ho, hc5⟩
theorem meant_some (s : List Int × Int × Int × Unit) (h : Cur s) : ∃ r, m_spec_l08Meant s = some r ∧ r.1.length ≤ 100 ∧ Cur r.2.1 := by
  obtain ⟨c, i, x, u⟩ := s
  unfold m_spec_l08Meant
  obtain ⟨b, s1, e, hc⟩ := once_some 4 (by omega) (c, i, x, ()) h
  obtain ⟨c1, i1, x1, u1⟩ := s1
  dsimp only
  rw [e, Option.bind_some]
  dsimp only
  cases b with
  | true =>
    rw [cond_true]
    refine bind_some' (pick_some' _ 10 (c1, i1, x1, ()) (by decide) hc) ?_
    rintro ⟨t, ⟨c2, i2, x2, u2⟩, u3⟩ ⟨ht, hc2⟩
    have ht : t.length ≤ 10 := ht
    exact ⟨_, rfl, by show t.length ≤ 100; omega, hc2⟩
  | false =>
    rw [cond_false]
    refine bind_some' (path_some (c1, i1, x1, ()) hc) ?_
    rintro ⟨t, ⟨c2, i2, x2, u2⟩, u3⟩ ⟨ht, hc2⟩
    exact ⟨_, rfl, ht, hc2⟩
/-- What is still to be shown of l01Text. -/
def TextOk : Prop := ∀ (n : Int) (s : List Int × Int × Int × Unit), 0 ≤ n → n ≤ 100000 → Cur s → ∃ r, m_spec_l01Text n s = some r ∧ r.1.length ≤ n.toNat ∧ Cur r.2.1
theorem pattern_some (s : List Int × Int × Int × Unit) (h : Cur s) : ∃ r, m_spec_l08Pattern s = some r ∧ r.1.length ≤ 100 ∧ Cur r.2.1 := by
  obtain ⟨c, i, x, u⟩ := s
  unfold m_spec_l08Pattern
  obtain ⟨b, s1, e, hb, hc⟩ := below_some 5 (by omega) (c, i, x, ()) h
  obtain ⟨c1, i1, x1, u1⟩ := s1
  obtain ⟨hb1, hb2⟩ := hb (by omega)
  dsimp only
  rw [e, Option.bind_some]
  dsimp only
  rw [wr (1 + b) (by omega)]
  have h63 : ∀ n : Nat, n ≤ 1000 → n < 2 ^ 63 := fun n hn => by show n < 9223372036854775808; omega
  refine bind_some' (Q := fun r => r.1.1.length ≤ 100 ∧ Cur r.2.1) (loopC_some' _ (fun n s => ∃ (o : List UInt8) (j : Nat) (cu : List Int × Int × Int × Unit), s = (((), o, 1 + b, (j : Int), ()), cu, ()) ∧ o.length ≤ 10 * j ∧ (j : Int) ≤ 1 + b ∧ Cur cu ∧ n = (1 + b).toNat - j) _ ?_ _ (1 + b).toNat _ ⟨[], 0, (c1, i1, x1, ()), rfl, by show 0 ≤ _; omega, by omega, hc, rfl⟩ (by omega)) ?_
  · rintro n s k ⟨o, j, ⟨c3, i3, x3, u4⟩, rfl, ho, hj, hc3, rfl⟩ hk
    dsimp only
    by_cases hl : (j : Int) < 1 + b
    · rw [decide_eq_true hl, cond_true]
      refine bind_some' (pick_some' _ 10 (c3, i3, x3, ()) (by decide) hc3) ?_
      rintro ⟨t4, ⟨c4, i4, x4, u5⟩, u6⟩ ⟨ht4, hc4⟩
      have ht4' : t4.length ≤ 10 := ht4
      dsimp only
      rw [if_pos (h63 _ (by omega))]
      exact hk ((1 + b).toNat - (j + 1)) _ (by omega) ⟨_, j + 1, (c4, i4, x4, ()), by rw [wr _ (show -9223372036854775808 ≤ (j : Int) + 1 ∧ (j : Int) + 1 ≤ 9223372036854775807 by omega)]; rfl, by simp only [List.length_append]; omega, by omega, hc4, rfl⟩
    · rw [decide_eq_false hl, cond_false]
      exact ⟨_, rfl, by show o.length ≤ 100; omega, hc3⟩
  · rintro ⟨⟨o, u7⟩, ⟨c5, i5, x5, u8⟩, u9⟩ ⟨ho, hc5⟩
    exact ⟨_, rfl, ho, hc5⟩
theorem any_some (T : TextOk) (s : List Int × Int × Int × Unit) (h : Cur s) : ∃ r, m_spec_l08Any s = some r ∧ r.1.length ≤ 200 ∧ Cur r.2.1 := by
  obtain ⟨c, i, x, u⟩ := s
  unfold m_spec_l08Any
  have h63 : ∀ n : Nat, n ≤ 1000 → n < 2 ^ 63 := fun n hn => by show n < 9223372036854775808; omega
  refine bind_some' (pattern_some (c, i, x, ()) h) ?_
  rintro ⟨t, ⟨c1, i1, x1, u1⟩, u2⟩ ⟨ht, hc⟩
  have ht : t.length ≤ 100 := ht
  obtain ⟨b, s2, e, hb, hc2⟩ := below_some 14 (by omega) (c1, i1, x1, ()) hc
  obtain ⟨c2, i2, x2, u3⟩ := s2
  dsimp only
  rw [e, Option.bind_some]
  dsimp only
  refine bind_some' (Q := fun r => r.1.1.length ≤ 200 ∧ Cur r.2.1) ?_ ?_
  · cases (b == (0 : Int)) with
    | true =>
      rw [cond_true]
      refine bind_some' (pick_some' _ 10 (c2, i2, x2, ()) (by decide) hc2) ?_
      rintro ⟨t4, ⟨c4, i4, x4, u5⟩, u6⟩ ⟨ht4, hc4⟩
      have ht4 : t4.length ≤ 10 := ht4
      exact ⟨_, rfl, by show t4.length ≤ 200; omega, hc4⟩
    | false =>
      rw [cond_false]
      refine bind_some' (Q := fun r => r.1.1.length ≤ 200 ∧ Cur r.2.1) ?_ ?_
      · cases (b == (1 : Int)) with
        | true =>
          rw [cond_true]
          refine bind_some' (T 55 (c2, i2, x2, ()) (by omega) (by omega) hc2) ?_
          rintro ⟨t4, ⟨c4, i4, x4, u5⟩, u6⟩ ⟨ht4, hc4⟩
          have ht4 : t4.length ≤ 55 := ht4
          dsimp only
          rw [if_pos (h63 _ (by omega))]
          exact ⟨_, rfl, by show (t ++ t4).length ≤ 200; rw [List.length_append]; omega, hc4⟩
        | false => rw [cond_false]; exact ⟨_, rfl, by show t.length ≤ 200; omega, hc2⟩
      · rintro ⟨⟨o, u7⟩, ⟨c5, i5, x5, u8⟩, u9⟩ ⟨ho, hc5⟩
        exact ⟨_, rfl, ho, hc5⟩
  · rintro ⟨⟨o, u7⟩, ⟨c5, i5, x5, u8⟩, u9⟩ ⟨ho, hc5⟩
    exact ⟨_, rfl, ho, hc5⟩
theorem drawMatch_some (T : TextOk) (c : List Int) (hc : c.length ≤ 1048576) : ∃ r, m_spec_DrawMatch c = some r ∧ (r.1.1.length ≤ 200 ∧ r.1.2.1.length ≤ 100) := by
  unfold m_spec_DrawMatch
  refine bind_some' (new_some c hc) ?_
  rintro ⟨u0, ⟨c1, i1, x1, u1⟩, u2⟩ hc1
  refine bind_some' (any_some T (c1, i1, x1, ()) hc1) ?_
  rintro ⟨t, ⟨c2, i2, x2, u3⟩, u4⟩ ⟨ht, hc2⟩
  refine bind_some' (meant_some (c2, i2, x2, ()) hc2) ?_
  rintro ⟨t3, ⟨c3, i3, x3, u5⟩, u6⟩ ⟨ht3, hc3⟩
  exact ⟨_, rfl, ht, ht3⟩
def w64 (n : Int) : Int := (n + 9223372036854775808) % 18446744073709551616 - 9223372036854775808
theorem wrap_w64 (x : Int) : IntKind.wrap .i64 x = w64 x := by
  simp [IntKind.wrap, IntKind.signed, IntKind.bits, w64]; omega
def lcg (h : Int) : Int := w64 (w64 (h * 6364136223846793005) + 1442695040888963407)
def gz (h : Int) : Int := 6364136223846793005 * h + 1442695040888963407
def lit (f : Int → Int) : Nat → Int → Int
  | 0, h => h
  | n + 1, h => lit f n (f h)
theorem it_add (f : Int → Int) (m n : Nat) (h : Int) : lit f (m + n) h = lit f n (lit f m h) := by
  induction m generalizing h with
  | zero => rw [Nat.zero_add]; rfl
  | succ m ih => rw [Nat.succ_add]; exact ih (f h)
def uz : Nat → Int
  | 0 => 1591034055961698251
  | k + 1 => uz k + 2 * 2 ^ k * (uz k * uz k)
def vz : Nat → Int
  | 0 => 721347520444481703
  | k + 1 => vz k + (2 * vz k + 1) * (2 ^ k * uz k)
theorem gz_pow (k : Nat) : ∀ h, lit gz (2 ^ k) h = (1 + 4 * 2 ^ k * uz k) * h + 2 ^ k * (2 * vz k + 1) := by
  induction k with
  | zero => intro h; show gz h = _; unfold gz uz vz; omega
  | succ k ih =>
    intro h
    have e : 2 ^ (k + 1) = 2 ^ k + 2 ^ k := by rw [Nat.pow_succ]; omega
    rw [e, it_add, ih, ih]
    have e2 : (2 : Int) ^ (k + 1) = 2 * 2 ^ k := by rw [Int.pow_succ]; omega
    rw [e2]
    simp only [uz, vz]
    generalize (2 : Int) ^ k = p
    generalize uz k = u
    generalize vz k = v
    grind
theorem gz_reach (h t : Int) (k : Nat) : ∃ n, n < 2 ^ k ∧ ∃ q : Int, lit gz n h = t + 2 ^ k * q := by
  induction k with
  | zero => exact ⟨0, by decide, h - t, by simp [lit]; omega⟩
  | succ k ih =>
    obtain ⟨n, hn, q, hq⟩ := ih
    have e3 : 2 ^ (k + 1) = 2 ^ k + 2 ^ k := by rw [Nat.pow_succ]; omega
    have e2 : (2 : Int) ^ (k + 1) = 2 * 2 ^ k := by rw [Int.pow_succ]; omega
    rcases Int.emod_two_eq q with h0 | h1
    · refine ⟨n, by omega, q / 2, ?_⟩
      rw [hq, e2]
      have : q = 2 * (q / 2) := by omega
      generalize (2 : Int) ^ k = p
      generalize q / 2 = z at *
      subst this
      grind
    · refine ⟨n + 2 ^ k, by omega, ?_⟩
      rw [it_add, gz_pow, hq, e2]
      have : q = 2 * (q / 2) + 1 := by omega
      generalize (2 : Int) ^ k = p
      generalize q / 2 = z at *
      generalize uz k = u
      generalize vz k = v
      subst this
      exact ⟨z + 1 + v + 2 * u * (t + p * (2 * z + 1)), by grind⟩
theorem w64_mod (x : Int) : ∃ q, w64 x = x + 18446744073709551616 * q := by
  unfold w64
  exact ⟨-((x + 9223372036854775808) / 18446744073709551616), by omega⟩
theorem w64_congr {x y q : Int} (h : x = y + 18446744073709551616 * q) : w64 x = w64 y := by
  unfold w64; omega
theorem w64_idem (x : Int) : w64 (w64 x) = w64 x := by unfold w64; omega
theorem nx_gz (h : Int) : lcg h = w64 (gz h) := by
  unfold lcg gz
  obtain ⟨q, hq⟩ := w64_mod (h * 6364136223846793005)
  rw [hq]
  exact w64_congr (q := q) (by omega)
theorem gz_wrap (h : Int) : w64 (gz (w64 h)) = w64 (gz h) := by
  obtain ⟨q, hq⟩ := w64_mod h
  exact w64_congr (q := 6364136223846793005 * q) (by rw [hq]; unfold gz; omega)
theorem it_nx (n : Nat) : ∀ h, w64 (lit lcg n h) = w64 (lit gz n h) := by
  have key : ∀ n h, w64 (lit gz n (w64 h)) = w64 (lit gz n h) := by
    intro n
    induction n with
    | zero => intro h; exact w64_idem h
    | succ n ih => intro h; show w64 (lit gz n (gz (w64 h))) = w64 (lit gz n (gz h)); rw [← ih, gz_wrap, ih]
  induction n with
  | zero => intro h; rfl
  | succ n ih =>
    intro h
    show w64 (lit lcg n (lcg h)) = w64 (lit gz n (gz h))
    rw [ih, nx_gz, key]
/-- From every state the sequence comes to every state. -/
theorem nx_reach (h t : Int) (ht : w64 t = t) : ∃ n, n < 18446744073709551616 ∧ lit lcg (n + 1) h = t := by
  obtain ⟨n, hn, q, hq⟩ := gz_reach (gz h) t 64
  refine ⟨n, hn, ?_⟩
  have last : ∀ n h, lit lcg (n + 1) h = lcg (lit lcg n h) := by
    intro n
    induction n with
    | zero => intro h; rfl
    | succ n ih => intro h; exact ih (lcg h)
  have w : w64 (lit lcg (n + 1) h) = lit lcg (n + 1) h := by
    rw [last]; unfold lcg; exact w64_idem _
  rw [← w, it_nx]
  show w64 (lit gz n (gz h)) = t
  rw [hq, ← ht]
  rw [ht]
  conv => rhs; rw [← ht]
  have e : (2 : Int) ^ 64 = 18446744073709551616 := by decide
  rw [e]
  exact w64_congr (q := q) rfl
def lbv (h : Int) : Int := bitsOf BinOp.and IntKind.i64 (bitsOf BinOp.xor IntKind.i64 (Int.fdiv (lcg h) ((2 : Int) ^ min (Int.toNat (33 : Int)) (IntKind.bits IntKind.i64))) (Int.fdiv (lcg h) ((2 : Int) ^ min (Int.toNat (45 : Int)) (IntKind.bits IntKind.i64)))) (255 : Int)
theorem lsix : ∀ d : Nat, d < 6 → Int.tmod (lbv (lit lcg d 33)) 5 ≠ 1 ∧ Int.tmod (lbv (lit lcg d 33)) 5 ≠ 2 := by
  decide +kernel
theorem byte_mv (c : List Int) (i h : Int) (hc : Cur (c, i, h, ())) : ∃ b i' h', m_spec_l01Byte (c, i, h, ()) = some (b, (c, i', h', ()), ()) ∧ 0 ≤ b ∧ b ≤ 255 ∧ Cur (c, i', h', ()) ∧ (i < (c.length : Int) → i < i') ∧ (i = (c.length : Int) → i' = (c.length : Int) ∧ b = lbv h ∧ h' = lcg h) := by
  obtain ⟨h1, h2, h3⟩ := hc
  simp only at h1 h2 h3
  unfold m_spec_l01Byte
  rw [if_pos (by decide), if_pos (by decide)]
  dsimp only
  by_cases hl : i < (c.length : Int)
  · rw [decide_eq_true hl, cond_true, if_pos ⟨h1, hl⟩]
    refine ⟨_, _, _, rfl, (and255 _).1, (and255 _).2, ⟨?_, ?_, h3⟩, ?_, ?_⟩
    · show 0 ≤ IntKind.wrap .i64 (i + 1); rw [wr _ (by omega)]; omega
    · show IntKind.wrap .i64 (i + 1) ≤ _; rw [wr _ (by omega)]; show i + 1 ≤ (c.length : Int); omega
    · intro _; show i < IntKind.wrap .i64 (i + 1); rw [wr (i + 1) (by omega)]; omega
    · intro _; omega
  · rw [decide_eq_false hl, cond_false]
    refine ⟨_, _, _, rfl, (and255 _).1, (and255 _).2, ⟨h1, h2, h3⟩, fun h => absurd h hl, fun he => ⟨he, ?_, ?_⟩⟩
    · unfold lbv lcg; simp only [← wrap_w64]
    · unfold lcg; simp only [← wrap_w64]
theorem below_mv (n : Int) (hn : 0 < n) (c : List Int) (i h : Int) (hc : Cur (c, i, h, ())) : ∃ b i' h', m_spec_l01Below n (c, i, h, ()) = some (b, (c, i', h', ()), ()) ∧ 0 ≤ b ∧ b < n ∧ Cur (c, i', h', ()) ∧ (i < (c.length : Int) → i < i') ∧ (i = (c.length : Int) → i' = (c.length : Int) ∧ (n ≤ 256 → b = Int.tmod (lbv h) n ∧ h' = lcg h) ∧ (256 < n → h' = lit lcg 4 h)) := by
  unfold m_spec_l01Below
  rw [decide_eq_false (show ¬ n ≤ 0 by omega), cond_false]
  by_cases h256 : n ≤ 256
  · rw [decide_eq_true h256, cond_true]
    obtain ⟨b, i1, x1, e, hb1, hb2, hc1, m1, f1⟩ := byte_mv c i h hc
    dsimp only
    rw [e, Option.bind_some]
    dsimp only
    rw [if_pos (by omega)]
    refine ⟨_, _, _, rfl, Int.tmod_nonneg _ hb1, Int.tmod_lt_of_pos _ hn, hc1, m1, fun he => ?_⟩
    obtain ⟨g1, g2, g3⟩ := f1 he
    exact ⟨g1, fun _ => ⟨by rw [g2], g3⟩, fun h => by omega⟩
  · rw [decide_eq_false h256, cond_false]
    obtain ⟨b1, i1, x1, e1, hb1, hb1', hc1, m1, f1⟩ := byte_mv c i h hc
    obtain ⟨b2, i2, x2, e2, hb2, hb2', hc2, m2, f2⟩ := byte_mv c i1 x1 hc1
    obtain ⟨b3, i3, x3, e3, hb3, hb3', hc3, m3, f3⟩ := byte_mv c i2 x2 hc2
    obtain ⟨b4, i4, x4, e4, hb4, hb4', hc4, m4, f4⟩ := byte_mv c i3 x3 hc3
    dsimp only
    rw [e1, Option.bind_some]
    dsimp only
    rw [e2, Option.bind_some]
    dsimp only
    rw [e3, Option.bind_some]
    dsimp only
    rw [e4, Option.bind_some]
    dsimp only
    rw [if_pos (by omega)]
    have z : 0 ≤ IntKind.wrap IntKind.i64 (IntKind.wrap IntKind.i64 (IntKind.wrap IntKind.i64 (IntKind.wrap IntKind.i64 (b1 * (16777216 : Int)) + IntKind.wrap IntKind.i64 (b2 * (65536 : Int))) + IntKind.wrap IntKind.i64 (b3 * (256 : Int))) + b4) := by
      rw [wr (b1 * 16777216) (by omega), wr (b2 * 65536) (by omega), wr (b3 * 256) (by omega), wr (b1 * 16777216 + b2 * 65536) (by omega), wr (b1 * 16777216 + b2 * 65536 + b3 * 256) (by omega), wr _ (by omega)]
      omega
    refine ⟨_, _, _, rfl, Int.tmod_nonneg _ z, Int.tmod_lt_of_pos _ hn, hc4, fun hl => ?_, fun he => ?_⟩
    · have := m1 hl
      have k2 : i1 ≤ i2 := by
        by_cases q : i1 < (c.length : Int)
        · have := m2 q; omega
        · have q2 : i1 ≤ (c.length : Int) := hc1.2.1; have := (f2 (by omega)).1; omega
      have k3 : i2 ≤ i3 := by
        by_cases q : i2 < (c.length : Int)
        · have := m3 q; omega
        · have q2 : i2 ≤ (c.length : Int) := hc2.2.1; have := (f3 (by omega)).1; omega
      have k4 : i3 ≤ i4 := by
        by_cases q : i3 < (c.length : Int)
        · have := m4 q; omega
        · have q2 : i3 ≤ (c.length : Int) := hc3.2.1; have := (f4 (by omega)).1; omega
      omega
    · obtain ⟨g1, _, g1'⟩ := f1 he
      obtain ⟨g2, _, g2'⟩ := f2 g1
      obtain ⟨g3, _, g3'⟩ := f3 g2
      obtain ⟨g4, _, g4'⟩ := f4 g3
      exact ⟨g4, fun h => absurd h h256, fun _ => by rw [g4', g3', g2', g1']; rfl⟩
theorem below_keep {n : Int} {c : List Int} {i h : Int} {b i' h' : Int} (hc : Cur (c, i, h, ())) (m : i < (c.length : Int) → i < i') (f : i = (c.length : Int) → i' = (c.length : Int) ∧ (n ≤ 256 → b = Int.tmod (lbv h) n ∧ h' = lcg h) ∧ (256 < n → h' = lit lcg 4 h)) : i ≤ i' := by
  by_cases q : i < (c.length : Int)
  · have := m q; omega
  · have := hc.2.1; simp only at this; have := (f (by omega)).1; omega
/-- One round without a byte more: the cursor is behind where lit was; at its end the number has moved by one, three or lsix. -/
def NextP (c : List Int) (i h i' h' : Int) : Prop :=
  (i < (c.length : Int) → i < i') ∧ (i = (c.length : Int) → i' = (c.length : Int) ∧ (Int.tmod (lbv h) 5 = 1 ∨ Int.tmod (lbv h) 5 = 2) ∧ (h' = lit lcg 1 h ∨ h' = lit lcg 3 h ∨ h' = lit lcg 6 h))
abbrev TS := (Unit × Int × Unit × Unit) × (List Int × Int × Int × Unit) × List Int × Unit
def BR (n : Int) (out : List Int) (c : List Int) (i h : Int) (r : TS) : Prop :=
  ∃ out' i' h', r = (((), n, (), ()), (c, i', h', ()), out', ()) ∧ Cur (c, i', h', ()) ∧ ((out.length < out'.length ∧ out'.length ≤ out.length + 30) ∨ (out' = out ∧ NextP c i h i' h'))
def Rem (q : Nat) (h : Int) : Prop := ∃ (N p : Nat) (h0 : Int), lit lcg (N + 1) h0 = 33 ∧ h = lit lcg p h0 ∧ p + q = N + 6
def Okb (B : Nat) (c : List Int) (i h : Int) : Prop := (i < (c.length : Int) → B = 18446744073709551622 + (c.length - i.toNat)) ∧ (i = (c.length : Int) → Rem B h ∧ B < 18446744073709551622) ∧ B < 18446744073711648768
theorem okb_enter (c : List Int) (i h : Int) (hc : Cur (c, i, h, ())) : ∃ B, Okb B c i h := by
  obtain ⟨h1, h2, h3⟩ := hc
  simp only at h1 h2 h3
  by_cases hl : i < (c.length : Int)
  · exact ⟨18446744073709551622 + (c.length - i.toNat), fun _ => rfl, fun h => by omega, by omega⟩
  · obtain ⟨N, hN, e⟩ := nx_reach h 33 (by unfold w64; omega)
    exact ⟨N + 6, fun h => absurd h hl, fun _ => ⟨⟨N, 0, h, e, rfl, by omega⟩, by omega⟩, by omega⟩
theorem okb_step {c : List Int} {i h i' h' : Int} {B : Nat} (hc' : Cur (c, i', h', ())) (hB : Okb B c i h) (hc : Cur (c, i, h, ())) (hn : NextP c i h i' h') : ∃ B', B' < B ∧ Okb B' c i' h' := by
  obtain ⟨b1, b2, b3⟩ := hB
  obtain ⟨h1, h2, h3⟩ := hc
  have hcc := hc'
  obtain ⟨g1, g2, g3⟩ := hc'
  simp only at h1 h2 h3 g1 g2
  by_cases hl : i < (c.length : Int)
  · have hm := hn.1 hl
    have hb := b1 hl
    by_cases hl' : i' < (c.length : Int)
    · exact ⟨18446744073709551622 + (c.length - i'.toNat), by omega, fun _ => rfl, fun h => by omega, by omega⟩
    · obtain ⟨B', hB'⟩ := okb_enter c i' h' hcc
      exact ⟨B', by have := (hB'.2.1 (by omega)).2; omega, hB'⟩
  · have he : i = (c.length : Int) := by omega
    obtain ⟨e', hb, hh⟩ := hn.2 he
    obtain ⟨⟨N, p, h0, r1, r2, r3⟩, b4⟩ := b2 he
    have hp : p ≤ N := by
      apply Classical.byContradiction
      intro hp
      have e : h = lit lcg (p - (N + 1)) 33 := by
        rw [r2]
        conv => lhs; rw [show p = (N + 1) + (p - (N + 1)) by omega, it_add, r1]
      have := lsix (p - (N + 1)) (by omega)
      rw [← e] at this
      rcases hb with hb | hb
      · exact this.1 hb
      · exact this.2 hb
    rcases hh with hh | hh | hh
    · exact ⟨B - 1, by omega, fun h => by omega, fun _ => ⟨⟨N, p + 1, h0, r1, by rw [hh, it_add, ← r2], by omega⟩, by omega⟩, by omega⟩
    · exact ⟨B - 3, by omega, fun h => by omega, fun _ => ⟨⟨N, p + 3, h0, r1, by rw [hh, it_add, ← r2], by omega⟩, by omega⟩, by omega⟩
    · exact ⟨B - 6, by omega, fun h => by omega, fun _ => ⟨⟨N, p + 6, h0, r1, by rw [hh, it_add, ← r2], by omega⟩, by omega⟩, by omega⟩
theorem big100 {m : Nat} (h : m < 1267650600228229401496703205376) : m < 2 ^ 100 := h
theorem text_some : TextOk := by
  rintro n ⟨c, i, x, u⟩ h0 hn hc
  unfold m_spec_l01Text
  obtain ⟨B0, hB0⟩ := okb_enter c i x hc
  refine bind_some' (Q := fun r => r.1.1 = n ∧ n.toNat ≤ r.2.2.1.length ∧ Cur r.2.1) (loopC_some' _ (fun m s => ∃ (out : List Int) (i x : Int), s = (((), n, (), ()), (c, i, x, ()), out, ()) ∧ Cur (c, i, x, ()) ∧ out.length ≤ n.toNat + 30 ∧ ∃ B, Okb B c i x ∧ m = (n.toNat - out.length) * 18446744073711648768 + B) _ ?_ _ ((n.toNat - 0) * 18446744073711648768 + B0) _ ⟨[], i, x, rfl, hc, by show 0 ≤ _; omega, B0, hB0, rfl⟩ (big100 (by have := hB0.2.2; omega))) ?_
  · rintro m s k ⟨out, i, x, rfl, hc, hl, B, hB, rfl⟩ hk
    dsimp only
    by_cases hlt : (out.length : Int) < n
    · rw [decide_eq_true hlt, cond_true]
      obtain ⟨r, i1, x1, e1, hr0, hr5, hc1, m1, f1⟩ := below_mv 5 (by omega) c i x hc
      rw [e1, Option.bind_some]
      dsimp only
      refine bind_some' (Q := BR n out c i x) ?_ ?_
      · by_cases q0 : r = 0
        · rw [show (r == (0 : Int)) = true by simp [q0], cond_true]
          obtain ⟨b, i2, x2, e2, hb0, hb5, hc2, m2, f2⟩ := byte_mv c i1 x1 hc1
          rw [e2, Option.bind_some]
          dsimp only
          rw [if_pos (by simp only [List.length_cons, List.length_nil]; omega)]
          exact ⟨_, rfl, _, _, _, rfl, hc2, .inl (by simp only [List.length_append, List.length_cons, List.length_nil]; omega)⟩
        · rw [show (r == (0 : Int)) = false by simp [q0], cond_false]
          refine bind_some' (Q := BR n out c i x) ?_ (by rintro _ ⟨o, i', x', rfl, z⟩; exact ⟨_, rfl, o, i', x', rfl, z⟩)
          by_cases q1 : r = 1
          · rw [show (r == (1 : Int)) = true by simp [q1], cond_true]
            obtain ⟨kk, i2, x2, e2, hb0, hb5, hc2, m2, f2⟩ := below_mv 9 (by omega) c i1 x1 hc1
            rw [e2, Option.bind_some]
            dsimp only
            obtain ⟨y, i3, x3, e3, hy0, hy5, hc3, m3, f3⟩ := below_mv 4 (by omega) c i2 x2 hc2
            rw [e3, Option.bind_some]
            dsimp only
            have k2 := below_keep hc1 m2 f2
            have k3 := below_keep hc2 m3 f3
            refine bind_some' (Q := BR n out c i x) (loopC_some' _ (fun m s => ∃ (o : List Int) (j : Nat), s = (((), n, (), kk, _, (j : Int), ()), (c, i3, x3, ()), o, ()) ∧ o.length = out.length + j ∧ (j = 0 → o = out) ∧ (j : Int) ≤ kk ∧ m = kk.toNat - j) _ ?_ _ kk.toNat _ ⟨out, 0, rfl, by omega, fun _ => rfl, by omega, rfl⟩ (big100 (by omega))) (by rintro _ ⟨o, i', x', rfl, z⟩; exact ⟨_, rfl, o, i', x', rfl, z⟩)
            rintro m s k ⟨o, j, rfl, ho, hz, hj, rfl⟩ hk
            dsimp only
            by_cases hjl : (j : Int) < kk
            · rw [decide_eq_true hjl, cond_true, if_pos (by simp only [List.length_cons, List.length_nil]; omega)]
              exact hk (kk.toNat - (j + 1)) _ (by omega) ⟨_, j + 1, by rw [wr _ (show -9223372036854775808 ≤ (j : Int) + 1 ∧ (j : Int) + 1 ≤ 9223372036854775807 by omega)]; rfl, by simp only [List.length_append, List.length_cons, List.length_nil]; omega, fun h => by omega, by omega, rfl⟩
            · rw [decide_eq_false hjl, cond_false]
              refine ⟨_, rfl, o, i3, x3, rfl, hc3, ?_⟩
              by_cases jz : j = 0
              · refine .inr ⟨hz jz, fun hl => ?_, fun he => ?_⟩
                · have := m1 hl; omega
                · obtain ⟨g1, g2, _⟩ := f1 he
                  obtain ⟨g3, g4, _⟩ := f2 g1
                  obtain ⟨g5, g6, _⟩ := f3 g3
                  exact ⟨g5, .inl (by rw [← (g2 (by omega)).1]; exact q1), .inr (.inl (by rw [(g6 (by omega)).2, (g4 (by omega)).2, (g2 (by omega)).2]; rfl))⟩
              · exact .inl (by omega)
          · rw [show (r == (1 : Int)) = false by simp [q1], cond_false]
            refine bind_some' (Q := BR n out c i x) ?_ (by rintro _ ⟨o, i', x', rfl, z⟩; exact ⟨_, rfl, o, i', x', rfl, z⟩)
            by_cases q2 : r = 2
            · rw [show (r == (2 : Int)) = true by simp [q2], cond_true]
              refine bind_some' (Q := BR n out c i x) ?_ (by rintro _ ⟨o, i', x', rfl, z⟩; exact ⟨_, rfl, o, i', x', rfl, z⟩)
              by_cases q3 : (out.length : Int) > 0
              · rw [decide_eq_true q3, cond_true]
                obtain ⟨f, i2, x2, e2, hb0, hb5, hc2, m2, f2⟩ := below_mv (out.length : Int) q3 c i1 x1 hc1
                rw [e2, Option.bind_some]
                dsimp only
                obtain ⟨kk, i3, x3, e3, hy0, hy5, hc3, m3, f3⟩ := below_mv 20 (by omega) c i2 x2 hc2
                rw [e3, Option.bind_some]
                dsimp only
                have k2 := below_keep hc1 m2 f2
                have k3 := below_keep hc2 m3 f3
                refine bind_some' (Q := BR n out c i x) (loopC_some' _ (fun m s => ∃ (o : List Int) (j : Nat), s = (((), n, (), f, kk, (j : Int), ()), (c, i3, x3, ()), o, ()) ∧ o.length = out.length + j ∧ (j = 0 → o = out) ∧ (j : Int) ≤ kk ∧ m = kk.toNat - j) _ ?_ _ kk.toNat _ ⟨out, 0, rfl, by omega, fun _ => rfl, by omega, rfl⟩ (big100 (by omega))) (by rintro _ ⟨o, i', x', rfl, z⟩; exact ⟨_, rfl, o, i', x', rfl, z⟩)
                rintro m s k ⟨o, j, rfl, ho, hz, hj, rfl⟩ hk
                dsimp only
                have hw : IntKind.wrap IntKind.i64 (f + (j : Int)) = f + (j : Int) := wr _ (by omega)
                by_cases hjl : (j : Int) < kk
                · rw [decide_eq_true hjl, cond_true, Option.bind_some]
                  dsimp only
                  rw [hw, decide_eq_true (show f + (j : Int) < (o.length : Int) by omega), cond_true, if_pos (by omega), if_pos (by omega), if_pos (by simp only [List.length_cons, List.length_nil]; omega)]
                  exact hk (kk.toNat - (j + 1)) _ (by omega) ⟨_, j + 1, by rw [wr _ (show -9223372036854775808 ≤ (j : Int) + 1 ∧ (j : Int) + 1 ≤ 9223372036854775807 by omega)]; rfl, by simp only [List.length_append, List.length_cons, List.length_nil]; omega, fun h => by omega, by omega, rfl⟩
                · rw [decide_eq_false hjl, cond_false, Option.bind_some]
                  dsimp only
                  rw [cond_false]
                  refine ⟨_, rfl, o, i3, x3, rfl, hc3, ?_⟩
                  by_cases jz : j = 0
                  · refine .inr ⟨hz jz, fun hl => ?_, fun he => ?_⟩
                    · have := m1 hl; omega
                    · obtain ⟨g1, g2, _⟩ := f1 he
                      obtain ⟨g3, g4, g4'⟩ := f2 g1
                      obtain ⟨g5, g6, _⟩ := f3 g3
                      refine ⟨g5, .inr (by rw [← (g2 (by omega)).1]; exact q2), ?_⟩
                      by_cases big : (out.length : Int) ≤ 256
                      · exact .inr (.inl (by rw [(g6 (by omega)).2, (g4 big).2, (g2 (by omega)).2]; rfl))
                      · exact .inr (.inr (by rw [(g6 (by omega)).2, g4' (by omega), (g2 (by omega)).2]; rfl))
                  · exact .inl (by omega)
              · rw [decide_eq_false q3, cond_false]
                refine ⟨_, rfl, out, i1, x1, rfl, hc1, .inr ⟨rfl, m1, fun he => ?_⟩⟩
                obtain ⟨g1, g2, _⟩ := f1 he
                exact ⟨g1, .inr (by rw [← (g2 (by omega)).1]; exact q2), .inl (by rw [(g2 (by omega)).2]; rfl)⟩
            · rw [show (r == (2 : Int)) = false by simp [q2], cond_false]
              obtain ⟨b, i2, x2, e2, hb0, hb5, hc2, m2, f2⟩ := below_mv 26 (by omega) c i1 x1 hc1
              rw [e2, Option.bind_some]
              dsimp only
              rw [if_pos (by simp only [List.length_cons, List.length_nil]; omega)]
              exact ⟨_, rfl, _, _, _, rfl, hc2, .inl (by simp only [List.length_append, List.length_cons, List.length_nil]; omega)⟩
      · rintro _ ⟨o, i', x', rfl, hc', z⟩
        dsimp only
        rcases z with ⟨z1, z2⟩ | ⟨rfl, z⟩
        · obtain ⟨B', hB'⟩ := okb_enter c i' x' hc'
          refine hk _ _ ?_ ⟨o, i', x', rfl, hc', by omega, B', hB', rfl⟩
          have := hB'.2.2
          omega
        · obtain ⟨B', hlt', hB'⟩ := okb_step hc' hB hc z
          exact hk _ _ (by omega) ⟨o, i', x', rfl, hc', hl, B', hB', rfl⟩
    · rw [decide_eq_false hlt, cond_false]
      exact ⟨_, rfl, rfl, by show n.toNat ≤ out.length; omega, hc⟩
  · rintro ⟨⟨n', u1⟩, ⟨c1, i1, x1, u2⟩, o, u3⟩ ⟨hn', ho, hc'⟩
    have hn' : n' = n := hn'
    subst hn'
    have ho : n'.toNat ≤ o.length := ho
    dsimp only
    rw [if_pos (by omega)]
    refine ⟨_, rfl, ?_, hc'⟩
    simp only [List.length_map, List.length_drop, List.length_take]
    omega
def quoteV (s : List UInt8) : List UInt8 := s.flatMap (fun b => if wildB b = true then [92, b] else [b])
def intsV (s : List UInt8) : List Int := s.map (fun b => (b.toNat : Int))
theorem str_ints (s : List UInt8) : strOf (intsV s) = s := by
  unfold strOf intsV
  rw [List.map_map]
  refine (List.map_congr_left (fun b _ => ?_)).trans (List.map_id _)
  simp
theorem ints_app (a b : List UInt8) : intsV (a ++ b) = intsV a ++ intsV b := by unfold intsV; rw [List.map_append]
theorem quote_len : ∀ s : List UInt8, s.length ≤ (quoteV s).length ∧ (quoteV s).length ≤ 2 * s.length
  | [] => by simp [quoteV]
  | b :: s => by
    have h := quote_len s
    have e : quoteV (b :: s) = (if wildB b = true then [92, b] else [b]) ++ quoteV s := rfl
    rw [e, List.length_append, List.length_cons]
    split <;> simp <;> omega
theorem quote_snoc (s : List UInt8) (b : UInt8) : quoteV (s ++ [b]) = quoteV s ++ (if wildB b = true then [92, b] else [b]) := by
  unfold quoteV; rw [List.flatMap_append]; simp
theorem index_wild (b : UInt8) : m_strings_IndexByte [42, 63, 91, 92] (b.toNat : Int) = some (Go.Lib.indexByte [42, 63, 91, 92] b, ()) := by
  unfold m_strings_IndexByte m_stringslite_IndexByte m_bytealg_IndexByteString
  simp
theorem wild_ge (b : UInt8) : decide (Go.Lib.indexByte [42, 63, 91, 92] b ≥ 0) = wildB b := by
  obtain ⟨n, hn⟩ := byte_of b
  subst hn
  have : ∀ k : Fin 256, decide (Go.Lib.indexByte [42, 63, 91, 92] (UInt8.ofNat k.val) ≥ 0) = wildB (UInt8.ofNat k.val) := by decide +kernel
  exact this n
theorem writeB (x : Int) (l : List Int) (h : l.length ≤ 1000000) : m_strings_Builder_WriteByte x () l = some ((), (), l ++ [x], ()) := by
  unfold m_strings_Builder_WriteByte m_strings_Builder_copyCheck
  rw [Option.bind_some, if_pos (by simp; omega)]
theorem take_snoc' {s : List UInt8} {i : Nat} (h : i < s.length) : s.take (i + 1) = s.take i ++ [s.getD i 0] := by
  rw [List.take_succ_eq_append_getElem h, List.getD_eq_getElem?_getD, List.getElem?_eq_getElem h]; rfl
theorem impl_quote_eq (s : List UInt8) (hs : s.length ≤ 100000) : m_impl_Quote s = some (quoteV s, ()) := by
  unfold m_impl_Quote
  refine bind_of (x := some (((), ()), (), intsV (quoteV s), ())) ?_ ?_
  · refine (loopC_inv _ (fun n t => ∃ i : Nat, t = ((s, (), (s.length : Int), (i : Int), ()), (), intsV (quoteV (s.take i)), ()) ∧ i ≤ s.length ∧ n = s.length - i)
          (fun t => some (((), ()), (), intsV (quoteV s), ())) ?_ _ s.length _ ⟨0, rfl, by omega, rfl⟩ (by omega))
    rintro n t k ⟨i, rfl, hi, rfl⟩ hk
    dsimp only
    by_cases hl : i < s.length
    · have hx : 0 ≤ (i : Int) ∧ (i : Int) < (s.length : Int) := by omega
      have hq := quote_len (s.take i)
      rw [List.length_take] at hq
      have hlen : (intsV (quoteV (s.take i))).length ≤ 200000 := by
        unfold intsV; rw [List.length_map]; omega
      rw [decide_eq_true (by omega), cond_true, if_pos hx, Int.toNat_natCast, index_wild, Option.bind_some]
      dsimp only
      rw [wild_ge]
      have hl1 : (intsV (quoteV (s.take i)) ++ [92]).length ≤ 1000000 := by rw [List.length_append]; show _ + 1 ≤ _; omega
      have hstep : intsV (quoteV (s.take (i + 1))) = (bif wildB (s.getD i 0) then intsV (quoteV (s.take i)) ++ [92] else intsV (quoteV (s.take i))) ++ [(((s.getD i 0).toNat : Nat) : Int)] := by
        rw [take_snoc' hl, quote_snoc, ints_app]
        cases wildB (s.getD i 0) with
        | true => rw [if_pos rfl, cond_true, List.append_assoc]; rfl
        | false => rw [if_neg (by decide), cond_false]; rfl
      refine bind_of (x := some ((s, (), (i : Int), (s.length : Int), (i : Int), ()), (), (bif wildB (s.getD i 0) then intsV (quoteV (s.take i)) ++ [92] else intsV (quoteV (s.take i))), ())) ?_ ?_
      · cases wildB (s.getD i 0) with
        | true => rw [cond_true, cond_true, writeB _ _ (by omega), Option.bind_some]
        | false => rfl
      · rw [Option.bind_some]
        dsimp only
        rw [if_pos hx, Int.toNat_natCast, writeB _ _ (by cases wildB (s.getD i 0) with | true => exact hl1 | false => show (intsV (quoteV (s.take i))).length ≤ _; omega), Option.bind_some]
        dsimp only
        rw [← hstep, wr1 _ (by omega)]
        exact hk (s.length - (i + 1)) _ (by omega) ⟨i + 1, rfl, by omega, rfl⟩
    · obtain rfl : i = s.length := by omega
      rw [decide_eq_false (by omega), cond_false, List.take_length]
  · rw [Option.bind_some]
    dsimp only
    unfold m_strings_Builder_String
    have := quote_len s
    rw [if_pos (by unfold intsV; rw [List.length_map]; omega), Option.bind_some, str_ints]
theorem pieces_quote : ∀ s : List UInt8, pieces (quoteV s) = some (s.map (fun b => Pc.byte b.toNat))
  | [] => rfl
  | b :: s => by
    have ih := pieces_quote s
    have e : quoteV (b :: s) = (if wildB b = true then [92, b] else [b]) ++ quoteV s := rfl
    rw [e]
    cases hw : wildB b with
    | true =>
      rw [if_pos rfl]
      have h1 : pc1 (92 :: b :: quoteV s) = some (.byte b.toNat, 2) := by
        unfold pc1
        simp [by8]
      show pieces (92 :: b :: quoteV s) = _
      rw [pieces_some (by simp) h1]
      show Option.map _ (pieces (quoteV s)) = _
      rw [ih]; rfl
    | false =>
      rw [if_neg (by decide)]
      have hb : b.toNat ≠ 42 ∧ b.toNat ≠ 63 ∧ b.toNat ≠ 91 ∧ b.toNat ≠ 92 := by
        unfold wildB at hw
        simp only [Bool.or_eq_false_iff, beq_eq_false_iff_ne] at hw
        omega
      have hb42 : b ≠ 42 := fun h => hb.1 (by rw [h]; rfl)
      have h1 : pc1 (b :: quoteV s) = some (.byte b.toNat, 1) := by
        unfold pc1
        simp [by8, hb, hb42]
      show pieces (b :: quoteV s) = _
      rw [pieces_some (by simp) h1]
      show Option.map _ (pieces (quoteV s)) = _
      rw [ih]; rfl
theorem quote_plain : ∀ s : List UInt8, s.all (fun b => !wildB b) = true → quoteV s = s
  | [], _ => rfl
  | b :: s, h => by
    rw [List.all_cons, Bool.and_eq_true] at h
    have e : quoteV (b :: s) = (if wildB b = true then [92, b] else [b]) ++ quoteV s := rfl
    rw [e, quote_plain s h.2, if_neg (by cases hw : wildB b with | true => rw [hw] at h; simp at h | false => decide)]; rfl
theorem mean_bytes : ∀ (s t : List UInt8), mean (s.map (fun b => Pc.byte b.toNat)) t ↔ t = s
  | [], t => Iff.rfl
  | b :: s, t => by
    rw [List.map_cons]
    unfold mean
    rw [if_neg (by rintro ⟨⟩)]
    constructor
    · rintro ⟨x, v, rfl, hx, hv⟩
      rw [(mean_bytes s v).1 hv]
      have : x.toNat = b.toNat := eq_of_beq hx
      rw [UInt8.toNat_inj.1 this]
    · rintro rfl
      exact ⟨b, s, rfl, by show (b.toNat == b.toNat) = true; simp, (mean_bytes s s).2 rfl⟩
theorem match_quote {q s : List UInt8} (hq : 1 ≤ q.length ∧ q.length ≤ 60) (h : pieces q = some (s.map (fun b => Pc.byte b.toNat))) (t : List UInt8) : matchB q t = (decide (t.length ≤ 200) && (t == s)) := by
  unfold matchB
  rw [if_pos hq, h]
  dsimp only
  congr 1
  rw [Bool.eq_iff_iff, matchP_iff, mean_bytes, beq_iff_eq]
theorem mean_star1 (x : Nat) (t : List UInt8) : mean [Pc.star x] t ↔ ∀ b ∈ t, b.toNat ≠ 47 := by
  unfold mean
  rw [if_pos (by rfl)]
  constructor
  · rintro ⟨u, v, rfl, h, hv⟩ b hb
    have hv' : v = [] := hv
    subst hv'
    rw [List.append_nil] at hb
    have := h b hb
    have h2 : (b.toNat != 47) = true := this
    simpa using h2
  · intro h
    refine ⟨t, [], (List.append_nil t).symm, fun b hb => ?_, rfl⟩
    show (b.toNat != 47) = true
    simpa using h b hb
theorem mean_stars1 (x : Nat) (t : List UInt8) : mean [Pc.stars x] t := by
  unfold mean
  rw [if_pos (by rfl)]
  exact ⟨t, [], (List.append_nil t).symm, fun b _ => rfl, rfl⟩
theorem match_star (t : List UInt8) (h : t.length ≤ 200) : matchB [42] t = t.all (fun b => !(b.toNat == 47)) := by
  have hp : pieces [42] = some [.star 42] := rfl
  unfold matchB
  rw [if_pos ⟨by decide, by decide⟩, hp]
  dsimp only
  rw [decide_eq_true h, Bool.true_and, Bool.eq_iff_iff, matchP_iff, mean_star1, List.all_eq_true]
  simp
theorem match_stars (t : List UInt8) (h : t.length ≤ 200) : matchB [42, 42] t = true := by
  have hp : pieces [42, 42] = some [.stars 42] := rfl
  unfold matchB
  rw [if_pos ⟨by decide, by decide⟩, hp]
  dsimp only
  rw [decide_eq_true h, Bool.true_and, matchP_iff]
  exact mean_stars1 _ _
theorem slash_loop (p s : List UInt8) (fuel : Nat) (hf : s.length < fuel) (hs : s.length ≤ 1000000) : ∀ (F : _), F = (fun (s : (List UInt8 × List UInt8 × Bool × Int × Unit) × Unit)
                      (k :
                        (List UInt8 × List UInt8 × Bool × Int × Unit) × Unit →
                          Option ((List UInt8 × List UInt8 × Bool × Unit) × Unit)) =>
                    bif decide (s.fst.snd.snd.snd.fst < (↑(List.length s.fst.snd.fst) : Int)) then
                      if
                          (0 : Int) ≤ s.fst.snd.snd.snd.fst ∧
                            s.fst.snd.snd.snd.fst < (↑(List.length s.fst.snd.fst) : Int) then
                        Option.bind
                          (bif
                              (↑(UInt8.toNat (List.getD s.fst.snd.fst (Int.toNat s.fst.snd.snd.snd.fst) (0 : UInt8))) :
                                  Int) ==
                                (47 : Int) then
                            some ((s.fst.fst, s.fst.snd.fst, true, s.fst.snd.snd.snd), ())
                          else some s)
                          fun (s : (List UInt8 × List UInt8 × Bool × Int × Unit) × Unit) =>
                          k
                            ((s.fst.fst, s.fst.snd.fst, s.fst.snd.snd.fst,
                                IntKind.wrap IntKind.i64 (s.fst.snd.snd.snd.fst + (1 : Int)), ()),
                              ())
                      else none
                    else some ((s.fst.fst, s.fst.snd.fst, s.fst.snd.snd.fst, ()), ())) →
    loopC fuel F ((p, s, false, (0 : Int), ()), ()) = some ((p, s, s.any (fun b => b.toNat == 47), ()), ()) := by
  intro F hF
  subst hF
  refine (loopC_inv _ (fun n t => ∃ (i : Nat) (b : Bool), t = ((p, s, b, (i : Int), ()), ()) ∧ i ≤ s.length ∧ n = s.length - i)
          (fun t => some ((p, s, t.1.2.2.1 || (s.drop t.1.2.2.2.1.toNat).any (fun b => b.toNat == 47), ()), ())) ?_ _ s.length _ ⟨0, false, rfl, by omega, rfl⟩ (by omega)).trans ?_
  · rintro n t k ⟨i, b, rfl, hi, rfl⟩ hk
    dsimp only
    by_cases hl : i < s.length
    · have hx : 0 ≤ (i : Int) ∧ (i : Int) < (s.length : Int) := by omega
      rw [decide_eq_true (by omega), cond_true, if_pos hx, Int.toNat_natCast]
      have hd : (s.drop i).any (fun b => b.toNat == 47) = (((s.getD i 0).toNat == 47) || (s.drop (i + 1)).any (fun b => b.toNat == 47)) := by
        rw [List.getD_eq_getElem?_getD, List.getElem?_eq_getElem hl, List.drop_eq_getElem_cons hl, List.any_cons]; rfl
      refine bind_of (x := some ((p, s, b || ((s.getD i 0).toNat == 47), (i : Int), ()), ())) ?_ ?_
      · rw [show (47 : Int) = ((47 : Nat) : Int) from rfl, eqIN]
        cases (s.getD i 0).toNat == 47 <;> cases b <;> rfl
      · rw [Option.bind_some]
        dsimp only
        rw [wr1 _ (by omega)]
        rw [hk (s.length - (i + 1)) _ (by omega) ⟨i + 1, _, rfl, by omega, rfl⟩]
        dsimp only
        rw [Int.toNat_natCast, hd, Bool.or_assoc]
    · obtain rfl : i = s.length := by omega
      rw [decide_eq_false (by omega), cond_false]
      rw [Int.toNat_natCast, List.drop_length]; simp
  · rfl
theorem beq_comm' (a b : List UInt8) : (a == b) = (b == a) := by
  rw [Bool.eq_iff_iff, beq_iff_eq, beq_iff_eq]; exact eq_comm
theorem law_Quote (c : List Int) : m_laws_FnQuote c = some (true, ()) := by
  unfold m_laws_FnQuote m_laws_big
  rw [Option.bind_some]
  dsimp only
  by_cases hc : c.length ≤ 1048576
  · rw [decide_eq_false (by omega), cond_false]
    refine bind_ex (drawMatch_some text_some c hc) ?_
    rintro ⟨⟨p, s, u⟩, u2⟩ ⟨hp, hs⟩
    have hp : p.length ≤ 200 := hp
    have hs : s.length ≤ 100 := hs
    dsimp only
    have hq := quote_len s
    rw [impl_quote_eq s (by omega), Option.bind_some]
    dsimp only
    refine bind_of (x := some ((p, s, quoteV s, decide (1 ≤ s.length ∧ (quoteV s).length ≤ 60), ()), ())) ?_ ?_
    · by_cases h1 : 1 ≤ s.length
      · rw [decide_eq_true (show ((s.length : Nat) : Int) > 0 by omega), cond_true]
        congr 6
        exact decide_eq_decide.2 (by omega)
      · rw [decide_eq_false (show ¬ ((s.length : Nat) : Int) > 0 by omega), cond_false]
        congr 6
        exact (decide_eq_false (by omega)).symm
    · rw [Option.bind_some]
      dsimp only
      refine joinC_of (x := some (.inl ((p, s, ()), ()))) ?_ ?_
      · by_cases h : 1 ≤ s.length ∧ (quoteV s).length ≤ 60
        · rw [decide_eq_true h, cond_true]
          have hok : okP (quoteV s) = true := by
            unfold okP
            rw [pieces_quote, decide_eq_true (by omega)]; rfl
          have hm := match_quote (q := quoteV s) (s := s) (by omega) (pieces_quote s)
          have m1 : matchB (quoteV s) s = true := by rw [hm, decide_eq_true (by omega)]; simp
          have m2 : matchB (quoteV s) (s ++ [120]) = false := by
            rw [hm]
            have : (s ++ [120] == s) = false := beq_eq_false_iff_ne.2 (fun e => by have := congrArg List.length e; simp at this)
            rw [this, Bool.and_false]
          have m3 : matchB (quoteV s) (s.drop 1) = false := by
            rw [hm]
            have : (s.drop 1 == s) = false := beq_eq_false_iff_ne.2 (fun e => by have := congrArg List.length e; simp at this; omega)
            rw [this, Bool.and_false]
          refine bind_of (x := some ((p, s, false, ()), ())) ?_ ?_
          · rw [impl_ok_eq, Option.bind_some]
            show (bif !(okP (quoteV s)) then _ else _) = _
            rw [hok, impl_Match_eq, m1, Option.bind_some]
            simp only [Bool.not_true, cond_false]
            rw [if_pos (by show s.length + 1 < 9223372036854775808; omega), impl_Match_eq, m2, Option.bind_some]
            simp only [cond_false]
            rw [if_pos (by omega), Int.toNat_natCast, List.take_length, show Int.toNat (1 : Int) = 1 from rfl, impl_Match_eq, m3, Option.bind_some]
          · rfl
        · rw [decide_eq_false h, cond_false]
      · rw [joinC_inl]
        dsimp only
        refine bind_of (slash_loop p s _ (by omega) (by omega) _ rfl) ?_
        rw [Option.bind_some]
        dsimp only
        refine bind_of (x := some ((p, s, false, ()), ())) ?_ ?_
        · rw [impl_Match_eq, match_stars s (by omega), Option.bind_some]
          simp only [Bool.not_true, cond_false]
          rw [impl_Match_eq, match_star s (by omega), Option.bind_some]
          have : (s.all (fun b => !(b.toNat == 47)) == s.any (fun b => b.toNat == 47)) = false := by
            rw [← List.not_any_eq_all_not]
            cases s.any (fun b => b.toNat == 47) <;> rfl
          dsimp only
          rw [this]
        · rw [Option.bind_some]
          simp only [cond_false]
          refine bind_of (x := some ((true, ()), ())) ?_ ?_
          · rw [impl_plain_eq p (by omega), Option.bind_some]
            dsimp only
            cases hpl : (okP p && p.all (fun b => !wildB b)) with
            | false => rfl
            | true =>
              rw [Bool.and_eq_true] at hpl
              have hok := hpl.1
              unfold okP at hok
              rw [Bool.and_eq_true] at hok
              have hl := of_decide_eq_true hok.1
              have hpc := pieces_quote p
              rw [quote_plain p hpl.2] at hpc
              rw [impl_Match_eq, match_quote hl hpc, decide_eq_true (show s.length ≤ 200 by omega), Option.bind_some]
              simp only [Bool.not_true, cond_false, Bool.true_and]
              rw [beq_comm' s p]
              cases (p == s) <;> rfl
          · rfl
  · rw [decide_eq_true (by omega)]; rfl
end Go.AM
