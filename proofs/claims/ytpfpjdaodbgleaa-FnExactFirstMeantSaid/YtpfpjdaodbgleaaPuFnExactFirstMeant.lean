/- The plain law: the model of the law answers true. -/
import Derived.Test.YtpfpjdaodbgleaaMoFnExactFirstMeant
set_option linter.unusedVariables false
set_option linter.unusedSimpArgs false
namespace Go.AM
open Go
theorem loopC_inv {S α : Type} (F : S → (S → Option α) → Option α) (I : Nat → S → Prop) (g : S → Option α)
    (h : ∀ n s k, I n s → (∀ m s', m < n → I m s' → k s' = g s') → F s k = g s) : ∀ fuel n s, I n s → n < fuel → loopC fuel F s = g s := by
  intro fuel
  induction fuel with
  | zero => intro n s _ h0; omega
  | succ f ih => intro n s hI hn; exact h n s _ hI (fun m s' hm hI' => ih m s' hI' (by omega))
theorem wr (x : Int) (h : -9223372036854775808 ≤ x ∧ x ≤ 9223372036854775807) : IntKind.wrap .i64 x = x := by
  simp [IntKind.wrap, IntKind.signed, IntKind.bits]; omega
def fillN : Nat → Nat → List Bool → List Bool
  | 0, _, s => s
  | n + 1, i, s => fillN n (i + 1) (s.set i true)
theorem fillN_length : ∀ n i s, (fillN n i s).length = s.length
  | 0, _, _ => rfl
  | n + 1, i, s => by rw [fillN, fillN_length n]; simp
def by8 (p : List UInt8) (i : Nat) : Nat := (p.getD i 0).toNat
theorem by8_lt (p i) : by8 p i < 256 := (p.getD i 0).toNat_lt
def cls (p : List UInt8) (i : Nat) (first : Bool) (s : List Bool) : Nat × List Bool :=
  if i < p.length ∧ (first = true ∨ by8 p i ≠ 93) then
    if i + 2 < p.length ∧ by8 p (i + 1) = 45 ∧ by8 p (i + 2) ≠ 93 then cls p (i + 3) false (fillN (by8 p (i + 2) + 1 - by8 p i) (by8 p i) s)
    else cls p (i + 1) false (s.set (by8 p i) true)
  else (i, s)
termination_by p.length - i
end Go.AM
set_option linter.unusedVariables false
set_option linter.unusedSimpArgs false
namespace Go.AM
open Go
theorem hasPrefix_eq (a b : List UInt8) : m_strings_HasPrefix a b = some (decide (b.length ≤ a.length) && (a.take b.length == b), ()) := by
  unfold m_strings_HasPrefix m_stringslite_HasPrefix
  by_cases h : b.length ≤ a.length
  · have h1 : (a.length : Int) ≥ (b.length : Int) := by omega
    have h2 : (0 : Int) ≤ 0 ∧ (0 : Int) ≤ (b.length : Int) ∧ (b.length : Int) ≤ (a.length : Int) := by omega
    rw [decide_eq_true h1, if_pos h2]
    simp only [h, cond_true, Option.bind_some, Int.toNat_natCast, Int.toNat_zero, List.drop_zero, decide_true, Bool.true_and]
  · have h1 : ¬ (a.length : Int) ≥ (b.length : Int) := by omega
    rw [decide_eq_false h1]
    simp only [h, cond_false, Option.bind_some, decide_false, Bool.false_and]
def clsNot (p : List UInt8) : Bool := decide (1 ≤ p.length) && (by8 p 0 == 33)
def clsR (p : List UInt8) : Nat × List Bool := cls p (if clsNot p = true then 1 else 0) true (List.replicate 256 false)
theorem take1 (p : List UInt8) (x : UInt8) (n : Nat) (hx : x.toNat = n) : (decide ([x].length ≤ p.length) && (p.take [x].length == [x])) = (decide (1 ≤ p.length) && (by8 p 0 == n)) := by
  subst hx
  cases p with
  | nil => rfl
  | cons a l =>
    simp only [List.length_cons, List.length_nil, List.take_succ_cons, List.take_zero, by8, List.getD_cons_zero]
    by_cases h : a = x
    · subst h; simp
    · have : a.toNat ≠ x.toNat := fun e => h (UInt8.toNat_inj.mp e)
      rw [beq_eq_false_iff_ne.mpr this, show (([a] : List UInt8) == [x]) = false from beq_eq_false_iff_ne.mpr (fun e => h (List.cons.inj e).1)]
def clsF (p : List UInt8) (i : Nat) (first : Bool) (s : List Bool) : Nat × List Bool := cls p i first s
theorem cls_len (p : List UInt8) : ∀ n i first s, p.length - i ≤ n → (cls p i first s).2.length = s.length := by
  intro n
  induction n with
  | zero => intro i f s h; rw [cls, if_neg (by omega)]
  | succ n ih =>
    intro i f s h
    rw [cls]
    split
    · split
      · rw [ih _ _ _ (by omega), fillN_length]
      · rw [ih _ _ _ (by omega)]; simp
    · rfl
theorem cls_stop {p i first s} (h : ¬(i < p.length ∧ (first = true ∨ by8 p i ≠ 93))) : cls p i first s = (i, s) := by rw [cls, if_neg h]
theorem cls_range {p i first s} (h : i < p.length ∧ (first = true ∨ by8 p i ≠ 93)) (h2 : i + 2 < p.length ∧ by8 p (i + 1) = 45 ∧ by8 p (i + 2) ≠ 93) :
    cls p i first s = cls p (i + 3) false (fillN (by8 p (i + 2) + 1 - by8 p i) (by8 p i) s) := by rw [cls, if_pos h, if_pos h2]
theorem cls_one {p i first s} (h : i < p.length ∧ (first = true ∨ by8 p i ≠ 93)) (h2 : ¬(i + 2 < p.length ∧ by8 p (i + 1) = 45 ∧ by8 p (i + 2) ≠ 93)) :
    cls p i first s = cls p (i + 1) false (s.set (by8 p i) true) := by rw [cls, if_pos h, if_neg h2]
theorem impl_class_eq (p : List UInt8) (hp : p.length ≤ 60) : m_impl_class p = some (if (clsR p).1 ≥ p.length then (none, 0, ()) else (some (4, clsNot p, (clsR p).2), (((clsR p).1 + 1 : Nat) : Int), ()), ()) := by
  unfold m_impl_class
  rw [hasPrefix_eq, take1 p 33 33 rfl]
  show Option.bind (some (clsNot p, ())) _ = _
  rw [Option.bind_some]
  have key : ∀ (nt : Bool) (i : Nat) (hi : i ≤ p.length + 1) (st : (List UInt8 × Unit × Int × Unit) × (Int × Bool × List Bool) × Unit), st = ((p, (), (i : Int), ()), (4, nt, List.replicate 256 false), ()) → ∀ R, R = cls p i true (List.replicate 256 false) → True := fun _ _ _ _ _ _ _ => trivial
  rw [show (bif clsNot p then some ((p, (), IntKind.wrap IntKind.i64 ((0 : Int) + (1 : Int)), ()), ((4 : Int), true, List.replicate (256 : Nat) false), ()) else some ((p, (), (0 : Int), ()), ((4 : Int), false, List.replicate (256 : Nat) false), ()) : Option ((List UInt8 × Unit × Int × Unit) × (Int × Bool × List Bool) × Unit)) = some ((p, (), (((if clsNot p = true then 1 else 0) : Nat) : Int), ()), (4, clsNot p, List.replicate 256 false), ()) from by cases clsNot p <;> rfl]
  rw [Option.bind_some]
  have hcl : ∀ (r : Nat × List Bool), clsR p = r → True := fun _ _ => trivial
  generalize hi0 : (if clsNot p = true then 1 else 0 : Nat) = i0
  have hR : clsR p = cls p i0 true (List.replicate 256 false) := by rw [← hi0]; rfl
  rw [hR]
  have hi0' : i0 ≤ 1 := by rw [← hi0]; split <;> omega
  refine (loopC_inv _
    (fun n s => ∃ i first set, s = ((p, (), ((i : Nat) : Int), first, ()), (4, clsNot p, set), ()) ∧ set.length = 256 ∧ i ≤ 64 ∧ n = p.length - i)
    (fun s => some (if (cls p s.1.2.2.1.toNat s.1.2.2.2.1 s.2.1.2.2).1 ≥ p.length then (none, 0, ()) else (some (4, clsNot p, (cls p s.1.2.2.1.toNat s.1.2.2.2.1 s.2.1.2.2).2), (((cls p s.1.2.2.1.toNat s.1.2.2.2.1 s.2.1.2.2).1 + 1 : Nat) : Int), ()), ())) ?_ _ (p.length - i0) _ ?_ ?_).trans ?_
  · rintro n s k ⟨i, first, set, rfl, hs, hi, rfl⟩ hk
    dsimp only
    rw [Int.toNat_natCast]
    have w1 : IntKind.wrap IntKind.i64 ((i : Int) + 1) = ((i + 1 : Nat) : Int) := by rw [wr _ (by omega)]; omega
    have w2 : IntKind.wrap IntKind.i64 (((i + 1 : Nat) : Int) + 1) = ((i + 2 : Nat) : Int) := by rw [wr _ (by omega)]; omega
    have w3 : IntKind.wrap IntKind.i64 (((i + 1 : Nat) : Int) + 2) = ((i + 3 : Nat) : Int) := by rw [wr _ (by omega)]; omega
    have wb : ∀ j : Nat, IntKind.wrap IntKind.i64 (((UInt8.toNat (p.getD j 0)) : Nat) : Int) = (by8 p j : Int) := by
      intro j; have := by8_lt p j; unfold by8 at *; rw [wr _ (by omega)]
    have wb' : ∀ j : Nat, (((UInt8.toNat (p.getD j 0)) : Nat) : Int) = (by8 p j : Int) := fun j => rfl
    have wv : ∀ j : Nat, IntKind.wrap IntKind.i64 (by8 p j : Int) = (by8 p j : Int) := wb
    have ne93 : ∀ j : Nat, (((by8 p j : Nat) : Int) != 93) = decide (by8 p j ≠ 93) := by
      intro j; by_cases h : by8 p j = 93
      · rw [h]; rfl
      · rw [decide_eq_true h, bne_iff_ne]; omega
    have eq45 : ∀ j : Nat, (((by8 p j : Nat) : Int) == 45) = decide (by8 p j = 45) := by
      intro j; by_cases h : by8 p j = 45
      · rw [h]; rfl
      · rw [decide_eq_false h, beq_eq_false_iff_ne]; omega
    simp only [w1, w2, Int.toNat_natCast, wb, wb', wv, ne93, eq45]
    by_cases hc : i < p.length ∧ (first = true ∨ by8 p i ≠ 93)
    · obtain ⟨hl, hf⟩ := hc
      have hg : (0 : Int) ≤ (i : Int) ∧ (i : Int) < (p.length : Int) := by omega
      have hd : decide ((i : Int) < (p.length : Int)) = true := decide_eq_true hg.2
      have step1 : (bif first then some ((p, (), (i : Int), true, ()), ((4 : Int), clsNot p, set), ()) else some ((p, (), (i : Int), decide (by8 p i ≠ 93), ()), ((4 : Int), clsNot p, set), ()) : Option ((List UInt8 × Unit × Int × Bool × Unit) × (Int × Bool × List Bool) × Unit)) = some ((p, (), (i : Int), true, ()), (4, clsNot p, set), ()) := by
        rcases hf with rfl | h
        · rfl
        · rw [decide_eq_true h]; cases first <;> rfl
      rw [hd]
      simp only [cond_true, if_pos hg, step1, Option.bind_some, w1, w2, Int.toNat_natCast, wb, wb', wv, ne93, eq45]
      by_cases hr : i + 2 < p.length ∧ by8 p (i + 1) = 45 ∧ by8 p (i + 2) ≠ 93
      · rw [cls_range ⟨hl, hf⟩ hr]
        have d1 : decide (((i + 2 : Nat) : Int) < (p.length : Int)) = true := decide_eq_true (by omega)
        have g1 : (0 : Int) ≤ ((i + 1 : Nat) : Int) ∧ ((i + 1 : Nat) : Int) < (p.length : Int) := by omega
        have g2 : (0 : Int) ≤ ((i + 2 : Nat) : Int) ∧ ((i + 2 : Nat) : Int) < (p.length : Int) := by omega
        rw [d1]
        simp only [cond_true, if_pos g1, if_pos g2, decide_eq_true hr.2.1, decide_eq_true hr.2.2, Option.bind_some, w2, w3, Int.toNat_natCast, wb]
        refine (loopC_inv _
          (fun n s => ∃ (lo : Nat) (set' : List Bool), s = ((p, (), ((i + 3 : Nat) : Int), (by8 p (i + 2) : Int), (lo : Int), ()), (4, clsNot p, set'), ()) ∧ set'.length = 256 ∧ lo ≤ 257 ∧ n = by8 p (i + 2) + 1 - lo)
          (fun s => k ((p, (), ((i + 3 : Nat) : Int), false, ()), (4, clsNot p, fillN (by8 p (i + 2) + 1 - s.1.2.2.2.2.1.toNat) s.1.2.2.2.2.1.toNat s.2.1.2.2), ())) ?_ _ (by8 p (i + 2) + 1 - by8 p i) _ ?_ ?_).trans ?_
        · rintro n s k1 ⟨lo, set', rfl, hs', hlo, rfl⟩ hk1
          dsimp only
          have wlo : IntKind.wrap IntKind.i64 ((lo : Int) + 1) = ((lo + 1 : Nat) : Int) := by rw [wr _ (by omega)]; omega
          by_cases hle : lo ≤ by8 p (i + 2)
          · have hlt : by8 p (i + 2) < 256 := by8_lt _ _
            have c1 : (0 : Int) ≤ (lo : Int) ∧ (lo : Int) < ((256 : Nat) : Int) ∧ (lo : Int) < (set'.length : Int) := by omega
            have c2 : lo < set'.length := by omega
            rw [decide_eq_true (show ((lo : Int) ≤ (by8 p (i + 2) : Int)) by omega), cond_true, if_pos c1]
            simp only [Int.toNat_natCast, if_pos c2, wlo]
            rw [hk1 (by8 p (i + 2) + 1 - (lo + 1)) _ (by omega) ⟨lo + 1, _, rfl, by rw [List.length_set]; exact hs', by omega, rfl⟩]
            simp only [Int.toNat_natCast]
            rw [show by8 p (i + 2) + 1 - lo = (by8 p (i + 2) + 1 - (lo + 1)) + 1 by omega, fillN]
          · rw [decide_eq_false (show ¬((lo : Int) ≤ (by8 p (i + 2) : Int)) by omega), cond_false]
            simp only [Int.toNat_natCast]
            rw [show by8 p (i + 2) + 1 - lo = 0 by omega, fillN]
        · exact ⟨by8 p i, set, rfl, hs, by have := by8_lt p i; omega, rfl⟩
        · have := by8_lt p i; have := by8_lt p (i + 2); try simp only [Int.toNat_natCast]
          omega
        · simp only [Int.toNat_natCast]
          rw [hk (p.length - (i + 3)) _ (by omega) ⟨i + 3, false, _, rfl, by rw [fillN_length]; exact hs, by omega, rfl⟩]
          simp only [Int.toNat_natCast]
      · rw [cls_one ⟨hl, hf⟩ hr]
        rw [show (bif decide (((i + 2 : Nat) : Int) < (p.length : Int)) then
            if (0 : Int) ≤ ((i + 1 : Nat) : Int) ∧ ((i + 1 : Nat) : Int) < (p.length : Int) then
              bif decide (by8 p (i + 1) = 45) then
                if (0 : Int) ≤ ((i + 2 : Nat) : Int) ∧ ((i + 2 : Nat) : Int) < (p.length : Int) then
                  some ((p, (), ((i + 1 : Nat) : Int), (by8 p i : Int), (by8 p i : Int), decide (by8 p (i + 2) ≠ 93), ()), ((4 : Int), clsNot p, set), ())
                else none
              else some ((p, (), ((i + 1 : Nat) : Int), (by8 p i : Int), (by8 p i : Int), false, ()), ((4 : Int), clsNot p, set), ())
            else none
          else some ((p, (), ((i + 1 : Nat) : Int), (by8 p i : Int), (by8 p i : Int), false, ()), ((4 : Int), clsNot p, set), ()) : Option ((List UInt8 × Unit × Int × Int × Int × Bool × Unit) × (Int × Bool × List Bool) × Unit)) = some ((p, (), ((i + 1 : Nat) : Int), (by8 p i : Int), (by8 p i : Int), false, ()), ((4 : Int), clsNot p, set), ()) from by
          by_cases a1 : i + 2 < p.length
          · have d1 : decide (((i + 2 : Nat) : Int) < (p.length : Int)) = true := decide_eq_true (by omega)
            have g1 : (0 : Int) ≤ ((i + 1 : Nat) : Int) ∧ ((i + 1 : Nat) : Int) < (p.length : Int) := by omega
            have g2 : (0 : Int) ≤ ((i + 2 : Nat) : Int) ∧ ((i + 2 : Nat) : Int) < (p.length : Int) := by omega
            rw [d1]; simp only [cond_true, if_pos g1, if_pos g2]
            by_cases a2 : by8 p (i + 1) = 45
            · have a3 : ¬ by8 p (i + 2) ≠ 93 := fun h => hr ⟨a1, a2, h⟩
              rw [decide_eq_true a2, decide_eq_false a3]; rfl
            · rw [decide_eq_false a2]; rfl
          · have d1 : decide (((i + 2 : Nat) : Int) < (p.length : Int)) = false := decide_eq_false (by omega)
            rw [d1]; rfl]
        simp only [Option.bind_some, cond_false]
        refine (loopC_inv _
          (fun n s => ∃ (lo : Nat) (set' : List Bool), s = ((p, (), ((i + 1 : Nat) : Int), (by8 p (i) : Int), (lo : Int), ()), (4, clsNot p, set'), ()) ∧ set'.length = 256 ∧ lo ≤ 257 ∧ n = by8 p (i) + 1 - lo)
          (fun s => k ((p, (), ((i + 1 : Nat) : Int), false, ()), (4, clsNot p, fillN (by8 p (i) + 1 - s.1.2.2.2.2.1.toNat) s.1.2.2.2.2.1.toNat s.2.1.2.2), ())) ?_ _ (by8 p (i) + 1 - by8 p i) _ ?_ ?_).trans ?_
        · rintro n s k1 ⟨lo, set', rfl, hs', hlo, rfl⟩ hk1
          dsimp only
          have wlo : IntKind.wrap IntKind.i64 ((lo : Int) + 1) = ((lo + 1 : Nat) : Int) := by rw [wr _ (by omega)]; omega
          by_cases hle : lo ≤ by8 p (i)
          · have hlt : by8 p (i) < 256 := by8_lt _ _
            have c1 : (0 : Int) ≤ (lo : Int) ∧ (lo : Int) < ((256 : Nat) : Int) ∧ (lo : Int) < (set'.length : Int) := by omega
            have c2 : lo < set'.length := by omega
            rw [decide_eq_true (show ((lo : Int) ≤ (by8 p (i) : Int)) by omega), cond_true, if_pos c1]
            simp only [Int.toNat_natCast, if_pos c2, wlo]
            rw [hk1 (by8 p (i) + 1 - (lo + 1)) _ (by omega) ⟨lo + 1, _, rfl, by rw [List.length_set]; exact hs', by omega, rfl⟩]
            simp only [Int.toNat_natCast]
            rw [show by8 p (i) + 1 - lo = (by8 p (i) + 1 - (lo + 1)) + 1 by omega, fillN]
          · rw [decide_eq_false (show ¬((lo : Int) ≤ (by8 p (i) : Int)) by omega), cond_false]
            simp only [Int.toNat_natCast]
            rw [show by8 p (i) + 1 - lo = 0 by omega, fillN]
        · exact ⟨by8 p i, set, rfl, hs, by have := by8_lt p i; omega, rfl⟩
        · have := by8_lt p i; have := by8_lt p (i); try simp only [Int.toNat_natCast]
          omega
        · simp only [Int.toNat_natCast]
          rw [show by8 p i + 1 - by8 p i = 0 + 1 by omega, fillN, fillN]
          rw [hk (p.length - (i + 1)) _ (by omega) ⟨i + 1, false, _, rfl, by rw [List.length_set]; exact hs, by omega, rfl⟩]
          simp only [Int.toNat_natCast]
    · rw [cls_stop hc]
      have step1 : (bif decide ((i : Int) < (p.length : Int)) then bif first then some ((p, (), (i : Int), true, ()), ((4 : Int), clsNot p, set), ()) else if (0 : Int) ≤ (i : Int) ∧ (i : Int) < (p.length : Int) then some ((p, (), (i : Int), decide (by8 p i ≠ 93), ()), ((4 : Int), clsNot p, set), ()) else none else some ((p, (), (i : Int), false, ()), ((4 : Int), clsNot p, set), ()) : Option ((List UInt8 × Unit × Int × Bool × Unit) × (Int × Bool × List Bool) × Unit)) = some ((p, (), (i : Int), false, ()), (4, clsNot p, set), ()) := by
        by_cases hl : i < p.length
        · rw [decide_eq_true (show ((i : Int) < (p.length : Int)) by omega), cond_true, if_pos (show (0 : Int) ≤ (i : Int) ∧ (i : Int) < (p.length : Int) by omega)]
          have hf : first = false := by cases first; rfl; exact absurd ⟨hl, Or.inl rfl⟩ hc
          have h9 : ¬ by8 p i ≠ 93 := fun h => hc ⟨hl, Or.inr h⟩
          rw [hf, decide_eq_false h9]; rfl
        · rw [decide_eq_false (show ¬((i : Int) < (p.length : Int)) by omega)]; rfl
      rw [step1]
      simp only [Option.bind_some, cond_false]
      by_cases hl : i ≥ p.length
      · rw [decide_eq_true (show (i : Int) ≥ (p.length : Int) by omega), if_pos hl]; rfl
      · rw [decide_eq_false (show ¬((i : Int) ≥ (p.length : Int)) by omega), if_neg hl, cond_false, w1]
  · exact ⟨i0, true, _, rfl, List.length_replicate .., by omega, rfl⟩
  · simp only []; omega
  · simp only [Int.toNat_natCast]
end Go.AM
set_option linter.unusedVariables false
set_option linter.unusedSimpArgs false
namespace Go.AM
open Go
theorem spec_class_eq (p : List UInt8) (hp : p.length ≤ 60) : m_spec_l08Class p = some (if (clsR p).1 ≥ p.length then ((0, 0, false, []), 0, ()) else ((2, 0, clsNot p, (clsR p).2), (((clsR p).1 + 1 : Nat) : Int), ()), ()) := by
  unfold m_spec_l08Class
  have wb : ∀ j : Nat, IntKind.wrap IntKind.i64 (((UInt8.toNat (p.getD j 0)) : Nat) : Int) = (by8 p j : Int) := by
    intro j; have := by8_lt p j; unfold by8 at *; rw [wr _ (by omega)]
  have wb' : ∀ j : Nat, (((UInt8.toNat (p.getD j 0)) : Nat) : Int) = (by8 p j : Int) := fun j => rfl
  have wv : ∀ j : Nat, IntKind.wrap IntKind.i64 (by8 p j : Int) = (by8 p j : Int) := wb
  have ne93 : ∀ j : Nat, (((by8 p j : Nat) : Int) != 93) = decide (by8 p j ≠ 93) := by
    intro j; by_cases h : by8 p j = 93
    · rw [h]; rfl
    · rw [decide_eq_true h, bne_iff_ne]; omega
  have eq45 : ∀ j : Nat, (((by8 p j : Nat) : Int) == 45) = decide (by8 p j = 45) := by
    intro j; by_cases h : by8 p j = 45
    · rw [h]; rfl
    · rw [decide_eq_false h, beq_eq_false_iff_ne]; omega
  have eq33 : ∀ j : Nat, (((by8 p j : Nat) : Int) == 33) = (by8 p j == 33) := by
    intro j; by_cases h : by8 p j = 33
    · rw [h]; rfl
    · rw [beq_eq_false_iff_ne.mpr h, beq_eq_false_iff_ne]; omega
  refine (loopC_inv _
    (fun n s => ∃ (i : Nat), s = ((p, (), (), (i : Int), ()), (0, 0, false, (), ()), (2, 0, false, (), ()), List.replicate i false, ()) ∧ i ≤ 256 ∧ n = 256 - i)
    (fun _ => some (if (clsR p).1 ≥ p.length then ((0, 0, false, []), 0, ()) else ((2, 0, clsNot p, (clsR p).2), (((clsR p).1 + 1 : Nat) : Int), ()), ())) ?_ _ 256 _ ?_ ?_).trans rfl
  · rintro n s k ⟨i, rfl, hi, rfl⟩ hk
    dsimp only
    by_cases hlt : i < 256
    · rw [decide_eq_true (show (i : Int) < 256 by omega), cond_true, if_pos (by rw [List.length_replicate]; show (i + 1) * 1 ≤ _; omega)]
      rw [wr _ (by omega)]
      rw [hk (256 - (i + 1)) _ (by omega) ⟨i + 1, by rw [List.replicate_succ']; rfl, by omega, rfl⟩]
    · have : i = 256 := by omega
      subst this
      rw [decide_eq_false (by omega), cond_false]
      have e1 : (bif decide ((0 : Int) < (p.length : Int)) then
            if (0 : Int) ≤ (0 : Int) ∧ (0 : Int) < (p.length : Int) then
              some ((p, (), (), (0 : Int), (((by8 p 0 : Nat) : Int) == 33), ()), ((0 : Int), (0 : Int), false, (), ()), ((2 : Int), (0 : Int), false, (), ()), List.replicate 256 false, ())
            else none
          else some ((p, (), (), (0 : Int), false, ()), ((0 : Int), (0 : Int), false, (), ()), ((2 : Int), (0 : Int), false, (), ()), List.replicate 256 false, ()) : Option ((List UInt8 × Unit × Unit × Int × Bool × Unit) × (Int × Int × Bool × Unit × Unit) × (Int × Int × Bool × Unit × Unit) × List Bool × Unit))
          = some ((p, (), (), (0 : Int), clsNot p, ()), ((0 : Int), (0 : Int), false, (), ()), ((2 : Int), (0 : Int), false, (), ()), List.replicate 256 false, ()) := by
        unfold clsNot
        by_cases h : 1 ≤ p.length
        · rw [decide_eq_true (show (0 : Int) < (p.length : Int) by omega), cond_true, if_pos (by omega), decide_eq_true h, eq33]; rfl
        · rw [decide_eq_false (show ¬(0 : Int) < (p.length : Int) by omega), decide_eq_false h]; rfl
      simp only [Int.toNat_zero, wb']
      rw [e1]
      simp only [Option.bind_some]
      rw [show (bif clsNot p then some ((p, (), (), IntKind.wrap IntKind.i64 ((0 : Int) + (1 : Int)), ()), ((0 : Int), (0 : Int), false, (), ()), ((2 : Int), (0 : Int), true, (), ()), List.replicate 256 false, ())
          else some ((p, (), (), (0 : Int), ()), ((0 : Int), (0 : Int), false, (), ()), ((2 : Int), (0 : Int), false, (), ()), List.replicate 256 false, ()) : Option ((List UInt8 × Unit × Unit × Int × Unit) × (Int × Int × Bool × Unit × Unit) × (Int × Int × Bool × Unit × Unit) × List Bool × Unit))
        = some ((p, (), (), (((if clsNot p = true then 1 else 0) : Nat) : Int), ()), ((0 : Int), (0 : Int), false, (), ()), ((2 : Int), (0 : Int), clsNot p, (), ()), List.replicate 256 false, ()) from by cases clsNot p <;> rfl]
      rw [Option.bind_some]
      generalize hi0 : (if clsNot p = true then 1 else 0 : Nat) = i0
      have hR : clsR p = cls p i0 true (List.replicate 256 false) := by rw [← hi0]; rfl
      rw [hR]
      have hi0' : i0 ≤ 1 := by rw [← hi0]; split <;> omega
      refine (loopC_inv _
        (fun n s => ∃ (i : Nat) (first : Bool) (set : List Bool), s = ((p, (), (), (i : Int), first, ()), (0, 0, false, (), ()), (2, 0, clsNot p, (), ()), set, ()) ∧ set.length = 256 ∧ i ≤ 64 ∧ n = p.length - i)
        (fun s => some (if (cls p s.1.2.2.2.1.toNat s.1.2.2.2.2.1 s.2.2.2.1).1 ≥ p.length then ((0, 0, false, []), 0, ()) else ((2, 0, clsNot p, (cls p s.1.2.2.2.1.toNat s.1.2.2.2.2.1 s.2.2.2.1).2), (((cls p s.1.2.2.2.1.toNat s.1.2.2.2.2.1 s.2.2.2.1).1 + 1 : Nat) : Int), ()), ())) ?_ _ (p.length - i0) _ ?_ ?_).trans ?_
      · clear hk e1
        rintro n s k ⟨i, first, set, rfl, hs, hi, rfl⟩ hk
        have w1 : IntKind.wrap IntKind.i64 ((i : Int) + 1) = ((i + 1 : Nat) : Int) := by rw [wr _ (by omega)]; omega
        have w2 : IntKind.wrap IntKind.i64 ((i : Int) + 2) = ((i + 2 : Nat) : Int) := by rw [wr _ (by omega)]; omega
        have w3 : IntKind.wrap IntKind.i64 ((i : Int) + 3) = ((i + 3 : Nat) : Int) := by rw [wr _ (by omega)]; omega
        dsimp only
        simp only [w1, w2, w3, Int.toNat_natCast, wb, wb', wv, ne93, eq45]
        by_cases hc : i < p.length ∧ (first = true ∨ by8 p i ≠ 93)
        · obtain ⟨hl, hf⟩ := hc
          have hg : (0 : Int) ≤ (i : Int) ∧ (i : Int) < (p.length : Int) := by omega
          have hd : decide ((i : Int) < (p.length : Int)) = true := decide_eq_true hg.2
          have step1 : (bif first then some ((p, (), (), (i : Int), true, ()), ((0 : Int), (0 : Int), false, (), ()), ((2 : Int), (0 : Int), clsNot p, (), ()), set, ()) else some ((p, (), (), (i : Int), decide (by8 p i ≠ 93), ()), ((0 : Int), (0 : Int), false, (), ()), ((2 : Int), (0 : Int), clsNot p, (), ()), set, ()) : Option ((List UInt8 × Unit × Unit × Int × Bool × Unit) × (Int × Int × Bool × Unit × Unit) × (Int × Int × Bool × Unit × Unit) × List Bool × Unit)) = some ((p, (), (), (i : Int), true, ()), ((0 : Int), (0 : Int), false, (), ()), ((2 : Int), (0 : Int), clsNot p, (), ()), set, ()) := by
            rcases hf with rfl | h
            · rfl
            · rw [decide_eq_true h]; cases first <;> rfl
          rw [hd]
          simp only [cond_true, if_pos hg, step1, Option.bind_some, w1, w2, w3, Int.toNat_natCast, wb, wb', wv, ne93, eq45]
          by_cases hr : i + 2 < p.length ∧ by8 p (i + 1) = 45 ∧ by8 p (i + 2) ≠ 93
          · rw [cls_range ⟨hl, hf⟩ hr]
            have d1 : decide (((i + 2 : Nat) : Int) < (p.length : Int)) = true := decide_eq_true (by omega)
            have g1 : (0 : Int) ≤ ((i + 1 : Nat) : Int) ∧ ((i + 1 : Nat) : Int) < (p.length : Int) := by omega
            have g2 : (0 : Int) ≤ ((i + 2 : Nat) : Int) ∧ ((i + 2 : Nat) : Int) < (p.length : Int) := by omega
            rw [d1]
            simp only [cond_true, if_pos g1, if_pos g2, if_pos hg, decide_eq_true hr.2.1, decide_eq_true hr.2.2, Option.bind_some, w1, w2, w3, Int.toNat_natCast, wb, wb', wv]
            refine (congrArg (fun o => Option.bind o _) ((loopC_inv _
              (fun n s => ∃ (lo : Nat) (set' : List Bool), s = ((p, (), (), ((i : Nat) : Int), false, (lo : Int), ()), (0, 0, false, (), ()), (2, 0, clsNot p, (), ()), set', ()) ∧ set'.length = 256 ∧ lo ≤ 257 ∧ n = by8 p (i + 2) + 1 - lo)
              (fun s => some ((p, (), (), ((i + 3 : Nat) : Int), false, ()), (0, 0, false, (), ()), (2, 0, clsNot p, (), ()), fillN (by8 p (i + 2) + 1 - s.1.2.2.2.2.2.1.toNat) s.1.2.2.2.2.2.1.toNat s.2.2.2.1, ())) ?_ _ (by8 p (i + 2) + 1 - by8 p i) _ ?_ ?_))).trans ?_
            · rintro n s k1 ⟨lo, set', rfl, hs', hlo, rfl⟩ hk1
              dsimp only
              have wlo : IntKind.wrap IntKind.i64 ((lo : Int) + 1) = ((lo + 1 : Nat) : Int) := by rw [wr _ (by omega)]; omega
              simp only [cond_true, if_pos g2, w2, w3, Int.toNat_natCast, wb, wb', wv, wlo]
              by_cases hle : lo ≤ by8 p (i + 2)
              · have hlt : by8 p (i + 2) < 256 := by8_lt _ _
                have c1 : (0 : Int) ≤ (lo : Int) ∧ (lo : Int) < (set'.length : Int) := by omega
                have c2 : lo < set'.length := by omega
                rw [decide_eq_true (show ((lo : Int) ≤ (by8 p (i + 2) : Int)) by omega), cond_true, if_pos c1]
                rw [if_pos c2]
                rw [hk1 (by8 p (i + 2) + 1 - (lo + 1)) _ (by omega) ⟨lo + 1, _, rfl, by rw [List.length_set]; exact hs', by omega, rfl⟩]
                simp only [Int.toNat_natCast]
                rw [show by8 p (i + 2) + 1 - lo = (by8 p (i + 2) + 1 - (lo + 1)) + 1 by omega, fillN]
              · rw [decide_eq_false (show ¬((lo : Int) ≤ (by8 p (i + 2) : Int)) by omega), cond_false]
                rw [show by8 p (i + 2) + 1 - lo = 0 by omega, fillN]
            · exact ⟨by8 p i, set, rfl, hs, by have := by8_lt p i; omega, rfl⟩
            · have := by8_lt p i; have := by8_lt p (i + 2); try simp only [Int.toNat_natCast]
              omega
            · simp only [Int.toNat_natCast, Option.bind_some]
              rw [hk (p.length - (i + 3)) _ (by omega) ⟨i + 3, false, _, rfl, by rw [fillN_length]; exact hs, by omega, rfl⟩]
              simp only [Int.toNat_natCast]
          · rw [cls_one ⟨hl, hf⟩ hr]
            have e3 : ∀ (T : Type) (A B : T), (bif decide (((i + 2 : Nat) : Int) < (p.length : Int)) then
                if (0 : Int) ≤ ((i + 1 : Nat) : Int) ∧ ((i + 1 : Nat) : Int) < (p.length : Int) then
                  bif decide (by8 p (i + 1) = 45) then
                    if (0 : Int) ≤ ((i + 2 : Nat) : Int) ∧ ((i + 2 : Nat) : Int) < (p.length : Int) then
                      some ((p, (), (), (i : Int), false, decide (by8 p (i + 2) ≠ 93), ()), ((0 : Int), (0 : Int), false, (), ()), ((2 : Int), (0 : Int), clsNot p, (), ()), set, ())
                    else none
                  else some ((p, (), (), (i : Int), false, false, ()), ((0 : Int), (0 : Int), false, (), ()), ((2 : Int), (0 : Int), clsNot p, (), ()), set, ())
                else none
              else some ((p, (), (), (i : Int), false, false, ()), ((0 : Int), (0 : Int), false, (), ()), ((2 : Int), (0 : Int), clsNot p, (), ()), set, ()) : Option ((List UInt8 × Unit × Unit × Int × Bool × Bool × Unit) × (Int × Int × Bool × Unit × Unit) × (Int × Int × Bool × Unit × Unit) × List Bool × Unit)) = some ((p, (), (), (i : Int), false, false, ()), ((0 : Int), (0 : Int), false, (), ()), ((2 : Int), (0 : Int), clsNot p, (), ()), set, ()) := by
              intro _ _ _
              by_cases a1 : i + 2 < p.length
              · have d1 : decide (((i + 2 : Nat) : Int) < (p.length : Int)) = true := decide_eq_true (by omega)
                have g1 : (0 : Int) ≤ ((i + 1 : Nat) : Int) ∧ ((i + 1 : Nat) : Int) < (p.length : Int) := by omega
                have g2 : (0 : Int) ≤ ((i + 2 : Nat) : Int) ∧ ((i + 2 : Nat) : Int) < (p.length : Int) := by omega
                rw [d1]; simp only [cond_true, if_pos g1, if_pos g2]
                by_cases a2 : by8 p (i + 1) = 45
                · have a3 : ¬ by8 p (i + 2) ≠ 93 := fun h => hr ⟨a1, a2, h⟩
                  rw [decide_eq_true a2, decide_eq_false a3]; rfl
                · rw [decide_eq_false a2]; rfl
              · have d1 : decide (((i + 2 : Nat) : Int) < (p.length : Int)) = false := decide_eq_false (by omega)
                rw [d1]; rfl
            rw [e3 Unit () ()]
            have c1 : (0 : Int) ≤ (by8 p i : Int) ∧ (by8 p i : Int) < (set.length : Int) := by have := by8_lt p i; omega
            have c2 : by8 p i < set.length := by omega
            simp only [Option.bind_some, cond_false, if_pos hg, Int.toNat_natCast, wb', if_pos c1, if_pos c2, w1]
            rw [if_pos (show (p.getD i 0).toNat < set.length from c2), Option.bind_some]
            refine (hk (p.length - (i + 1)) _ (by omega) ⟨i + 1, false, set.set (by8 p i) true, rfl, by rw [List.length_set]; exact hs, by omega, rfl⟩).trans ?_
            simp only [Int.toNat_natCast]
        · rw [cls_stop hc]
          have step1 : (bif decide ((i : Int) < (p.length : Int)) then bif first then some ((p, (), (), (i : Int), true, ()), ((0 : Int), (0 : Int), false, (), ()), ((2 : Int), (0 : Int), clsNot p, (), ()), set, ()) else if (0 : Int) ≤ (i : Int) ∧ (i : Int) < (p.length : Int) then some ((p, (), (), (i : Int), decide (by8 p i ≠ 93), ()), ((0 : Int), (0 : Int), false, (), ()), ((2 : Int), (0 : Int), clsNot p, (), ()), set, ()) else none else some ((p, (), (), (i : Int), false, ()), ((0 : Int), (0 : Int), false, (), ()), ((2 : Int), (0 : Int), clsNot p, (), ()), set, ()) : Option ((List UInt8 × Unit × Unit × Int × Bool × Unit) × (Int × Int × Bool × Unit × Unit) × (Int × Int × Bool × Unit × Unit) × List Bool × Unit)) = some ((p, (), (), (i : Int), false, ()), ((0 : Int), (0 : Int), false, (), ()), ((2 : Int), (0 : Int), clsNot p, (), ()), set, ()) := by
            by_cases hl : i < p.length
            · rw [decide_eq_true (show ((i : Int) < (p.length : Int)) by omega), cond_true, if_pos (show (0 : Int) ≤ (i : Int) ∧ (i : Int) < (p.length : Int) by omega)]
              have hf : first = false := by cases first; rfl; exact absurd ⟨hl, Or.inl rfl⟩ hc
              have h9 : ¬ by8 p i ≠ 93 := fun h => hc ⟨hl, Or.inr h⟩
              rw [hf, decide_eq_false h9]; rfl
            · rw [decide_eq_false (show ¬((i : Int) < (p.length : Int)) by omega)]; rfl
          rw [step1]
          simp only [Option.bind_some, cond_false]
          by_cases hl : i ≥ p.length
          · rw [decide_eq_true (show (i : Int) ≥ (p.length : Int) by omega), if_pos hl]; rfl
          · rw [decide_eq_false (show ¬((i : Int) ≥ (p.length : Int)) by omega), if_neg hl, cond_false, w1]
      · exact ⟨i0, true, _, rfl, List.length_replicate .., by omega, rfl⟩
      · try simp only []
        omega
      · simp only [Int.toNat_natCast]
  · exact ⟨0, rfl, by omega, rfl⟩
  · try simp only []
    omega
end Go.AM
set_option linter.unusedVariables false
set_option linter.unusedSimpArgs false
namespace Go.AM
open Go
inductive Pc where
  | byte (b : Nat) | any (b : Nat) | star (b : Nat) | stars (b : Nat) | cl (nt : Bool) (s : List Bool)
def Pc.S : Pc → Int × Int × Bool × List Bool
  | .byte b => (0, b, false, [])
  | .any b => (1, b, false, [])
  | .star b => (3, b, false, [])
  | .stars b => (4, b, false, [])
  | .cl nt s => (2, 0, nt, s)
def Pc.I : Pc → Int × Bool × List Bool
  | .byte b => (0, false, (List.replicate 256 false).set b true)
  | .any _ => (1, false, List.replicate 256 false)
  | .star _ => (2, false, List.replicate 256 false)
  | .stars _ => (3, false, List.replicate 256 false)
  | .cl nt s => (4, nt, s)
def pc1 (p : List UInt8) : Option (Pc × Nat) :=
  if (decide (2 ≤ p.length) && (p.take 2 == [42, 42])) = true then some (.stars (by8 p 0), 2)
  else if by8 p 0 = 42 then some (.star (by8 p 0), 1)
  else if by8 p 0 = 63 then some (.any (by8 p 0), 1)
  else if by8 p 0 = 91 then (if (clsR (p.drop 1)).1 ≥ (p.drop 1).length then none else some (.cl (clsNot (p.drop 1)) (clsR (p.drop 1)).2, 1 + ((clsR (p.drop 1)).1 + 1)))
  else if by8 p 0 = 92 then (if p.length < 2 then none else some (.byte (by8 p 1), 2))
  else some (.byte (by8 p 0), 1)
def pcs : Nat → List UInt8 → Option (List Pc)
  | 0, _ => some []
  | n + 1, p => if p.length = 0 then some [] else
    match pc1 p with
    | none => none
    | some (c, m) => (pcs n (p.drop m)).map (c :: ·)
theorem pc1_pos {p c m} (h : pc1 p = some (c, m)) (hp : 0 < p.length) : 1 ≤ m ∧ m ≤ p.length := by
  unfold pc1 at h
  split at h
  · next h1 =>
    simp only [Bool.and_eq_true, decide_eq_true_eq] at h1
    cases h; omega
  split at h
  · cases h; omega
  split at h
  · cases h; omega
  split at h
  · split at h
    · cases h
    · next h2 => cases h; rw [List.length_drop] at h2; omega
  split at h
  · split at h
    · cases h
    · cases h; omega
  · cases h; omega
theorem pcs_more : ∀ n p m, p.length ≤ n → n ≤ m → pcs m p = pcs n p := by
  intro n
  induction n with
  | zero => intro p m h _; cases m with
    | zero => rfl
    | succ m => rw [show pcs 0 p = some [] from rfl, pcs, if_pos (by omega)]
  | succ n ih =>
    intro p m h hm
    obtain ⟨m, rfl⟩ : ∃ m', m = m' + 1 := ⟨m - 1, by omega⟩
    rw [pcs, pcs]
    split
    · rfl
    · next h0 =>
      cases hc : pc1 p with
      | none => rfl
      | some x =>
        obtain ⟨c, k⟩ := x
        have := pc1_pos hc (by omega)
        simp only
        rw [ih (p.drop k) m (by rw [List.length_drop]; omega) (by omega)]
def pieces (p : List UInt8) : Option (List Pc) := pcs p.length p
theorem pieces_nil : pieces [] = some [] := rfl
theorem pieces_none {p} (hp : p.length ≠ 0) (h : pc1 p = none) : pieces p = none := by
  unfold pieces
  obtain ⟨n, hn⟩ : ∃ n, p.length = n + 1 := ⟨p.length - 1, by omega⟩
  rw [hn, pcs, if_neg hp, h]
theorem pieces_some {p c m} (hp : p.length ≠ 0) (h : pc1 p = some (c, m)) : pieces p = (pieces (p.drop m)).map (c :: ·) := by
  have := pc1_pos h (by omega)
  unfold pieces
  obtain ⟨n, hn⟩ : ∃ n, p.length = n + 1 := ⟨p.length - 1, by omega⟩
  rw [hn, pcs, if_neg hp, h]
  simp only
  rw [pcs_more (p.drop m).length (p.drop m) n (by omega) (by rw [List.length_drop]; omega)]
theorem joinC_inl {S α : Type} (s : S) (k : S → Option α) : joinC (some (.inl s)) k = k s := rfl
theorem joinC_inr {S α : Type} (a : α) (k : S → Option α) : joinC (some (.inr a)) k = some a := rfl
theorem joinC_none {S α : Type} (k : S → Option α) : joinC (none) k = none := rfl
theorem l01In_eq (a b c : Int) : m_spec_l01In a b c = some (decide (a ≥ b ∧ a ≤ c), ()) := by
  unfold m_spec_l01In
  by_cases h : a ≥ b <;> by_cases h2 : a ≤ c <;> simp [h, h2]
theorem within_eq (a b c : Int) : m_impl_within a b c = some (decide (a ≥ b ∧ a ≤ c), ()) := by
  unfold m_impl_within
  by_cases h : a ≥ b <;> by_cases h2 : a ≤ c <;> simp [h, h2]
theorem one_eq (p : List UInt8) (j : Nat) : m_impl_one (((p.getD j 0).toNat : Nat) : Int) = some ((Pc.byte (by8 p j)).I, ()) := by
  unfold m_impl_one
  have h := by8_lt p j
  have h1 : (0 : Int) ≤ (((p.getD j 0).toNat : Nat) : Int) ∧ (((p.getD j 0).toNat : Nat) : Int) < ((256 : Nat) : Int) ∧ (((p.getD j 0).toNat : Nat) : Int) < (((List.replicate 256 false).length : Nat) : Int) := by
    unfold by8 at h; rw [List.length_replicate]; omega
  rw [if_pos h1, Int.toNat_natCast, if_pos (by rw [List.length_replicate]; exact h)]
  rfl
theorem eqI (p : List UInt8) (j n : Nat) : ((((p.getD j 0).toNat : Nat) : Int) == (n : Int)) = decide (by8 p j = n) := by
  by_cases h : by8 p j = n
  · rw [decide_eq_true h, beq_iff_eq]; unfold by8 at h; omega
  · rw [decide_eq_false h, beq_eq_false_iff_ne]; unfold by8 at h; omega
theorem impl_pieces_eq (p : List UInt8) : m_impl_pieces p = some (if 1 ≤ p.length ∧ p.length ≤ 60 then (match pieces p with | none => ([], false, ()) | some l => (l.map Pc.I, true, ())) else ([], false, ()), ()) := by
  unfold m_impl_pieces
  rw [within_eq, Option.bind_some]
  by_cases hp : 1 ≤ p.length ∧ p.length ≤ 60
  · rw [decide_eq_true (show (p.length : Int) ≥ 1 ∧ (p.length : Int) ≤ 60 by omega), if_pos hp]
    simp only [Bool.not_true, cond_false]
    refine (loopC_inv _
      (fun n s => ∃ (q : List UInt8) (out : List (Int × Bool × List Bool)), s = ((q, (), ()), out, ()) ∧ q.length ≤ 60 ∧ out.length + q.length ≤ 60 ∧ n = q.length)
      (fun s => some (match pieces s.1.1 with | none => ([], false, ()) | some l => (s.2.1 ++ l.map Pc.I, true, ()), ())) ?_ _ p.length _ ?_ ?_).trans ?_
    · rintro n s k ⟨q, out, rfl, hq, ho, rfl⟩ hk
      dsimp only
      by_cases h0 : q.length = 0
      · have : q = [] := List.eq_nil_of_length_eq_zero h0
        subst this
        rw [pieces_nil]
        exact congrArg (fun l => some ((l, true, ()), ())) (List.append_nil out).symm
      · have hne : (!q == nilOf UInt8) = true := by cases q with
          | nil => exact absurd rfl h0
          | cons => rfl
        rw [hne, cond_true, hasPrefix_eq, Option.bind_some]
        have g0 : (0 : Int) ≤ 0 ∧ (0 : Int) < (q.length : Int) := by omega
        have hk' : ∀ (m : Nat) (c : Pc), pc1 q = some (c, m) → k ((List.drop m (List.take q.length q), (), ()), out ++ [c.I], ()) = some (match pieces q with | none => ([], false, ()) | some l => (out ++ l.map Pc.I, true, ()), ()) := by
          intro m c hc
          have := pc1_pos hc (by omega)
          rw [hk (q.drop m).length _ (by rw [List.length_drop]; omega) ⟨q.drop m, out ++ [c.I], by rw [List.take_length], by rw [List.length_drop]; omega, by rw [List.length_append, List.length_drop]; show out.length + 1 + _ ≤ _; omega, rfl⟩]
          rw [pieces_some h0 hc, List.take_length]
          cases pieces (q.drop m) with
          | none => rfl
          | some l => simp
        have gk : ∀ m c, pc1 q = some (c, m) → ((0 : Int) ≤ (m : Int) ∧ (m : Int) ≤ (q.length : Int) ∧ (q.length : Int) ≤ (q.length : Int)) := by
          intro m c hc; have := pc1_pos hc (by omega); omega
        have gl : ∀ x : Int × Bool × List Bool, (out.length + List.length [x]) * 8 ≤ 140737488355328 := by
          intro x; show (out.length + 1) * 8 ≤ _; omega
        have fin : ∀ (mi : Int) (m : Nat) (c : Pc) (x : Int × Bool × List Bool), mi = (m : Int) → x = c.I → pc1 q = some (c, m) →
            (if (0 : Int) ≤ mi ∧ mi ≤ (q.length : Int) ∧ (q.length : Int) ≤ (q.length : Int) then k ((List.drop (Int.toNat mi) (List.take (Int.toNat (q.length : Int)) q), (), ()), out ++ [x], ()) else none) = some (match pieces q with | none => ([], false, ()) | some l => (out ++ l.map Pc.I, true, ()), ()) := by
          intro mi m c x e1 e2 hc
          subst e1 e2
          rw [if_pos (gk _ _ hc), Int.toNat_natCast, Int.toNat_natCast]
          exact hk' m c hc
        have e42 : ((((q.getD 0 0).toNat : Nat) : Int) == (42 : Int)) = decide (by8 q 0 = 42) := eqI q 0 42
        have e63 : ((((q.getD 0 0).toNat : Nat) : Int) == (63 : Int)) = decide (by8 q 0 = 63) := eqI q 0 63
        have e91 : ((((q.getD 0 0).toNat : Nat) : Int) == (91 : Int)) = decide (by8 q 0 = 91) := eqI q 0 91
        have e92 : ((((q.getD 0 0).toNat : Nat) : Int) == (92 : Int)) = decide (by8 q 0 = 92) := eqI q 0 92
        have tz : Int.toNat (0 : Int) = 0 := rfl
        have t1 : Int.toNat (1 : Int) = 1 := rfl
        by_cases c1 : (decide (2 ≤ q.length) && (q.take 2 == [42, 42])) = true
        · have hc : pc1 q = some (.stars (by8 q 0), 2) := by unfold pc1; rw [if_pos c1]
          rw [show (decide ([(42 : UInt8), 42].length ≤ q.length) && (q.take [(42 : UInt8), 42].length == [42, 42])) = true from c1]
          simp only [cond_true, if_pos (gl _), joinC_inl]
          exact fin _ _ _ _ rfl rfl hc
        · rw [show (decide ([(42 : UInt8), 42].length ≤ q.length) && (q.take [(42 : UInt8), 42].length == [42, 42])) = false from eq_false_of_ne_true c1]
          simp only [cond_false, if_pos g0, tz, t1, e42, e63, e91, e92]
          by_cases c2 : by8 q 0 = 42
          · have hc : pc1 q = some (.star (by8 q 0), 1) := by unfold pc1; rw [if_neg c1, if_pos c2]
            simp only [decide_eq_true c2, cond_true, if_pos (gl _), joinC_inl]
            exact fin _ _ _ _ rfl rfl hc
          by_cases c3 : by8 q 0 = 63
          · have hc : pc1 q = some (.any (by8 q 0), 1) := by unfold pc1; rw [if_neg c1, if_neg c2, if_pos c3]
            simp only [decide_eq_false c2, cond_false, decide_eq_true c3, cond_true, if_pos (gl _), joinC_inl]
            exact fin _ _ _ _ rfl rfl hc
          by_cases c4 : by8 q 0 = 91
          · have g1 : (0 : Int) ≤ 1 ∧ (1 : Int) ≤ (q.length : Int) ∧ (q.length : Int) ≤ (q.length : Int) := by omega
            simp only [decide_eq_false c2, decide_eq_false c3, cond_false, decide_eq_true c4, cond_true, if_pos g1, Int.toNat_natCast, List.take_length]
            have hl : (q.drop 1).length ≤ 60 := by rw [List.length_drop]; omega
            rw [impl_class_eq _ hl, Option.bind_some]
            by_cases c5 : (clsR (q.drop 1)).1 ≥ (q.drop 1).length
            · have hc : pc1 q = none := by unfold pc1; rw [if_neg c1, if_neg c2, if_neg c3, if_pos c4, if_pos c5]
              rw [if_pos c5, pieces_none h0 hc]
              rfl
            · have hc : pc1 q = some (.cl (clsNot (q.drop 1)) (clsR (q.drop 1)).2, 1 + ((clsR (q.drop 1)).1 + 1)) := by unfold pc1; rw [if_neg c1, if_neg c2, if_neg c3, if_pos c4, if_neg c5]
              have := pc1_pos hc (by omega)
              rw [if_neg c5]
              simp only
              rw [show (((((clsR (q.drop 1)).1 + 1 : Nat) : Int)) == (0 : Int)) = false from by rw [beq_eq_false_iff_ne]; omega]
              simp only [cond_false, Option.bind_some, if_pos (gl _), joinC_inl]
              have := fin (IntKind.wrap IntKind.i64 ((1 : Int) + (((clsR (q.drop 1)).1 + 1 : Nat) : Int))) _ _ _ (by rw [wr _ (by omega)]; omega) rfl hc
              simp only [Int.toNat_natCast, List.take_length] at this
              exact this
          by_cases c5 : by8 q 0 = 92
          · simp only [decide_eq_false c2, decide_eq_false c3, decide_eq_false c4, cond_false, decide_eq_true c5, cond_true]
            by_cases c6 : q.length < 2
            · have hc : pc1 q = none := by unfold pc1; rw [if_neg c1, if_neg c2, if_neg c3, if_neg c4, if_pos c5, if_pos c6]
              rw [pieces_none h0 hc, decide_eq_true (show (q.length : Int) < 2 by omega)]
              rfl
            · have hc : pc1 q = some (.byte (by8 q 1), 2) := by unfold pc1; rw [if_neg c1, if_neg c2, if_neg c3, if_neg c4, if_pos c5, if_neg c6]
              rw [decide_eq_false (show ¬(q.length : Int) < 2 by omega)]
              simp only [cond_false]
              rw [if_pos (show (0 : Int) ≤ 1 ∧ (1 : Int) < (q.length : Int) by omega), one_eq, Option.bind_some]
              simp only [if_pos (gl _), joinC_inl]
              exact fin _ _ _ _ rfl rfl hc
          · have hc : pc1 q = some (.byte (by8 q 0), 1) := by unfold pc1; rw [if_neg c1, if_neg c2, if_neg c3, if_neg c4, if_neg c5]
            simp only [decide_eq_false c2, decide_eq_false c3, decide_eq_false c4, decide_eq_false c5, cond_false, one_eq, Option.bind_some, if_pos (gl _), joinC_inl]
            exact fin _ _ _ _ rfl rfl hc
    · exact ⟨p, [], rfl, by omega, by show 0 + _ ≤ _; omega, rfl⟩
    · show p.length < p.length + 0 + 300; omega
    · cases pieces p <;> simp [nilOf]
  · rw [decide_eq_false (by omega), if_neg hp]; rfl
end Go.AM
set_option linter.unusedVariables false
set_option linter.unusedSimpArgs false
namespace Go.AM
open Go
theorem spec_pieces_eq (p : List UInt8) : m_spec_l08Pieces p = some (if 1 ≤ p.length ∧ p.length ≤ 60 then (match pieces p with | none => ([], false, ()) | some l => (l.map Pc.S, true, ())) else ([], false, ()), ()) := by
  unfold m_spec_l08Pieces
  rw [l01In_eq, Option.bind_some]
  by_cases hp : 1 ≤ p.length ∧ p.length ≤ 60
  · rw [decide_eq_true (show (p.length : Int) ≥ 1 ∧ (p.length : Int) ≤ 60 by omega), if_pos hp]
    simp only [Bool.not_true, cond_false]
    refine (loopC_inv _
      (fun n s => ∃ (q : List UInt8) (out : List (Int × Int × Bool × List Bool)), s = ((q, (), ()), out, ()) ∧ q.length ≤ 60 ∧ out.length + q.length ≤ 60 ∧ n = q.length)
      (fun s => some (match pieces s.1.1 with | none => ([], false, ()) | some l => (s.2.1 ++ l.map Pc.S, true, ()), ())) ?_ _ p.length _ ?_ ?_).trans ?_
    · rintro n s k ⟨q, out, rfl, hq, ho, rfl⟩ hk
      dsimp only
      by_cases h0 : q.length = 0
      · have : q = [] := List.eq_nil_of_length_eq_zero h0
        subst this
        rw [pieces_nil]
        exact congrArg (fun l => some ((l, true, ()), ())) (List.append_nil out).symm
      · have g0 : (0 : Int) ≤ 0 ∧ (0 : Int) < (q.length : Int) := by omega
        rw [decide_eq_true (show (q.length : Int) > 0 by omega), cond_true, if_pos g0]
        have hk' : ∀ (m : Nat) (c : Pc), pc1 q = some (c, m) → k ((List.drop m (List.take q.length q), (), ()), out ++ [c.S], ()) = some (match pieces q with | none => ([], false, ()) | some l => (out ++ l.map Pc.S, true, ()), ()) := by
          intro m c hc
          have := pc1_pos hc (by omega)
          rw [hk (q.drop m).length _ (by rw [List.length_drop]; omega) ⟨q.drop m, out ++ [c.S], by rw [List.take_length], by rw [List.length_drop]; omega, by rw [List.length_append, List.length_drop]; show out.length + 1 + _ ≤ _; omega, rfl⟩]
          rw [pieces_some h0 hc, List.take_length]
          cases pieces (q.drop m) with
          | none => rfl
          | some l => simp
        have gk : ∀ m c, pc1 q = some (c, m) → ((0 : Int) ≤ (m : Int) ∧ (m : Int) ≤ (q.length : Int) ∧ (q.length : Int) ≤ (q.length : Int)) := by
          intro m c hc; have := pc1_pos hc (by omega); omega
        have gl : ∀ x : Int × Int × Bool × List Bool, (out.length + List.length [x]) * 40 ≤ 140737488355328 := by
          intro x; show (out.length + 1) * 40 ≤ _; omega
        have fin : ∀ (mi : Int) (m : Nat) (c : Pc) (x : Int × Int × Bool × List Bool), mi = (m : Int) → x = c.S → pc1 q = some (c, m) →
            (if (0 : Int) ≤ mi ∧ mi ≤ (q.length : Int) ∧ (q.length : Int) ≤ (q.length : Int) then k ((List.drop (Int.toNat mi) (List.take (Int.toNat (q.length : Int)) q), (), ()), out ++ [x], ()) else none) = some (match pieces q with | none => ([], false, ()) | some l => (out ++ l.map Pc.S, true, ()), ()) := by
          intro mi m c x e1 e2 hc
          subst e1 e2
          rw [if_pos (gk _ _ hc), Int.toNat_natCast, Int.toNat_natCast]
          exact hk' m c hc
        have e42 : ((((q.getD 0 0).toNat : Nat) : Int) == (42 : Int)) = decide (by8 q 0 = 42) := eqI q 0 42
        have e63 : ((((q.getD 0 0).toNat : Nat) : Int) == (63 : Int)) = decide (by8 q 0 = 63) := eqI q 0 63
        have e91 : ((((q.getD 0 0).toNat : Nat) : Int) == (91 : Int)) = decide (by8 q 0 = 91) := eqI q 0 91
        have e92 : ((((q.getD 0 0).toNat : Nat) : Int) == (92 : Int)) = decide (by8 q 0 = 92) := eqI q 0 92
        have tz : Int.toNat (0 : Int) = 0 := rfl
        have t1 : Int.toNat (1 : Int) = 1 := rfl
        have t2 : Int.toNat (2 : Int) = 2 := rfl
        have es : ∀ X : Int × Int × Bool × Unit × Unit, (bif decide ((q.length : Int) > 1) then
            if (0 : Int) ≤ (0 : Int) ∧ (0 : Int) ≤ (2 : Int) ∧ (2 : Int) ≤ (q.length : Int) then
              some ((q, (), (1 : Int), (), List.take 2 q == [(42 : UInt8), (42 : UInt8)], ()), out, X, ())
            else none
          else some ((q, (), (1 : Int), (), false, ()), out, X, ()) : Option ((List UInt8 × Unit × Int × Unit × Bool × Unit) × List (Int × Int × Bool × List Bool) × (Int × Int × Bool × Unit × Unit) × Unit))
          = some ((q, (), (1 : Int), (), (decide (2 ≤ q.length) && (q.take 2 == [42, 42])), ()), out, X, ()) := by
          intro X
          by_cases h : 2 ≤ q.length
          · rw [decide_eq_true (show (q.length : Int) > 1 by omega), cond_true, if_pos (by omega), decide_eq_true h, Bool.true_and]
          · rw [decide_eq_false (show ¬(q.length : Int) > 1 by omega), decide_eq_false h]; rfl
        simp only [tz, t2, List.drop_zero]
        rw [es, Option.bind_some]
        simp only [tz]
        by_cases c1 : (decide (2 ≤ q.length) && (q.take 2 == [42, 42])) = true
        · have hc : pc1 q = some (.stars (by8 q 0), 2) := by unfold pc1; rw [if_pos c1]
          rw [c1]
          simp only [cond_true, joinC_inl, if_pos (gl _)]
          exact fin _ _ _ _ rfl rfl hc
        · rw [eq_false_of_ne_true c1]
          simp only [cond_false, if_pos g0, tz, t1, e42, e63, e91, e92]
          by_cases c2 : by8 q 0 = 42
          · have hc : pc1 q = some (.star (by8 q 0), 1) := by unfold pc1; rw [if_neg c1, if_pos c2]
            simp only [decide_eq_true c2, cond_true, if_pos (gl _), joinC_inl]
            exact fin _ _ _ _ rfl rfl hc
          by_cases c3 : by8 q 0 = 63
          · have hc : pc1 q = some (.any (by8 q 0), 1) := by unfold pc1; rw [if_neg c1, if_neg c2, if_pos c3]
            simp only [decide_eq_false c2, cond_false, decide_eq_true c3, cond_true, if_pos (gl _), joinC_inl]
            exact fin _ _ _ _ rfl rfl hc
          by_cases c4 : by8 q 0 = 91
          · have g1 : (0 : Int) ≤ 1 ∧ (1 : Int) ≤ (q.length : Int) ∧ (q.length : Int) ≤ (q.length : Int) := by omega
            simp only [decide_eq_false c2, decide_eq_false c3, cond_false, decide_eq_true c4, cond_true, if_pos g1, Int.toNat_natCast, List.take_length]
            have hl : (q.drop 1).length ≤ 60 := by rw [List.length_drop]; omega
            rw [spec_class_eq _ hl, Option.bind_some]
            by_cases c5 : (clsR (q.drop 1)).1 ≥ (q.drop 1).length
            · have hc : pc1 q = none := by unfold pc1; rw [if_neg c1, if_neg c2, if_neg c3, if_pos c4, if_pos c5]
              rw [if_pos c5, pieces_none h0 hc]
              rfl
            · have hc : pc1 q = some (.cl (clsNot (q.drop 1)) (clsR (q.drop 1)).2, 1 + ((clsR (q.drop 1)).1 + 1)) := by unfold pc1; rw [if_neg c1, if_neg c2, if_neg c3, if_pos c4, if_neg c5]
              have := pc1_pos hc (by omega)
              rw [if_neg c5]
              simp only
              rw [show (((((clsR (q.drop 1)).1 + 1 : Nat) : Int)) == (0 : Int)) = false from by rw [beq_eq_false_iff_ne]; omega]
              simp only [cond_false, Option.bind_some, if_pos (gl _), joinC_inl]
              have := fin (IntKind.wrap IntKind.i64 ((1 : Int) + (((clsR (q.drop 1)).1 + 1 : Nat) : Int))) _ _ _ (by rw [wr _ (by omega)]; omega) rfl hc
              simp only [Int.toNat_natCast, List.take_length] at this
              exact this
          by_cases c5 : by8 q 0 = 92
          · simp only [decide_eq_false c2, decide_eq_false c3, decide_eq_false c4, cond_false, decide_eq_true c5, cond_true]
            by_cases c6 : q.length < 2
            · have hc : pc1 q = none := by unfold pc1; rw [if_neg c1, if_neg c2, if_neg c3, if_neg c4, if_pos c5, if_pos c6]
              have : ((q.length : Int) == (1 : Int)) = true := by rw [beq_iff_eq]; omega
              rw [pieces_none h0 hc, this]
              rfl
            · have hc : pc1 q = some (.byte (by8 q 1), 2) := by unfold pc1; rw [if_neg c1, if_neg c2, if_neg c3, if_neg c4, if_pos c5, if_neg c6]
              have : ((q.length : Int) == (1 : Int)) = false := by rw [beq_eq_false_iff_ne]; omega
              rw [this]
              simp only [cond_false]
              rw [if_pos (show (0 : Int) ≤ 1 ∧ (1 : Int) < (q.length : Int) by omega)]
              simp only [if_pos (gl _), joinC_inl]
              exact fin _ _ _ _ rfl rfl hc
          · have hc : pc1 q = some (.byte (by8 q 0), 1) := by unfold pc1; rw [if_neg c1, if_neg c2, if_neg c3, if_neg c4, if_neg c5]
            simp only [decide_eq_false c2, decide_eq_false c3, decide_eq_false c4, decide_eq_false c5, cond_false, if_pos (gl _), joinC_inl]
            exact fin _ _ _ _ rfl rfl hc
    · exact ⟨p, [], rfl, by omega, by show 0 + _ ≤ _; omega, rfl⟩
    · show p.length < p.length + 0 + 300; omega
    · cases pieces p <;> simp [nilOf]
  · rw [decide_eq_false (by omega), if_neg hp]; rfl
end Go.AM
set_option linter.unusedVariables false
set_option linter.unusedSimpArgs false
namespace Go.AM
open Go
def Pc.takes : Pc → Nat → Bool
  | .byte x, b => b == x
  | .any _, b => b != 47
  | .star _, b => b != 47
  | .stars _, _ => true
  | .cl nt s, b => b != 47 && (!(s.getD b false == nt))
def Pc.many : Pc → Bool
  | .star _ => true
  | .stars _ => true
  | _ => false
def Pc.wf : Pc → Prop
  | .byte x => x < 256
  | .cl _ s => s.length = 256
  | _ => True
theorem clsR_len (p : List UInt8) : (clsR p).2.length = 256 := by
  unfold clsR; rw [cls_len p _ _ _ _ (Nat.le_refl _), List.length_replicate]
theorem pc1_wf {p c m} (h : pc1 p = some (c, m)) : c.wf := by
  unfold pc1 at h
  split at h
  · cases h; trivial
  split at h
  · cases h; trivial
  split at h
  · cases h; trivial
  split at h
  · split at h
    · cases h
    · cases h; exact clsR_len _
  split at h
  · split at h
    · cases h
    · cases h; exact by8_lt _ _
  · cases h; exact by8_lt _ _
theorem pcs_wf : ∀ n p l, pcs n p = some l → ∀ c ∈ l, c.wf := by
  intro n
  induction n with
  | zero => intro p l h; cases h; intro c hc; cases hc
  | succ n ih =>
    intro p l h
    rw [pcs] at h
    split at h
    · cases h; intro c hc; cases hc
    · cases hc : pc1 p with
      | none => rw [hc] at h; cases h
      | some x =>
        obtain ⟨c, k⟩ := x
        rw [hc] at h
        simp only at h
        cases hq : pcs n (p.drop k) with
        | none => rw [hq] at h; cases h
        | some l' =>
          rw [hq] at h
          cases h
          intro d hd
          rcases List.mem_cons.mp hd with rfl | hd
          · exact pc1_wf hc
          · exact ih _ _ hq d hd
theorem pieces_wf {p l} (h : pieces p = some l) : ∀ c ∈ l, c.wf := pcs_wf _ _ _ h
theorem pieces_len : ∀ n p l, pcs n p = some l → l.length ≤ n := by
  intro n
  induction n with
  | zero => intro p l h; cases h; exact Nat.le_refl _
  | succ n ih =>
    intro p l h
    rw [pcs] at h
    split at h
    · cases h; exact Nat.zero_le _
    · cases hc : pc1 p with
      | none => rw [hc] at h; cases h
      | some x =>
        obtain ⟨c, k⟩ := x
        rw [hc] at h
        simp only at h
        cases hq : pcs n (p.drop k) with
        | none => rw [hq] at h; cases h
        | some l' => rw [hq] at h; cases h; have := ih _ _ hq; simp only [List.length_cons]; omega
theorem ne47 (b : Nat) : (((b : Nat) : Int) != (47 : Int)) = (b != 47) := by
  by_cases h : b = 47
  · subst h; rfl
  · rw [bne_iff_ne.mpr h, bne_iff_ne]; omega
theorem eqNN (a b : Nat) : (((a : Nat) : Int) == ((b : Nat) : Int)) = (a == b) := by
  by_cases h : a = b
  · subst h; simp
  · rw [beq_eq_false_iff_ne.mpr h, beq_eq_false_iff_ne]; omega
theorem spec_one_eq (c : Pc) (hc : c.wf) (b : Nat) (hb : b < 256) : m_spec_l08One c.S (b : Int) = some (c.takes b, ()) := by
  unfold m_spec_l08One
  cases c with
  | byte x => show some ((((b : Nat) : Int) == ((x : Nat) : Int)), ()) = _; rw [eqNN]; rfl
  | any x => show some (((b : Nat) : Int) != (47 : Int), ()) = _; rw [ne47]; rfl
  | star x => show some (((b : Nat) : Int) != (47 : Int), ()) = _; rw [ne47]; rfl
  | stars x => rfl
  | cl nt s =>
    have hl : s.length = 256 := hc
    show Option.bind (bif ((b : Nat) : Int) != (47 : Int) then (if (0 : Int) ≤ (b : Int) ∧ (b : Int) < (s.length : Int) then some ((!(List.getD s (Int.toNat (b : Int)) false == nt), ()), ()) else none) else some ((false, ()), ())) _ = _
    rw [ne47, if_pos (by omega), Int.toNat_natCast]
    show _ = some (b != 47 && (!(s.getD b false == nt)), ())
    cases (b != 47) <;> rfl
theorem many_eq (c : Pc) : m_impl_piece_isMany c.I = some (c.many, ()) := by cases c <;> rfl
set_option maxRecDepth 100000 in
theorem takes_eq (c : Pc) (hc : c.wf) (b : Nat) (hb : b < 256) : m_impl_piece_takes c.I (b : Int) = some (c.takes b, ()) := by
  unfold m_impl_piece_takes
  cases c with
  | byte x =>
    have hx : x < 256 := hc
    show (if (0 : Int) ≤ (b : Int) ∧ (b : Int) < ((256 : Nat) : Int) ∧ (b : Int) < ((((List.replicate 256 false).set x true).length : Nat) : Int) then some (List.getD ((List.replicate 256 false).set x true) (Int.toNat (b : Int)) false, ()) else none) = some (b == x, ())
    rw [if_pos (by rw [List.length_set, List.length_replicate]; omega), Int.toNat_natCast, List.getD_eq_getElem?_getD, List.getElem?_set]
    by_cases h : x = b
    · subst h; rw [if_pos rfl, if_pos (by rw [List.length_replicate]; exact hx)]; simp
    · rw [if_neg h, List.getElem?_replicate, if_pos hb, beq_eq_false_iff_ne.mpr (fun e => h e.symm)]; rfl
  | any x => show some (((b : Nat) : Int) != (47 : Int), ()) = _; rw [ne47]; rfl
  | star x => show some (((b : Nat) : Int) != (47 : Int), ()) = _; rw [ne47]; rfl
  | stars x => rfl
  | cl nt s =>
    have hl : s.length = 256 := hc
    show Option.bind (bif ((b : Nat) : Int) != (47 : Int) then (if (0 : Int) ≤ (b : Int) ∧ (b : Int) < ((256 : Nat) : Int) ∧ (b : Int) < (s.length : Int) then some ((!(List.getD s (Int.toNat (b : Int)) false == nt), ()), ()) else none) else some ((false, ()), ())) _ = _
    rw [ne47, if_pos (by omega), Int.toNat_natCast]
    show _ = some (b != 47 && (!(s.getD b false == nt)), ())
    cases (b != 47) <;> rfl
def nx (c : Pc) (s : List UInt8) (at' : List Bool) : Nat → Bool
  | 0 => c.many && at'.getD 0 false
  | i + 1 => bif c.many then at'.getD (i + 1) false || (nx c s at' i && c.takes (by8 s i)) else at'.getD i false && c.takes (by8 s i)
def rowOf (f : Nat → Bool) (n : Nat) : List Bool := (List.range (n + 1)).map f
theorem rowOf_len (f n) : (rowOf f n).length = n + 1 := by simp [rowOf]
theorem eq_rowOf {f : Nat → Bool} {n : Nat} {l : List Bool} (hl : l.length = n + 1) (h : ∀ j, j ≤ n → l.getD j false = f j) : l = rowOf f n := by
  apply List.ext_getElem
  · rw [hl, rowOf_len]
  · intro i h1 h2
    have := h i (by omega)
    rw [List.getD_eq_getElem?_getD, List.getElem?_eq_getElem h1] at this
    simp only [rowOf, List.getElem_map, List.getElem_range]
    exact this
def row0 (n : Nat) : List Bool := true :: List.replicate n false
def rows (s : List UInt8) (l : List Pc) (at' : List Bool) : List Bool := l.foldl (fun a c => rowOf (nx c s a) s.length) at'
def matchP (l : List Pc) (s : List UInt8) : Bool := (rows s l (row0 s.length)).getD s.length false
end Go.AM
set_option linter.unusedVariables false
set_option linter.unusedSimpArgs false
namespace Go.AM
open Go
theorem getD_set {l : List Bool} {i j : Nat} {b : Bool} (hi : i < l.length) : (l.set i b).getD j false = if i = j then b else l.getD j false := by
  rw [List.getD_eq_getElem?_getD, List.getElem?_set]
  by_cases h : i = j
  · rw [if_pos h, if_pos h, if_pos hi]; rfl
  · rw [if_neg h, if_neg h, List.getD_eq_getElem?_getD]
theorem getD_rep {n j : Nat} : (List.replicate n false).getD j false = false := by
  rw [List.getD_eq_getElem?_getD, List.getElem?_replicate]; split <;> rfl
/-- What stands ahead of step i at place i in the reference's row. -/
def pre (c : Pc) (s : List UInt8) (at' : List Bool) : Nat → Bool
  | 0 => false
  | i + 1 => c.takes (by8 s i) && (at'.getD i false || (c.many && nx c s at' i))
theorem nx_pre (c : Pc) (s at' i) : nx c s at' i = ((c.many && at'.getD i false) || pre c s at' i) := by
  cases i with
  | zero => rw [nx, pre, Bool.or_false]
  | succ i =>
    rw [nx, pre]
    cases hm : c.many with
    | false => cases c.takes (by8 s i) <;> cases at'.getD i false <;> rfl
    | true =>
      cases i with
      | zero => rw [nx, hm]; cases c.takes (by8 s 0) <;> cases at'.getD 0 false <;> cases at'.getD 1 false <;> rfl
      | succ i =>
        rw [nx, hm]
        cases c.takes (by8 s (i + 1)) <;> cases at'.getD (i + 1) false <;> cases at'.getD (i + 1 + 1) false <;> simp
theorem manyS (c : Pc) : decide (c.S.1 ≥ 3) = c.many := by cases c <;> rfl
theorem mapS_getD (l : List Pc) (k : Nat) (hk : k < l.length) (d) : (l.map Pc.S).getD k d = (l[k]).S := by
  rw [List.getD_eq_getElem?_getD, List.getElem?_map, List.getElem?_eq_getElem hk]; rfl
def nxt1 (c : Pc) (at' next : List Bool) (i : Nat) : List Bool := bif c.many && at'.getD i false then next.set i true else next
def nxt2 (n : Nat) (c : Pc) (s : List UInt8) (at' next : List Bool) (i : Nat) : List Bool := bif decide (i < n) && pre c s at' (i + 1) then (nxt1 c at' next i).set (i + 1) true else nxt1 c at' next i
def RowInv (n : Nat) (c : Pc) (s : List UInt8) (at' : List Bool) (i : Nat) (next : List Bool) : Prop :=
  next.length = n + 1 ∧ ∀ j, j ≤ n → next.getD j false = if j < i then nx c s at' j else if j = i then pre c s at' i else false
theorem nxt1_len {c at' next i} : (nxt1 c at' next i).length = next.length := by unfold nxt1; cases (c.many && at'.getD i false) <;> simp
theorem nxt1_at {n c s at' next i} (h : RowInv n c s at' i next) (hi : i ≤ n) : (nxt1 c at' next i).getD i false = nx c s at' i := by
  have h2 := h.2 i hi
  rw [if_neg (Nat.lt_irrefl i), if_pos rfl] at h2
  rw [nx_pre]
  unfold nxt1
  cases (c.many && at'.getD i false) with
  | true => rw [cond_true, getD_set (by rw [h.1]; omega), if_pos rfl]; rfl
  | false => rw [cond_false, h2]; rfl
theorem nxt1_ne {n c s at' next i j} (h : RowInv n c s at' i next) (hi : i ≤ n) (hj : j ≠ i) : (nxt1 c at' next i).getD j false = next.getD j false := by
  unfold nxt1
  cases (c.many && at'.getD i false) with
  | true => rw [cond_true, getD_set (by rw [h.1]; omega), if_neg (fun e => hj e.symm)]
  | false => rw [cond_false]
theorem RowInv.step {n c s at' next i} (h : RowInv n c s at' i next) (hi : i ≤ n) : RowInv n c s at' (i + 1) (nxt2 n c s at' next i) := by
  constructor
  · unfold nxt2; cases (decide (i < n) && pre c s at' (i + 1)) <;> simp [nxt1_len, h.1]
  · intro j hj
    have key : (nxt2 n c s at' next i).getD j false = if j = i + 1 then pre c s at' (i + 1) else (nxt1 c at' next i).getD j false := by
      unfold nxt2
      by_cases hin : i < n
      · rw [decide_eq_true hin, Bool.true_and]
        cases hp : pre c s at' (i + 1) with
        | true =>
          rw [cond_true, getD_set (by rw [nxt1_len, h.1]; omega)]
          by_cases hj1 : j = i + 1
          · rw [if_pos hj1, if_pos hj1.symm]
          · rw [if_neg hj1, if_neg (fun e => hj1 e.symm)]
        | false =>
          rw [cond_false]
          by_cases hj1 : j = i + 1
          · rw [if_pos hj1, nxt1_ne h hi (by omega), h.2 j hj, if_neg (by omega), if_neg (by omega)]
          · rw [if_neg hj1]
      · rw [decide_eq_false hin, Bool.false_and, cond_false, if_neg (by omega)]
    rw [key]
    by_cases hj1 : j = i + 1
    · rw [if_pos hj1, if_neg (by omega), if_pos hj1]
    · rw [if_neg hj1]
      by_cases hji : j = i
      · subst hji; rw [if_pos (by omega), nxt1_at h hi]
      · rw [nxt1_ne h hi hji, h.2 j hj, if_neg hji, if_neg hj1]
        by_cases hl : j < i
        · rw [if_pos hl, if_pos (by omega)]
        · rw [if_neg hl, if_neg (by omega)]
def matchB (p s : List UInt8) : Bool := match (if 1 ≤ p.length ∧ p.length ≤ 60 then pieces p else none) with | none => false | some l => decide (s.length ≤ 200) && matchP l s
theorem spec_match_eq (p s : List UInt8) : m_spec_Match p s = some (matchB p s, ()) := by
  unfold m_spec_Match matchB
  rw [spec_pieces_eq, Option.bind_some]
  by_cases hp : 1 ≤ p.length ∧ p.length ≤ 60
  · rw [if_pos hp, if_pos hp]
    cases hq : pieces p with
    | none => rfl
    | some l =>
      have hwf := pieces_wf hq
      have hll : l.length ≤ 60 := by have := pieces_len _ _ _ hq; omega
      simp only [Bool.not_true, cond_false, Option.bind_some]
      by_cases hs : s.length ≤ 200
      · rw [decide_eq_false (show ¬(s.length : Int) > 200 by omega), decide_eq_true hs]
        simp only [cond_false, Bool.true_and]
        refine (congrArg (fun o => Option.bind o _) ((loopC_inv _
          (fun n st => ∃ (i : Nat), st = ((s, l.map Pc.S, (), (i : Int), ()), true :: List.replicate i false, ()) ∧ i ≤ s.length ∧ n = s.length - i)
          (fun st => some ((s, l.map Pc.S, (), ()), row0 s.length, ())) ?_ _ s.length _ ?_ ?_))).trans ?_
        · rintro n st k ⟨i, rfl, hi, rfl⟩ hk
          dsimp only
          by_cases hlt : i < s.length
          · rw [decide_eq_true (show (i : Int) < (s.length : Int) by omega), cond_true, if_pos (by simp only [List.length_cons, List.length_replicate, List.length_nil]; omega)]
            rw [hk (s.length - (i + 1)) _ (by omega) ⟨i + 1, by rw [wr _ (by omega), List.replicate_succ']; rfl, by omega, rfl⟩]
          · have : i = s.length := by omega
            rw [decide_eq_false (by omega), cond_false, this]; rfl
        · exact ⟨0, rfl, by omega, rfl⟩
        · simp only [List.length_map]; omega
        · simp only [Option.bind_some]
          refine (congrArg (fun o => Option.bind o _) ((loopC_inv _
            (fun n st => ∃ (k : Nat) (at' : List Bool), st = ((s, l.map Pc.S, (), (k : Int), ()), at', ()) ∧ at'.length = s.length + 1 ∧ k ≤ l.length ∧ n = l.length - k)
            (fun st => some ((s, (), ()), rows s (l.drop st.1.2.2.2.1.toNat) st.2.1, ())) ?_ _ l.length _ ?_ ?_))).trans ?_
          · rintro n st kk ⟨k, at', rfl, hat, hkl, rfl⟩ hk
            dsimp only
            by_cases hlt : k < l.length
            · rw [decide_eq_true (show (k : Int) < (((l.map Pc.S).length : Nat) : Int) by rw [List.length_map]; omega), cond_true]
              refine (congrArg (fun o => Option.bind o _) ((loopC_inv _
                (fun n st => ∃ (i : Nat), st = ((s, l.map Pc.S, (), (k : Int), (), (i : Int), ()), at', List.replicate i false, ()) ∧ i ≤ s.length + 1 ∧ n = s.length + 1 - i)
                (fun st => some ((s, l.map Pc.S, (), (k : Int), (), ()), at', List.replicate (s.length + 1) false, ())) ?_ _ (s.length + 1) _ ?_ ?_))).trans ?_
              · rintro n st k1 ⟨i, rfl, hi, rfl⟩ hk1
                dsimp only
                by_cases hlt : i ≤ s.length
                · rw [decide_eq_true (show (i : Int) ≤ (s.length : Int) by omega), cond_true, if_pos (by simp only [List.length_cons, List.length_replicate, List.length_nil]; omega)]
                  rw [hk1 (s.length + 1 - (i + 1)) _ (by omega) ⟨i + 1, by rw [wr _ (by omega), List.replicate_succ']; rfl, by omega, rfl⟩]
                · have : i = s.length + 1 := by omega
                  rw [decide_eq_false (by omega), cond_false, this]
              · exact ⟨0, rfl, by omega, rfl⟩
              · simp only [List.length_map, hat]; omega
              · simp only [Option.bind_some]
                have hkc : (l[k]).wf := hwf _ (List.getElem_mem hlt)
                have g1 : (0 : Int) ≤ (k : Int) ∧ (k : Int) < (((l.map Pc.S).length : Nat) : Int) := by rw [List.length_map]; omega
                rw [if_pos g1]
                simp only [Int.toNat_natCast, mapS_getD l k hlt, manyS]
                generalize hc : l[k] = c at hkc ⊢
                refine (congrArg (fun o => Option.bind o _) ((loopC_inv _
                  (fun n st => ∃ (i : Nat) (next : List Bool), st = ((s, l.map Pc.S, (), (k : Int), (), c.many, (i : Int), ()), at', next, ()) ∧ i ≤ s.length + 1 ∧ RowInv s.length c s at' i next ∧ n = s.length + 1 - i)
                  (fun st => some ((s, l.map Pc.S, (k : Int), (), ()), rowOf (nx c s at') s.length, ())) ?_ _ (s.length + 1) _ ?_ ?_))).trans ?_
                · rintro n st k1 ⟨i, next, rfl, hi, hinv, rfl⟩ hk1
                  have w1 : IntKind.wrap IntKind.i64 ((i : Int) + 1) = ((i + 1 : Nat) : Int) := by rw [wr _ (by omega)]; omega
                  dsimp only
                  by_cases hle : i ≤ s.length
                  · have hst := hk1 (s.length + 1 - (i + 1)) ((s, l.map Pc.S, (), (k : Int), (), c.many, ((i + 1 : Nat) : Int), ()), at', nxt2 s.length c s at' next i, ()) (by omega) ⟨i + 1, _, rfl, by omega, hinv.step hle, rfl⟩
                    rw [decide_eq_true (show (i : Int) ≤ (s.length : Int) by omega), cond_true]
                    have ga : (0 : Int) ≤ (i : Int) ∧ (i : Int) < (at'.length : Int) := by omega
                    have ga' : i < at'.length := by omega
                    have hn1 : next.length = s.length + 1 := hinv.1
                    have gn : (0 : Int) ≤ (i : Int) ∧ (i : Int) < (next.length : Int) := by omega
                    have gn' : i < next.length := by omega
                    have hc' : ∀ d, (l.map Pc.S).getD k d = c.S := fun d => by rw [mapS_getD l k hlt, hc]
                    simp only [Int.toNat_natCast, if_pos ga, if_pos ga', if_pos gn, if_pos gn', w1, hc']
                    have b12 : (bif c.many then some ((s, l.map Pc.S, (), (k : Int), (), c.many, (i : Int), at'.getD i false, ()), at', next, ()) else some ((s, l.map Pc.S, (), (k : Int), (), c.many, (i : Int), false, ()), at', next, ()) : Option ((List UInt8 × List (Int × Int × Bool × List Bool) × Unit × Int × Unit × Bool × Int × Bool × Unit) × List Bool × List Bool × Unit))
                        = some ((s, l.map Pc.S, (), (k : Int), (), c.many, (i : Int), c.many && at'.getD i false, ()), at', next, ()) := by cases c.many <;> rfl
                    rw [b12, Option.bind_some]
                    simp only [Int.toNat_natCast, if_pos gn, if_pos gn']
                    have b13 : (bif c.many && at'.getD i false then some ((s, l.map Pc.S, (), (k : Int), (), c.many, (i : Int), ()), at', next.set i true, ()) else some ((s, l.map Pc.S, (), (k : Int), (), c.many, (i : Int), ()), at', next, ()) : Option ((List UInt8 × List (Int × Int × Bool × List Bool) × Unit × Int × Unit × Bool × Int × Unit) × List Bool × List Bool × Unit))
                        = some ((s, l.map Pc.S, (), (k : Int), (), c.many, (i : Int), ()), at', nxt1 c at' next i, ()) := by unfold nxt1; cases (c.many && at'.getD i false) <;> rfl
                    rw [b13, Option.bind_some]
                    have hn2 : (nxt1 c at' next i).length = s.length + 1 := by rw [nxt1_len, hn1]
                    have hx := nxt1_at hinv hle
                    have gm : (0 : Int) ≤ (i : Int) ∧ (i : Int) < ((nxt1 c at' next i).length : Int) := by omega
                    have gm' : i < (nxt1 c at' next i).length := by omega
                    have hone : m_spec_l08One (c.S.1, c.S.2.1, c.S.2.2.1, c.S.2.2.2) (((s.getD i 0).toNat : Nat) : Int) = some (c.takes (by8 s i), ()) := spec_one_eq c hkc (by8 s i) (by8_lt _ _)
                    simp only [Int.toNat_natCast, if_pos gm, if_pos gm', if_pos ga, if_pos ga', hc', hone, Option.bind_some, hx, if_pos g1]
                    have b14 : (bif decide ((i : Int) < (s.length : Int)) then
                          (if (0 : Int) ≤ (i : Int) ∧ (i : Int) < (s.length : Int) then
                            (bif c.takes (by8 s i) then
                              (bif at'.getD i false then some ((s, l.map Pc.S, (), (k : Int), (), c.many, (i : Int), true, ()), at', nxt1 c at' next i, ())
                               else (bif c.many then some ((s, l.map Pc.S, (), (k : Int), (), c.many, (i : Int), nx c s at' i, ()), at', nxt1 c at' next i, ())
                                else some ((s, l.map Pc.S, (), (k : Int), (), c.many, (i : Int), false, ()), at', nxt1 c at' next i, ())))
                             else some ((s, l.map Pc.S, (), (k : Int), (), c.many, (i : Int), false, ()), at', nxt1 c at' next i, ()))
                           else none)
                         else some ((s, l.map Pc.S, (), (k : Int), (), c.many, (i : Int), false, ()), at', nxt1 c at' next i, ()) : Option ((List UInt8 × List (Int × Int × Bool × List Bool) × Unit × Int × Unit × Bool × Int × Bool × Unit) × List Bool × List Bool × Unit))
                        = some ((s, l.map Pc.S, (), (k : Int), (), c.many, (i : Int), decide (i < s.length) && pre c s at' (i + 1), ()), at', nxt1 c at' next i, ()) := by
                      by_cases hlt2 : i < s.length
                      · rw [decide_eq_true (show (i : Int) < (s.length : Int) by omega), cond_true, if_pos (by omega), decide_eq_true hlt2, Bool.true_and, pre]
                        cases c.takes (by8 s i) <;> cases at'.getD i false <;> cases c.many <;> rfl
                      · rw [decide_eq_false (show ¬(i : Int) < (s.length : Int) by omega), decide_eq_false hlt2]; rfl
                    rw [b14, Option.bind_some]
                    simp only [w1, Int.toNat_natCast]
                    have b15 : (bif decide (i < s.length) && pre c s at' (i + 1) then
                          (if (0 : Int) ≤ ((i + 1 : Nat) : Int) ∧ ((i + 1 : Nat) : Int) < ((nxt1 c at' next i).length : Int) then
                            (if i + 1 < (nxt1 c at' next i).length then some ((s, l.map Pc.S, (), (k : Int), (), c.many, (i : Int), ()), at', (nxt1 c at' next i).set (i + 1) true, ()) else none) else none)
                         else some ((s, l.map Pc.S, (), (k : Int), (), c.many, (i : Int), ()), at', nxt1 c at' next i, ()) : Option ((List UInt8 × List (Int × Int × Bool × List Bool) × Unit × Int × Unit × Bool × Int × Unit) × List Bool × List Bool × Unit))
                        = some ((s, l.map Pc.S, (), (k : Int), (), c.many, (i : Int), ()), at', nxt2 s.length c s at' next i, ()) := by
                      unfold nxt2
                      by_cases hlt2 : i < s.length
                      · rw [if_pos (by omega), if_pos (by omega)]; cases (decide (i < s.length) && pre c s at' (i + 1)) <;> rfl
                      · rw [decide_eq_false hlt2]; rfl
                    rw [b15, Option.bind_some]
                    simp only [w1]
                    exact hst
                  · have : i = s.length + 1 := by omega
                    rw [decide_eq_false (by omega), cond_false]
                    have : next = rowOf (nx c s at') s.length := eq_rowOf hinv.1 (fun j hj => by rw [hinv.2 j hj, if_pos (by omega)])
                    rw [this]
                · exact ⟨0, _, rfl, by omega, ⟨by simp, fun j hj => by rw [getD_rep, if_neg (by omega)]; split <;> rfl⟩, rfl⟩
                · simp only [List.length_map, hat]; omega
                · simp only [Option.bind_some]
                  have w1 : IntKind.wrap IntKind.i64 ((k : Int) + 1) = ((k + 1 : Nat) : Int) := by rw [wr _ (by omega)]; omega
                  rw [w1, hk (l.length - (k + 1)) _ (by omega) ⟨k + 1, _, rfl, rowOf_len _ _, by omega, rfl⟩]
                  simp only [Int.toNat_natCast]
                  rw [List.drop_eq_getElem_cons hlt, hc]
                  rfl
            · have : k = l.length := by omega
              rw [decide_eq_false (by rw [List.length_map]; omega), cond_false, this]
              simp only [Int.toNat_natCast, List.drop_length]; rfl
          · exact ⟨0, _, rfl, by simp [row0], by omega, rfl⟩
          · simp only [List.length_map]; omega
          · simp only [Option.bind_some, Int.toNat_zero, List.drop_zero]
            have hlen : (rows s l (row0 s.length)).length = s.length + 1 := by
              unfold rows
              have : ∀ (l : List Pc) (a : List Bool), a.length = s.length + 1 → (l.foldl (fun a c => rowOf (nx c s a) s.length) a).length = s.length + 1 := by
                intro l
                induction l with
                | nil => intro a h; exact h
                | cons c l ih => intro a h; exact ih _ (rowOf_len _ _)
              exact this _ _ (by simp [row0])
            rw [if_pos (by omega), Int.toNat_natCast, if_pos (by omega)]
            rfl
      · rw [decide_eq_true (show (s.length : Int) > 200 by omega), decide_eq_false hs]; rfl
  · rw [if_neg hp, if_neg hp]; rfl
end Go.AM
set_option linter.unusedVariables false
set_option linter.unusedSimpArgs false
namespace Go.AM
open Go
theorem mapI_getD (l : List Pc) (k : Nat) (hk : k < l.length) (d) : (l.map Pc.I).getD k d = (l[k]).I := by
  rw [List.getD_eq_getElem?_getD, List.getElem?_map, List.getElem?_eq_getElem hk]; rfl
def RowI (n : Nat) (c : Pc) (s : List UInt8) (at' : List Bool) (i : Nat) (next : List Bool) : Prop :=
  next.length = n + 1 ∧ ∀ j, j ≤ n → next.getD j false = if j < i then nx c s at' j else false
theorem RowI.set {n c s at' next i} (h : RowI n c s at' i next) (hi : i ≤ n) {x : Bool} (hx : x = nx c s at' i) : RowI n c s at' (i + 1) (next.set i x) := by
  refine ⟨by rw [List.length_set]; exact h.1, fun j hj => ?_⟩
  rw [getD_set (by rw [h.1]; omega)]
  by_cases hij : i = j
  · subst hij; rw [if_pos rfl, if_pos (by omega), hx]
  · rw [if_neg hij, h.2 j hj]
    by_cases hl : j < i
    · rw [if_pos hl, if_pos (by omega)]
    · rw [if_neg hl, if_neg (by omega)]
theorem RowI.same {n c s at' next i} (h : RowI n c s at' i next) (hx : nx c s at' i = false) : RowI n c s at' (i + 1) next := by
  refine ⟨h.1, fun j hj => ?_⟩
  rw [h.2 j hj]
  by_cases hij : j = i
  · subst hij; rw [if_neg (by omega), if_pos (by omega), hx]
  · by_cases hl : j < i
    · rw [if_pos hl, if_pos (by omega)]
    · rw [if_neg hl, if_neg (by omega)]
theorem impl_match_eq (l : List Pc) (hwf : ∀ c ∈ l, c.wf) (hll : l.length ≤ 60) (s : List UInt8) (hs : s.length ≤ 200) : m_impl_match (l.map Pc.I) s = some (matchP l s, ()) := by
  unfold m_impl_match
  have wn : IntKind.wrap IntKind.i64 ((s.length : Int) + 1) = ((s.length + 1 : Nat) : Int) := by rw [wr _ (by omega)]; omega
  have gq : (0 : Int) ≤ ((s.length + 1 : Nat) : Int) ∧ ((s.length + 1 : Nat) : Int) ≤ ((s.length + 1 : Nat) : Int) ∧ ((1 : Nat) : Int) * ((s.length + 1 : Nat) : Int) ≤ (140737488355328 : Int) ∧ ((s.length + 1 : Nat) : Int) < (2 : Int) ^ (62 : Nat) := by
    refine ⟨by omega, by omega, by omega, ?_⟩
    show _ < (4611686018427387904 : Int)
    omega
  have tz : Int.toNat (0 : Int) = 0 := rfl
  simp only [wn, Int.toNat_natCast, tz, List.length_replicate, List.length_map]
  rw [if_pos gq, if_pos (by omega), if_pos (by omega)]
  have h0 : (List.replicate (s.length + 1) false).set 0 true = row0 s.length := by rw [List.replicate_succ]; rfl
  rw [h0]
  refine (congrArg (fun o => Option.bind o _) ((loopC_inv _
    (fun n st => ∃ (k : Nat) (at' : List Bool), st = ((s, (), l.map Pc.I, (l.length : Int), (k : Int), ()), at', ()) ∧ at'.length = s.length + 1 ∧ k ≤ l.length ∧ n = l.length - k)
    (fun st => some ((s, (), ()), rows s (l.drop st.1.2.2.2.2.1.toNat) st.2.1, ())) ?_ _ l.length _ ?_ ?_))).trans ?_
  · rintro n st kk ⟨k, at', rfl, hat, hkl, rfl⟩ hk
    dsimp only
    by_cases hlt : k < l.length
    · rw [decide_eq_true (show (k : Int) < (l.length : Int) by omega), cond_true, if_pos (by rw [List.length_map]; omega)]
      simp only [wn, Int.toNat_natCast, tz, List.length_replicate, List.length_map]
      rw [if_pos gq]
      have hkc : (l[k]).wf := hwf _ (List.getElem_mem hlt)
      rw [mapI_getD l k hlt]
      generalize hc : l[k] = c at hkc ⊢
      refine (congrArg (fun o => Option.bind o _) ((loopC_inv _
        (fun n st => ∃ (i : Nat) (next : List Bool), st = ((s, (), c.I, (), l.map Pc.I, (l.length : Int), (k : Int), ((s.length + 1 : Nat) : Int), (i : Int), ()), at', next, ()) ∧ i ≤ s.length + 1 ∧ RowI s.length c s at' i next ∧ n = s.length + 1 - i)
        (fun st => some ((s, (), l.map Pc.I, (l.length : Int), (k : Int), ()), rowOf (nx c s at') s.length, ())) ?_ _ (s.length + 1) _ ?_ ?_))).trans ?_
      · rintro n st k1 ⟨i, next, rfl, hi, hinv, rfl⟩ hk1
        have w1 : IntKind.wrap IntKind.i64 ((i : Int) + 1) = ((i + 1 : Nat) : Int) := by rw [wr _ (by omega)]; omega
        dsimp only
        by_cases hle : i ≤ s.length
        · have fin : ∀ next', RowI s.length c s at' (i + 1) next' → k1 ((s, (), c.I, (), l.map Pc.I, (l.length : Int), (k : Int), ((s.length + 1 : Nat) : Int), ((i + 1 : Nat) : Int), ()), at', next', ()) = some ((s, (), l.map Pc.I, (l.length : Int), (k : Int), ()), rowOf (nx c s at') s.length, ()) :=
            fun next' h' => hk1 (s.length + 1 - (i + 1)) _ (by omega) ⟨i + 1, next', rfl, by omega, h', rfl⟩
          have hn1 : next.length = s.length + 1 := hinv.1
          have ga : (0 : Int) ≤ (i : Int) ∧ (i : Int) < (at'.length : Int) := by omega
          have ga' : i < at'.length := by omega
          have gn : (0 : Int) ≤ (i : Int) ∧ (i : Int) < (next.length : Int) := by omega
          have gn' : i < next.length := by omega
          rw [decide_eq_true (show (i : Int) < ((s.length + 1 : Nat) : Int) by omega), cond_true, many_eq, Option.bind_some]
          simp only [Int.toNat_natCast, if_pos ga, if_pos ga', if_pos gn, if_pos gn', w1]
          cases i with
          | zero =>
            rw [decide_eq_false (show ¬((0 : Nat) : Int) > (0 : Int) by omega)]
            cases hm : c.many with
            | true =>
              cases hA : at'.getD 0 false with
              | true => simp only [cond_true, Option.bind_some, w1]; exact fin _ (hinv.set hle (x := true) (by simp only [nx, hm, hA, cond_true, cond_false, Bool.true_and, Bool.false_and, Bool.true_or, Bool.false_or]))
              | false => simp only [cond_true, cond_false, Option.bind_some, w1]; exact fin _ (hinv.set hle (x := false) (by simp only [nx, hm, hA, cond_true, cond_false, Bool.true_and, Bool.false_and, Bool.true_or, Bool.false_or]))
            | false => simp only [cond_false, Option.bind_some, w1]; exact fin _ (hinv.same (by simp only [nx, hm, cond_true, cond_false, Bool.true_and, Bool.false_and, Bool.true_or, Bool.false_or]))
          | succ j =>
            have wm : IntKind.wrap IntKind.i64 (((j + 1 : Nat) : Int) - 1) = (j : Int) := by rw [wr _ (by omega)]; omega
            have ga2 : (0 : Int) ≤ (j : Int) ∧ (j : Int) < (at'.length : Int) := by omega
            have ga2' : j < at'.length := by omega
            have gn2 : (0 : Int) ≤ (j : Int) ∧ (j : Int) < (next.length : Int) := by omega
            have gn2' : j < next.length := by omega
            have gs2 : (0 : Int) ≤ (j : Int) ∧ (j : Int) < (s.length : Int) := by omega
            have hnj : next.getD j false = nx c s at' j := by rw [hinv.2 j (by omega), if_pos (by omega)]
            have ht : m_impl_piece_takes c.I (((s.getD j 0).toNat : Nat) : Int) = some (c.takes (by8 s j), ()) := takes_eq c hkc _ (by8_lt _ _)
            rw [decide_eq_true (show ((j + 1 : Nat) : Int) > (0 : Int) by omega)]
            simp only [wm, Int.toNat_natCast, if_pos ga2, if_pos ga2', if_pos gn2, if_pos gn2', if_pos gs2, ht, hnj, Option.bind_some, cond_true]
            cases hm : c.many with
            | true =>
              cases hA : at'.getD (j + 1) false with
              | true => simp only [cond_true, Option.bind_some, w1]; exact fin _ (hinv.set hle (x := true) (by simp only [nx, hm, hA, cond_true, cond_false, Bool.true_and, Bool.false_and, Bool.true_or, Bool.false_or]))
              | false =>
                cases hN : nx c s at' j with
                | true => simp only [cond_true, cond_false, Option.bind_some, w1]; exact fin _ (hinv.set hle (x := c.takes (by8 s j)) (by simp only [nx, hm, hA, hN, cond_true, cond_false, Bool.true_and, Bool.false_and, Bool.true_or, Bool.false_or]))
                | false => simp only [cond_true, cond_false, Option.bind_some, w1]; exact fin _ (hinv.set hle (x := false) (by simp only [nx, hm, hA, hN, cond_true, cond_false, Bool.true_and, Bool.false_and, Bool.true_or, Bool.false_or]))
            | false =>
              cases hA : at'.getD j false with
              | true => simp only [cond_true, cond_false, Option.bind_some, w1]; exact fin _ (hinv.set hle (x := c.takes (by8 s j)) (by simp only [nx, hm, hA, cond_true, cond_false, Bool.true_and, Bool.false_and, Bool.true_or, Bool.false_or]))
              | false => simp only [cond_true, cond_false, Option.bind_some, w1]; exact fin _ (hinv.set hle (x := false) (by simp only [nx, hm, hA, cond_true, cond_false, Bool.true_and, Bool.false_and, Bool.true_or, Bool.false_or]))
        · have : i = s.length + 1 := by omega
          rw [decide_eq_false (by omega), cond_false]
          have : next = rowOf (nx c s at') s.length := eq_rowOf hinv.1 (fun j hj => by rw [hinv.2 j hj, if_pos (by omega)])
          rw [this]
      · exact ⟨0, _, rfl, by omega, ⟨by simp, fun j hj => by rw [getD_rep, if_neg (by omega)]⟩, rfl⟩
      · omega
      · simp only [Option.bind_some]
        have w1 : IntKind.wrap IntKind.i64 ((k : Int) + 1) = ((k + 1 : Nat) : Int) := by rw [wr _ (by omega)]; omega
        rw [w1, hk (l.length - (k + 1)) _ (by omega) ⟨k + 1, _, rfl, rowOf_len _ _, by omega, rfl⟩]
        simp only [Int.toNat_natCast]
        rw [List.drop_eq_getElem_cons hlt, hc]
        rfl
    · have : k = l.length := by omega
      rw [decide_eq_false (by omega), cond_false, this]
      simp only [Int.toNat_natCast, List.drop_length]; rfl
  · exact ⟨0, _, rfl, by simp [row0], by omega, rfl⟩
  · omega
  · simp only [Option.bind_some, tz, List.drop_zero]
    have hlen : (rows s l (row0 s.length)).length = s.length + 1 := by
      unfold rows
      have : ∀ (l : List Pc) (a : List Bool), a.length = s.length + 1 → (l.foldl (fun a c => rowOf (nx c s a) s.length) a).length = s.length + 1 := by
        intro l
        induction l with
        | nil => intro a h; exact h
        | cons c l ih => intro a h; exact ih _ (rowOf_len _ _)
      exact this _ _ (by simp [row0])
    rw [if_pos (by omega), if_pos (by omega)]
    rfl
theorem impl_Match_eq (p s : List UInt8) : m_impl_Match p s = some (matchB p s, ()) := by
  unfold m_impl_Match matchB
  rw [impl_pieces_eq, Option.bind_some]
  by_cases hp : 1 ≤ p.length ∧ p.length ≤ 60
  · rw [if_pos hp, if_pos hp]
    cases hq : pieces p with
    | none => rfl
    | some l =>
      have hll : l.length ≤ 60 := by have := pieces_len _ _ _ hq; omega
      simp only [cond_true]
      by_cases hs : s.length ≤ 200
      · rw [decide_eq_true (show (s.length : Int) ≤ 200 by omega), decide_eq_true hs, impl_match_eq l (pieces_wf hq) hll s hs]; rfl
      · rw [decide_eq_false (show ¬(s.length : Int) ≤ 200 by omega), decide_eq_false hs]; rfl
  · rw [if_neg hp, if_neg hp]; rfl
theorem match_same (p s : List UInt8) : m_impl_Match p s = m_spec_Match p s := by rw [impl_Match_eq, spec_match_eq]
end Go.AM
set_option linter.unusedVariables false
set_option linter.unusedSimpArgs false
namespace Go.AM
open Go
theorem loopC_some {S α : Type} (F : S → (S → Option α) → Option α) (I : Nat → S → Prop)
    (h : ∀ n s k, I n s → (∀ m s', m < n → I m s' → ∃ r, k s' = some r) → ∃ r, F s k = some r) : ∀ fuel n s, I n s → n < fuel → ∃ r, loopC fuel F s = some r := by
  intro fuel
  induction fuel with
  | zero => intro n s _ h0; omega
  | succ f ih => intro n s hI hn; exact h n s _ hI (fun m s' hm hI' => ih m s' hI' (by omega))
theorem sz_some (a : List (List UInt8)) (ha : a.length ≤ 9223372036854775807) : ∃ r, m_laws_szStringS a 1048576 = some (r, ()) ∧ (a.length > 1048576 → r < 0) := by
  unfold m_laws_szStringS
  rw [wr _ (by omega)]
  by_cases h : a.length > 1048576
  · rw [decide_eq_true (by omega)]
    exact ⟨-1, rfl, fun _ => by omega⟩
  · rw [decide_eq_false (by omega), cond_false]
    have key := loopC_some (S := (List (List UInt8) × Int × Int × Unit) × Unit) (α := (Int × Unit) × Unit ⊕ Int × Unit)
      (fun s k =>
          bif decide (s.fst.snd.snd.fst < (↑(List.length s.fst.fst) : Int)) then
            if (0 : Int) ≤ s.fst.snd.snd.fst ∧ s.fst.snd.snd.fst < (↑(List.length s.fst.fst) : Int) then
              bif
                  decide
                    (IntKind.wrap IntKind.i64
                        (s.fst.snd.fst -
                          (↑(List.length (List.getD s.fst.fst (Int.toNat s.fst.snd.snd.fst) (nilOf UInt8))) : Int)) <
                      (0 : Int)) then
                some (Sum.inr ((-1 : Int), ()))
              else
                k
                  ((s.fst.fst,
                      IntKind.wrap IntKind.i64
                        (s.fst.snd.fst -
                          (↑(List.length (List.getD s.fst.fst (Int.toNat s.fst.snd.snd.fst) (nilOf UInt8))) : Int)),
                      IntKind.wrap IntKind.i64 (s.fst.snd.snd.fst + (1 : Int)), ()),
                    ())
            else none
          else some (Sum.inl ((s.fst.snd.fst, ()), ())))
      (fun n s => ∃ (x : Int) (i : Nat), s = ((a, x, (i : Int), ()), ()) ∧ i ≤ a.length ∧ n = a.length - i)
      (by
        rintro n s k ⟨x, i, rfl, hi, rfl⟩ hk
        dsimp only
        by_cases hlt : i < a.length
        · rw [decide_eq_true (by omega), cond_true, if_pos (by omega)]
          generalize IntKind.wrap IntKind.i64 (x - _) = y
          cases decide (y < 0) with
          | true => exact ⟨_, rfl⟩
          | false => exact hk (a.length - (i + 1)) _ (by omega) ⟨y, i + 1, by rw [wr _ (by omega)]; rfl, by omega, rfl⟩
        · rw [decide_eq_false (by omega)]; exact ⟨_, rfl⟩)
      (a.length + Int.toNat (1048576 - (a.length : Int)) + Int.toNat (0 : Int) + 300) a.length ((a, 1048576 - (a.length : Int), 0, ()), ()) ⟨_, 0, rfl, by omega, rfl⟩ (by omega)
    obtain ⟨r, hr⟩ := key
    rw [hr]
    cases r with
    | inl s => exact ⟨_, rfl, fun h' => absurd h' h⟩
    | inr s => exact ⟨_, rfl, fun h' => absurd h' h⟩
theorem toS_eq (a : List (List UInt8)) (ha : a.length ≤ 1048576) : m_laws_toStringS a = some (a, ()) := by
  unfold m_laws_toStringS
  rw [if_pos (⟨by omega, by omega, by omega, by show _ < (4611686018427387904 : Int); omega⟩ : _ ∧ _ ∧ _ ∧ _)]
  refine (congrArg (fun o => Option.bind o _) ((loopC_inv _
    (fun n st => ∃ (i : Nat) (out : List (List UInt8)), st = ((a, (), (i : Int), ()), out, ()) ∧ i ≤ a.length ∧ out.length = a.length ∧ (∀ j, j < i → out[j]? = a[j]?) ∧ n = a.length - i)
    (fun _ => some (((), ()), a, ())) ?_ _ a.length _ ?_ ?_))).trans ?_
  · rintro n st k ⟨i, out, rfl, hi, ho, hj, rfl⟩ hk
    dsimp only
    by_cases hlt : i < a.length
    · rw [decide_eq_true (by omega), cond_true, if_pos (by omega), if_pos (by omega)]
      simp only [Int.toNat_natCast]
      rw [if_pos (by omega)]
      refine hk (a.length - (i + 1)) _ (by omega) ⟨i + 1, out.set i (a.getD i (nilOf UInt8)), by rw [wr _ (by omega)]; rfl, by omega, by rw [List.length_set]; exact ho, ?_, rfl⟩
      intro j hj'
      rw [List.getElem?_set]
      by_cases he : i = j
      · subst he
        rw [if_pos rfl, if_pos (by omega), List.getD_eq_getElem?_getD, List.getElem?_eq_getElem hlt]; rfl
      · rw [if_neg he]; exact hj j (by omega)
    · have : i = a.length := by omega
      rw [decide_eq_false (by omega), cond_false]
      have : out = a := by
        apply List.ext_getElem?
        intro j
        by_cases hja : j < a.length
        · exact hj j (by omega)
        · rw [List.getElem?_eq_none (by omega), List.getElem?_eq_none (by omega)]
      rw [this]
  · exact ⟨0, _, rfl, by omega, by rw [List.length_replicate, Int.toNat_natCast], fun j hj => by omega, rfl⟩
  · omega
  · rfl
def fmo (p : List UInt8) : List (List UInt8) → Nat → Option Nat
  | [], _ => none
  | x :: r, i => bif matchB p x then some i else fmo p r (i + 1)
def fmv (p : List UInt8) (l : List (List UInt8)) : Int := match fmo p l 0 with | some j => (j : Int) | none => -1
theorem spec_first_eq (p : List UInt8) (l : List (List UInt8)) : m_spec_FirstMeant p l = some (if l.length > 1000 then -1 else fmv p l, ()) := by
  unfold m_spec_FirstMeant
  by_cases h : l.length > 1000
  · rw [decide_eq_true (by omega), if_pos h]; rfl
  · rw [decide_eq_false (by omega), if_neg h, cond_false]
    refine (congrArg (fun o => joinC o _) ((loopC_inv _
      (fun n st => ∃ (i : Nat), st = ((p, l, (i : Int), ()), ()) ∧ i ≤ l.length ∧ n = l.length - i)
      (fun st => some (match fmo p (l.drop st.1.2.2.1.toNat) st.1.2.2.1.toNat with | some j => .inr ((j : Int), ()) | none => .inl ((), ()))) ?_ _ l.length _ ?_ ?_))).trans ?_
    · rintro n st k ⟨i, rfl, hi, rfl⟩ hk
      dsimp only
      by_cases hlt : i < l.length
      · rw [decide_eq_true (by omega), cond_true, if_pos (by omega), spec_match_eq, Option.bind_some]
        simp only [Int.toNat_natCast]
        rw [hk (l.length - (i + 1)) _ (by omega) ⟨i + 1, by rw [wr _ (by omega)]; rfl, by omega, rfl⟩]
        rw [wr _ (by omega), show ((i : Int) + 1).toNat = i + 1 by omega, List.drop_eq_getElem_cons hlt, fmo]
        rw [List.getD_eq_getElem?_getD, List.getElem?_eq_getElem hlt]
        show (bif matchB p l[i] then _ else _) = _
        cases matchB p l[i] <;> rfl
      · have : i = l.length := by omega
        rw [decide_eq_false (by omega), cond_false]
        simp only [Int.toNat_natCast, this, List.drop_length]; rfl
    · exact ⟨0, rfl, by omega, rfl⟩
    · omega
    · simp only [Int.toNat_zero, List.drop_zero]
      unfold fmv
      cases fmo p l 0 <;> rfl
theorem impl_first1 (x p : List UInt8) : m_impl_FirstMeant_1 x (p, ()) = some (matchB p x, (p, ()), ()) := by
  unfold m_impl_FirstMeant_1
  rw [impl_Match_eq]; rfl
theorem impl_first_eq (p : List UInt8) (l : List (List UInt8)) : m_impl_FirstMeant p l = some (if l.length > 1000 then -1 else fmv p l, ()) := by
  unfold m_impl_FirstMeant
  by_cases h : l.length > 1000
  · rw [decide_eq_true (by omega), if_pos h]; rfl
  · rw [decide_eq_false (by omega), if_neg h, cond_false]
    have : m_slices_IndexFunc_string_string l (p, ()) = some (fmv p l, (p, ()), ()) := by
      unfold m_slices_IndexFunc_string_string
      refine (congrArg (fun o => joinC o _) ((loopC_inv _
        (fun n st => ∃ (i : Nat), st = ((l, (), (l.length : Int), (i : Int), ()), (p, ()), ()) ∧ i ≤ l.length ∧ n = l.length - i)
        (fun st => some (match fmo p (l.drop st.1.2.2.2.1.toNat) st.1.2.2.2.1.toNat with | some j => .inr ((j : Int), (p, ()), ()) | none => .inl ((), (p, ()), ()))) ?_ _ l.length _ ?_ ?_))).trans ?_
      · rintro n st k ⟨i, rfl, hi, rfl⟩ hk
        dsimp only
        by_cases hlt : i < l.length
        · rw [decide_eq_true (by omega), cond_true, if_pos (by omega), impl_first1, Option.bind_some]
          simp only [Int.toNat_natCast]
          rw [hk (l.length - (i + 1)) _ (by omega) ⟨i + 1, by rw [wr _ (by omega)]; rfl, by omega, rfl⟩]
          rw [wr _ (by omega), show ((i : Int) + 1).toNat = i + 1 by omega, List.drop_eq_getElem_cons hlt, fmo]
          rw [List.getD_eq_getElem?_getD, List.getElem?_eq_getElem hlt]
          show (bif matchB p l[i] then _ else _) = _
          cases matchB p l[i] <;> rfl
        · have : i = l.length := by omega
          rw [decide_eq_false (by omega), cond_false]
          simp only [Int.toNat_natCast, this, List.drop_length]; rfl
      · exact ⟨0, rfl, by omega, rfl⟩
      · omega
      · simp only [Int.toNat_zero, List.drop_zero]
        unfold fmv
        cases fmo p l 0 <;> rfl
    rw [this]; rfl
theorem eqS_eq (a : List (List UInt8)) (ha : a.length ≤ 1048576) : m_laws_eqStringS a a = some (true, ()) := by
  unfold m_laws_eqStringS
  rw [show ((a.length : Int) != (a.length : Int)) = false from by simp, cond_false]
  refine (congrArg (fun o => joinC o _) ((loopC_inv _
    (fun n st => ∃ (i : Nat), st = ((a, a, (i : Int), ()), ()) ∧ i ≤ a.length ∧ n = a.length - i)
    (fun st => some (.inl ((), ()))) ?_ _ a.length _ ?_ ?_))).trans ?_
  · rintro n st k ⟨i, rfl, hi, rfl⟩ hk
    dsimp only
    by_cases hlt : i < a.length
    · rw [decide_eq_true (by omega), cond_true, if_pos (by omega), if_pos (by omega)]
      rw [show (!List.getD a (Int.toNat (i : Int)) (nilOf UInt8) == List.getD a (Int.toNat (i : Int)) (nilOf UInt8)) = false from by simp, cond_false]
      exact hk (a.length - (i + 1)) _ (by omega) ⟨i + 1, by rw [wr _ (by omega)]; rfl, by omega, rfl⟩
    · rw [decide_eq_false (by omega)]; rfl
  · exact ⟨0, rfl, by omega, rfl⟩
  · omega
  · rfl
theorem law_FirstMeant (p : List UInt8) (l : List (List UInt8)) (hl : l.length ≤ 9223372036854775807) : m_laws_FnExactFirstMeant p l = some (true, ()) := by
  unfold m_laws_FnExactFirstMeant
  cases decide ((p.length : Int) > 1048576) with
  | true => rfl
  | false =>
    obtain ⟨r, hr, hbig⟩ := sz_some l hl
    rw [cond_false, hr, Option.bind_some]
    by_cases h0 : r < 0
    · rw [decide_eq_true h0]; rfl
    · have hll : l.length ≤ 1048576 := by
        apply Decidable.byContradiction; intro h; exact h0 (hbig (by omega))
      rw [decide_eq_false h0, cond_false, toS_eq l hll, Option.bind_some]
      simp only [toS_eq l hll, Option.bind_some]
      rw [spec_first_eq, impl_first_eq, Option.bind_some, Option.bind_some, eqS_eq l hll, Option.bind_some]
      generalize (if l.length > 1000 then -1 else fmv p l : Int) = v
      show (bif v != v then _ else _) = _
      rw [show (v != v) = false from by simp]
      rfl
end Go.AM
