/- The plain law: the model of the law answers true. -/
import Derived.Test.YtkjbhlhebjfklaaMoFnExactPlain
set_option linter.unusedVariables false
set_option linter.unusedSimpArgs false
namespace Go.AM
open Go
theorem loopC_inv {S α : Type} (F : S → (S → Option α) → Option α) (I : Nat → S → Prop) (g : S → Option α)
    (h : ∀ n s k, I n s → (∀ m s', m < n → I m s' → k s' = g s') → F s k = g s) : ∀ fuel n s, I n s → n < fuel → loopC fuel F s = g s := by
  intro fuel
  induction fuel with
  | zero => intro n s _ h0; omega
  | succ f ih => intro n s hI hn; exact h n s _ hI (fun m s' hm hI' => ih m s' hI' (by omega))
theorem wr (x : Int) (h : -9223372036854775808 ≤ x ∧ x ≤ 9223372036854775807) : IntKind.wrap .i64 x = x := by
  simp [IntKind.wrap, IntKind.signed, IntKind.bits]; omega
/-- A loop ends in some result with Q. -/
theorem loopC_some' {S α : Type} (F : S → (S → Option α) → Option α) (I : Nat → S → Prop) (Q : α → Prop)
    (h : ∀ n s k, I n s → (∀ m s', m < n → I m s' → ∃ r, k s' = some r ∧ Q r) → ∃ r, F s k = some r ∧ Q r) : ∀ fuel n s, I n s → n < fuel → ∃ r, loopC fuel F s = some r ∧ Q r := by
  intro fuel
  induction fuel with
  | zero => intro n s _ h0; omega
  | succ f ih => intro n s hI hn; exact h n s _ hI (fun m s' hm hI' => ih m s' hI' (by omega))
theorem bind_some' {α β : Type} {o : Option α} {f : α → Option β} {Q : α → Prop} {R : β → Prop} (h : ∃ r, o = some r ∧ Q r) (h2 : ∀ r, Q r → ∃ t, f r = some t ∧ R t) : ∃ t, Option.bind o f = some t ∧ R t := by
  obtain ⟨r, rfl, hq⟩ := h
  exact h2 r hq
theorem bind_eq {α β : Type} {o : Option α} {f : α → Option β} {x : α} {r : Option β} (h : o = some x) (h2 : f x = r) : Option.bind o f = r := by rw [h]; exact h2
theorem bind_of {α β : Type} {o x : Option α} {f : α → Option β} {r : Option β} (h : o = x) (h2 : Option.bind x f = r) : Option.bind o f = r := by rw [h]; exact h2
theorem bind_ex {α β : Type} {o : Option α} {f : α → Option β} {Q : α → Prop} {r : Option β} (h : ∃ x, o = some x ∧ Q x) (h2 : ∀ x, Q x → f x = r) : Option.bind o f = r := by obtain ⟨x, rfl, hq⟩ := h; exact h2 x hq
theorem joinC_of {S α : Type} {o x : Option (S ⊕ α)} {k : S → Option α} {r : Option α} (h : o = x) (h2 : joinC x k = r) : joinC o k = r := by rw [h]; exact h2
theorem joinC_ex {S α : Type} {o : Option (S ⊕ α)} {k : S → Option α} {Q : S ⊕ α → Prop} {r : Option α} (h : ∃ x, o = some x ∧ Q x) (h2 : ∀ x, Q x → joinC (some x) k = r) : joinC o k = r := by obtain ⟨x, rfl, hq⟩ := h; exact h2 x hq
theorem wr1 (i : Nat) (h : i ≤ 4611686018427387904) : IntKind.wrap .i64 ((i : Int) + 1) = ((i + 1 : Nat) : Int) := by rw [wr _ (by omega)]; rfl
theorem joinC_inl' {S α : Type} {o : Option (S ⊕ α)} {k : S → Option α} {s : S} (h : o = some (.inl s)) : joinC o k = k s := by rw [h]; rfl
theorem joinC_inr' {S α : Type} {o : Option (S ⊕ α)} {k : S → Option α} {a : α} (h : o = some (.inr a)) : joinC o k = some a := by rw [h]; rfl
end Go.AM
set_option linter.unusedVariables false
set_option linter.unusedSimpArgs false
namespace Go.AM
open Go
def fillN : Nat → Nat → List Bool → List Bool
  | 0, _, s => s
  | n + 1, i, s => fillN n (i + 1) (s.set i true)
theorem fillN_length : ∀ n i s, (fillN n i s).length = s.length
  | 0, _, _ => rfl
  | n + 1, i, s => by rw [fillN, fillN_length n]; simp
def by8 (p : List UInt8) (i : Nat) : Nat := (p.getD i 0).toNat
theorem by8_lt (p i) : by8 p i < 256 := (p.getD i 0).toNat_lt
def cls (p : List UInt8) (i : Nat) (first : Bool) (s : List Bool) : Nat × List Bool :=
  if i < p.length ∧ (first = true ∨ by8 p i ≠ 93) then
    if i + 2 < p.length ∧ by8 p (i + 1) = 45 ∧ by8 p (i + 2) ≠ 93 then cls p (i + 3) false (fillN (by8 p (i + 2) + 1 - by8 p i) (by8 p i) s)
    else cls p (i + 1) false (s.set (by8 p i) true)
  else (i, s)
termination_by p.length - i
end Go.AM
set_option linter.unusedVariables false
set_option linter.unusedSimpArgs false
namespace Go.AM
open Go
theorem hasPrefix_eq (a b : List UInt8) : m_strings_HasPrefix a b = some (decide (b.length ≤ a.length) && (a.take b.length == b), ()) := by
  unfold m_strings_HasPrefix m_stringslite_HasPrefix
  by_cases h : b.length ≤ a.length
  · have h1 : (a.length : Int) ≥ (b.length : Int) := by omega
    have h2 : (0 : Int) ≤ 0 ∧ (0 : Int) ≤ (b.length : Int) ∧ (b.length : Int) ≤ (a.length : Int) := by omega
    rw [decide_eq_true h1, if_pos h2]
    simp only [h, cond_true, Option.bind_some, Int.toNat_natCast, Int.toNat_zero, List.drop_zero, decide_true, Bool.true_and]
  · have h1 : ¬ (a.length : Int) ≥ (b.length : Int) := by omega
    rw [decide_eq_false h1]
    simp only [h, cond_false, Option.bind_some, decide_false, Bool.false_and]
def clsNot (p : List UInt8) : Bool := decide (1 ≤ p.length) && (by8 p 0 == 33)
def clsR (p : List UInt8) : Nat × List Bool := cls p (if clsNot p = true then 1 else 0) true (List.replicate 256 false)
theorem take1 (p : List UInt8) (x : UInt8) (n : Nat) (hx : x.toNat = n) : (decide ([x].length ≤ p.length) && (p.take [x].length == [x])) = (decide (1 ≤ p.length) && (by8 p 0 == n)) := by
  subst hx
  cases p with
  | nil => rfl
  | cons a l =>
    simp only [List.length_cons, List.length_nil, List.take_succ_cons, List.take_zero, by8, List.getD_cons_zero]
    by_cases h : a = x
    · subst h; simp
    · have : a.toNat ≠ x.toNat := fun e => h (UInt8.toNat_inj.mp e)
      rw [beq_eq_false_iff_ne.mpr this, show (([a] : List UInt8) == [x]) = false from beq_eq_false_iff_ne.mpr (fun e => h (List.cons.inj e).1)]
def clsF (p : List UInt8) (i : Nat) (first : Bool) (s : List Bool) : Nat × List Bool := cls p i first s
theorem cls_len (p : List UInt8) : ∀ n i first s, p.length - i ≤ n → (cls p i first s).2.length = s.length := by
  intro n
  induction n with
  | zero => intro i f s h; rw [cls, if_neg (by omega)]
  | succ n ih =>
    intro i f s h
    rw [cls]
    split
    · split
      · rw [ih _ _ _ (by omega), fillN_length]
      · rw [ih _ _ _ (by omega)]; simp
    · rfl
theorem cls_stop {p i first s} (h : ¬(i < p.length ∧ (first = true ∨ by8 p i ≠ 93))) : cls p i first s = (i, s) := by rw [cls, if_neg h]
theorem cls_range {p i first s} (h : i < p.length ∧ (first = true ∨ by8 p i ≠ 93)) (h2 : i + 2 < p.length ∧ by8 p (i + 1) = 45 ∧ by8 p (i + 2) ≠ 93) :
    cls p i first s = cls p (i + 3) false (fillN (by8 p (i + 2) + 1 - by8 p i) (by8 p i) s) := by rw [cls, if_pos h, if_pos h2]
theorem cls_one {p i first s} (h : i < p.length ∧ (first = true ∨ by8 p i ≠ 93)) (h2 : ¬(i + 2 < p.length ∧ by8 p (i + 1) = 45 ∧ by8 p (i + 2) ≠ 93)) :
    cls p i first s = cls p (i + 1) false (s.set (by8 p i) true) := by rw [cls, if_pos h, if_neg h2]
theorem impl_class_eq (p : List UInt8) (hp : p.length ≤ 60) : m_impl_class p = some (if (clsR p).1 ≥ p.length then (none, 0, ()) else (some (4, clsNot p, (clsR p).2), (((clsR p).1 + 1 : Nat) : Int), ()), ()) := by
  unfold m_impl_class
  rw [hasPrefix_eq, take1 p 33 33 rfl]
  show Option.bind (some (clsNot p, ())) _ = _
  rw [Option.bind_some]
  have key : ∀ (nt : Bool) (i : Nat) (hi : i ≤ p.length + 1) (st : (List UInt8 × Unit × Int × Unit) × (Int × Bool × List Bool) × Unit), st = ((p, (), (i : Int), ()), (4, nt, List.replicate 256 false), ()) → ∀ R, R = cls p i true (List.replicate 256 false) → True := fun _ _ _ _ _ _ _ => trivial
  rw [show (bif clsNot p then some ((p, (), IntKind.wrap IntKind.i64 ((0 : Int) + (1 : Int)), ()), ((4 : Int), true, List.replicate (256 : Nat) false), ()) else some ((p, (), (0 : Int), ()), ((4 : Int), false, List.replicate (256 : Nat) false), ()) : Option ((List UInt8 × Unit × Int × Unit) × (Int × Bool × List Bool) × Unit)) = some ((p, (), (((if clsNot p = true then 1 else 0) : Nat) : Int), ()), (4, clsNot p, List.replicate 256 false), ()) from by cases clsNot p <;> rfl]
  rw [Option.bind_some]
  have hcl : ∀ (r : Nat × List Bool), clsR p = r → True := fun _ _ => trivial
  generalize hi0 : (if clsNot p = true then 1 else 0 : Nat) = i0
  have hR : clsR p = cls p i0 true (List.replicate 256 false) := by rw [← hi0]; rfl
  rw [hR]
  have hi0' : i0 ≤ 1 := by rw [← hi0]; split <;> omega
  refine (loopC_inv _
    (fun n s => ∃ i first set, s = ((p, (), ((i : Nat) : Int), first, ()), (4, clsNot p, set), ()) ∧ set.length = 256 ∧ i ≤ 64 ∧ n = p.length - i)
    (fun s => some (if (cls p s.1.2.2.1.toNat s.1.2.2.2.1 s.2.1.2.2).1 ≥ p.length then (none, 0, ()) else (some (4, clsNot p, (cls p s.1.2.2.1.toNat s.1.2.2.2.1 s.2.1.2.2).2), (((cls p s.1.2.2.1.toNat s.1.2.2.2.1 s.2.1.2.2).1 + 1 : Nat) : Int), ()), ())) ?_ _ (p.length - i0) _ ?_ ?_).trans ?_
  · rintro n s k ⟨i, first, set, rfl, hs, hi, rfl⟩ hk
    dsimp only
    rw [Int.toNat_natCast]
    have w1 : IntKind.wrap IntKind.i64 ((i : Int) + 1) = ((i + 1 : Nat) : Int) := by rw [wr _ (by omega)]; omega
    have w2 : IntKind.wrap IntKind.i64 (((i + 1 : Nat) : Int) + 1) = ((i + 2 : Nat) : Int) := by rw [wr _ (by omega)]; omega
    have w3 : IntKind.wrap IntKind.i64 (((i + 1 : Nat) : Int) + 2) = ((i + 3 : Nat) : Int) := by rw [wr _ (by omega)]; omega
    have wb : ∀ j : Nat, IntKind.wrap IntKind.i64 (((UInt8.toNat (p.getD j 0)) : Nat) : Int) = (by8 p j : Int) := by
      intro j; have := by8_lt p j; unfold by8 at *; rw [wr _ (by omega)]
    have wb' : ∀ j : Nat, (((UInt8.toNat (p.getD j 0)) : Nat) : Int) = (by8 p j : Int) := fun j => rfl
    have wv : ∀ j : Nat, IntKind.wrap IntKind.i64 (by8 p j : Int) = (by8 p j : Int) := wb
    have ne93 : ∀ j : Nat, (((by8 p j : Nat) : Int) != 93) = decide (by8 p j ≠ 93) := by
      intro j; by_cases h : by8 p j = 93
      · rw [h]; rfl
      · rw [decide_eq_true h, bne_iff_ne]; omega
    have eq45 : ∀ j : Nat, (((by8 p j : Nat) : Int) == 45) = decide (by8 p j = 45) := by
      intro j; by_cases h : by8 p j = 45
      · rw [h]; rfl
      · rw [decide_eq_false h, beq_eq_false_iff_ne]; omega
    simp only [w1, w2, Int.toNat_natCast, wb, wb', wv, ne93, eq45]
    by_cases hc : i < p.length ∧ (first = true ∨ by8 p i ≠ 93)
    · obtain ⟨hl, hf⟩ := hc
      have hg : (0 : Int) ≤ (i : Int) ∧ (i : Int) < (p.length : Int) := by omega
      have hd : decide ((i : Int) < (p.length : Int)) = true := decide_eq_true hg.2
      have step1 : (bif first then some ((p, (), (i : Int), true, ()), ((4 : Int), clsNot p, set), ()) else some ((p, (), (i : Int), decide (by8 p i ≠ 93), ()), ((4 : Int), clsNot p, set), ()) : Option ((List UInt8 × Unit × Int × Bool × Unit) × (Int × Bool × List Bool) × Unit)) = some ((p, (), (i : Int), true, ()), (4, clsNot p, set), ()) := by
        rcases hf with rfl | h
        · rfl
        · rw [decide_eq_true h]; cases first <;> rfl
      rw [hd]
      simp only [cond_true, if_pos hg, step1, Option.bind_some, w1, w2, Int.toNat_natCast, wb, wb', wv, ne93, eq45]
      by_cases hr : i + 2 < p.length ∧ by8 p (i + 1) = 45 ∧ by8 p (i + 2) ≠ 93
      · rw [cls_range ⟨hl, hf⟩ hr]
        have d1 : decide (((i + 2 : Nat) : Int) < (p.length : Int)) = true := decide_eq_true (by omega)
        have g1 : (0 : Int) ≤ ((i + 1 : Nat) : Int) ∧ ((i + 1 : Nat) : Int) < (p.length : Int) := by omega
        have g2 : (0 : Int) ≤ ((i + 2 : Nat) : Int) ∧ ((i + 2 : Nat) : Int) < (p.length : Int) := by omega
        rw [d1]
        simp only [cond_true, if_pos g1, if_pos g2, decide_eq_true hr.2.1, decide_eq_true hr.2.2, Option.bind_some, w2, w3, Int.toNat_natCast, wb]
        refine (loopC_inv _
          (fun n s => ∃ (lo : Nat) (set' : List Bool), s = ((p, (), ((i + 3 : Nat) : Int), (by8 p (i + 2) : Int), (lo : Int), ()), (4, clsNot p, set'), ()) ∧ set'.length = 256 ∧ lo ≤ 257 ∧ n = by8 p (i + 2) + 1 - lo)
          (fun s => k ((p, (), ((i + 3 : Nat) : Int), false, ()), (4, clsNot p, fillN (by8 p (i + 2) + 1 - s.1.2.2.2.2.1.toNat) s.1.2.2.2.2.1.toNat s.2.1.2.2), ())) ?_ _ (by8 p (i + 2) + 1 - by8 p i) _ ?_ ?_).trans ?_
        · rintro n s k1 ⟨lo, set', rfl, hs', hlo, rfl⟩ hk1
          dsimp only
          have wlo : IntKind.wrap IntKind.i64 ((lo : Int) + 1) = ((lo + 1 : Nat) : Int) := by rw [wr _ (by omega)]; omega
          by_cases hle : lo ≤ by8 p (i + 2)
          · have hlt : by8 p (i + 2) < 256 := by8_lt _ _
            have c1 : (0 : Int) ≤ (lo : Int) ∧ (lo : Int) < ((256 : Nat) : Int) ∧ (lo : Int) < (set'.length : Int) := by omega
            have c2 : lo < set'.length := by omega
            rw [decide_eq_true (show ((lo : Int) ≤ (by8 p (i + 2) : Int)) by omega), cond_true, if_pos c1]
            simp only [Int.toNat_natCast, if_pos c2, wlo]
            rw [hk1 (by8 p (i + 2) + 1 - (lo + 1)) _ (by omega) ⟨lo + 1, _, rfl, by rw [List.length_set]; exact hs', by omega, rfl⟩]
            simp only [Int.toNat_natCast]
            rw [show by8 p (i + 2) + 1 - lo = (by8 p (i + 2) + 1 - (lo + 1)) + 1 by omega, fillN]
          · rw [decide_eq_false (show ¬((lo : Int) ≤ (by8 p (i + 2) : Int)) by omega), cond_false]
            simp only [Int.toNat_natCast]
            rw [show by8 p (i + 2) + 1 - lo = 0 by omega, fillN]
        · exact ⟨by8 p i, set, rfl, hs, by have := by8_lt p i; omega, rfl⟩
        · have := by8_lt p i; have := by8_lt p (i + 2); try simp only [Int.toNat_natCast]
          omega
        · simp only [Int.toNat_natCast]
          rw [hk (p.length - (i + 3)) _ (by omega) ⟨i + 3, false, _, rfl, by rw [fillN_length]; exact hs, by omega, rfl⟩]
          simp only [Int.toNat_natCast]
      · rw [cls_one ⟨hl, hf⟩ hr]
        rw [show (bif decide (((i + 2 : Nat) : Int) < (p.length : Int)) then
            if (0 : Int) ≤ ((i + 1 : Nat) : Int) ∧ ((i + 1 : Nat) : Int) < (p.length : Int) then
              bif decide (by8 p (i + 1) = 45) then
                if (0 : Int) ≤ ((i + 2 : Nat) : Int) ∧ ((i + 2 : Nat) : Int) < (p.length : Int) then
                  some ((p, (), ((i + 1 : Nat) : Int), (by8 p i : Int), (by8 p i : Int), decide (by8 p (i + 2) ≠ 93), ()), ((4 : Int), clsNot p, set), ())
                else none
              else some ((p, (), ((i + 1 : Nat) : Int), (by8 p i : Int), (by8 p i : Int), false, ()), ((4 : Int), clsNot p, set), ())
            else none
          else some ((p, (), ((i + 1 : Nat) : Int), (by8 p i : Int), (by8 p i : Int), false, ()), ((4 : Int), clsNot p, set), ()) : Option ((List UInt8 × Unit × Int × Int × Int × Bool × Unit) × (Int × Bool × List Bool) × Unit)) = some ((p, (), ((i + 1 : Nat) : Int), (by8 p i : Int), (by8 p i : Int), false, ()), ((4 : Int), clsNot p, set), ()) from by
          by_cases a1 : i + 2 < p.length
          · have d1 : decide (((i + 2 : Nat) : Int) < (p.length : Int)) = true := decide_eq_true (by omega)
            have g1 : (0 : Int) ≤ ((i + 1 : Nat) : Int) ∧ ((i + 1 : Nat) : Int) < (p.length : Int) := by omega
            have g2 : (0 : Int) ≤ ((i + 2 : Nat) : Int) ∧ ((i + 2 : Nat) : Int) < (p.length : Int) := by omega
            rw [d1]; simp only [cond_true, if_pos g1, if_pos g2]
            by_cases a2 : by8 p (i + 1) = 45
            · have a3 : ¬ by8 p (i + 2) ≠ 93 := fun h => hr ⟨a1, a2, h⟩
              rw [decide_eq_true a2, decide_eq_false a3]; rfl
            · rw [decide_eq_false a2]; rfl
          · have d1 : decide (((i + 2 : Nat) : Int) < (p.length : Int)) = false := decide_eq_false (by omega)
            rw [d1]; rfl]
        simp only [Option.bind_some, cond_false]
        refine (loopC_inv _
          (fun n s => ∃ (lo : Nat) (set' : List Bool), s = ((p, (), ((i + 1 : Nat) : Int), (by8 p (i) : Int), (lo : Int), ()), (4, clsNot p, set'), ()) ∧ set'.length = 256 ∧ lo ≤ 257 ∧ n = by8 p (i) + 1 - lo)
          (fun s => k ((p, (), ((i + 1 : Nat) : Int), false, ()), (4, clsNot p, fillN (by8 p (i) + 1 - s.1.2.2.2.2.1.toNat) s.1.2.2.2.2.1.toNat s.2.1.2.2), ())) ?_ _ (by8 p (i) + 1 - by8 p i) _ ?_ ?_).trans ?_
        · rintro n s k1 ⟨lo, set', rfl, hs', hlo, rfl⟩ hk1
          dsimp only
          have wlo : IntKind.wrap IntKind.i64 ((lo : Int) + 1) = ((lo + 1 : Nat) : Int) := by rw [wr _ (by omega)]; omega
          by_cases hle : lo ≤ by8 p (i)
          · have hlt : by8 p (i) < 256 := by8_lt _ _
            have c1 : (0 : Int) ≤ (lo : Int) ∧ (lo : Int) < ((256 : Nat) : Int) ∧ (lo : Int) < (set'.length : Int) := by omega
            have c2 : lo < set'.length := by omega
            rw [decide_eq_true (show ((lo : Int) ≤ (by8 p (i) : Int)) by omega), cond_true, if_pos c1]
            simp only [Int.toNat_natCast, if_pos c2, wlo]
            rw [hk1 (by8 p (i) + 1 - (lo + 1)) _ (by omega) ⟨lo + 1, _, rfl, by rw [List.length_set]; exact hs', by omega, rfl⟩]
            simp only [Int.toNat_natCast]
            rw [show by8 p (i) + 1 - lo = (by8 p (i) + 1 - (lo + 1)) + 1 by omega, fillN]
          · rw [decide_eq_false (show ¬((lo : Int) ≤ (by8 p (i) : Int)) by omega), cond_false]
            simp only [Int.toNat_natCast]
            rw [show by8 p (i) + 1 - lo = 0 by omega, fillN]
        · exact ⟨by8 p i, set, rfl, hs, by have := by8_lt p i; omega, rfl⟩
        · have := by8_lt p i; have := by8_lt p (i); try simp only [Int.toNat_natCast]
          omega
        · simp only [Int.toNat_natCast]
          rw [show by8 p i + 1 - by8 p i = 0 + 1 by omega, fillN, fillN]
          rw [hk (p.length - (i + 1)) _ (by omega) ⟨i + 1, false, _, rfl, by rw [List.length_set]; exact hs, by omega, rfl⟩]
          simp only [Int.toNat_natCast]
    · rw [cls_stop hc]
      have step1 : (bif decide ((i : Int) < (p.length : Int)) then bif first then some ((p, (), (i : Int), true, ()), ((4 : Int), clsNot p, set), ()) else if (0 : Int) ≤ (i : Int) ∧ (i : Int) < (p.length : Int) then some ((p, (), (i : Int), decide (by8 p i ≠ 93), ()), ((4 : Int), clsNot p, set), ()) else none else some ((p, (), (i : Int), false, ()), ((4 : Int), clsNot p, set), ()) : Option ((List UInt8 × Unit × Int × Bool × Unit) × (Int × Bool × List Bool) × Unit)) = some ((p, (), (i : Int), false, ()), (4, clsNot p, set), ()) := by
        by_cases hl : i < p.length
        · rw [decide_eq_true (show ((i : Int) < (p.length : Int)) by omega), cond_true, if_pos (show (0 : Int) ≤ (i : Int) ∧ (i : Int) < (p.length : Int) by omega)]
          have hf : first = false := by cases first; rfl; exact absurd ⟨hl, Or.inl rfl⟩ hc
          have h9 : ¬ by8 p i ≠ 93 := fun h => hc ⟨hl, Or.inr h⟩
          rw [hf, decide_eq_false h9]; rfl
        · rw [decide_eq_false (show ¬((i : Int) < (p.length : Int)) by omega)]; rfl
      rw [step1]
      simp only [Option.bind_some, cond_false]
      by_cases hl : i ≥ p.length
      · rw [decide_eq_true (show (i : Int) ≥ (p.length : Int) by omega), if_pos hl]; rfl
      · rw [decide_eq_false (show ¬((i : Int) ≥ (p.length : Int)) by omega), if_neg hl, cond_false, w1]
  · exact ⟨i0, true, _, rfl, List.length_replicate .., by omega, rfl⟩
  · simp only []; omega
  · simp only [Int.toNat_natCast]
end Go.AM
set_option linter.unusedVariables false
set_option linter.unusedSimpArgs false
namespace Go.AM
open Go
theorem spec_class_eq (p : List UInt8) (hp : p.length ≤ 60) : m_spec_l08Class p = some (if (clsR p).1 ≥ p.length then ((0, 0, false, []), 0, ()) else ((2, 0, clsNot p, (clsR p).2), (((clsR p).1 + 1 : Nat) : Int), ()), ()) := by
  unfold m_spec_l08Class
  have wb : ∀ j : Nat, IntKind.wrap IntKind.i64 (((UInt8.toNat (p.getD j 0)) : Nat) : Int) = (by8 p j : Int) := by
    intro j; have := by8_lt p j; unfold by8 at *; rw [wr _ (by omega)]
  have wb' : ∀ j : Nat, (((UInt8.toNat (p.getD j 0)) : Nat) : Int) = (by8 p j : Int) := fun j => rfl
  have wv : ∀ j : Nat, IntKind.wrap IntKind.i64 (by8 p j : Int) = (by8 p j : Int) := wb
  have ne93 : ∀ j : Nat, (((by8 p j : Nat) : Int) != 93) = decide (by8 p j ≠ 93) := by
    intro j; by_cases h : by8 p j = 93
    · rw [h]; rfl
    · rw [decide_eq_true h, bne_iff_ne]; omega
  have eq45 : ∀ j : Nat, (((by8 p j : Nat) : Int) == 45) = decide (by8 p j = 45) := by
    intro j; by_cases h : by8 p j = 45
    · rw [h]; rfl
    · rw [decide_eq_false h, beq_eq_false_iff_ne]; omega
  have eq33 : ∀ j : Nat, (((by8 p j : Nat) : Int) == 33) = (by8 p j == 33) := by
    intro j; by_cases h : by8 p j = 33
    · rw [h]; rfl
    · rw [beq_eq_false_iff_ne.mpr h, beq_eq_false_iff_ne]; omega
  refine (loopC_inv _
    (fun n s => ∃ (i : Nat), s = ((p, (), (), (i : Int), ()), (0, 0, false, (), ()), (2, 0, false, (), ()), List.replicate i false, ()) ∧ i ≤ 256 ∧ n = 256 - i)
    (fun _ => some (if (clsR p).1 ≥ p.length then ((0, 0, false, []), 0, ()) else ((2, 0, clsNot p, (clsR p).2), (((clsR p).1 + 1 : Nat) : Int), ()), ())) ?_ _ 256 _ ?_ ?_).trans rfl
  · rintro n s k ⟨i, rfl, hi, rfl⟩ hk
    dsimp only
    by_cases hlt : i < 256
    · rw [decide_eq_true (show (i : Int) < 256 by omega), cond_true, if_pos (by rw [List.length_replicate]; show (i + 1) * 1 ≤ _; omega)]
      rw [wr _ (by omega)]
      rw [hk (256 - (i + 1)) _ (by omega) ⟨i + 1, by rw [List.replicate_succ']; rfl, by omega, rfl⟩]
    · have : i = 256 := by omega
      subst this
      rw [decide_eq_false (by omega), cond_false]
      have e1 : (bif decide ((0 : Int) < (p.length : Int)) then
            if (0 : Int) ≤ (0 : Int) ∧ (0 : Int) < (p.length : Int) then
              some ((p, (), (), (0 : Int), (((by8 p 0 : Nat) : Int) == 33), ()), ((0 : Int), (0 : Int), false, (), ()), ((2 : Int), (0 : Int), false, (), ()), List.replicate 256 false, ())
            else none
          else some ((p, (), (), (0 : Int), false, ()), ((0 : Int), (0 : Int), false, (), ()), ((2 : Int), (0 : Int), false, (), ()), List.replicate 256 false, ()) : Option ((List UInt8 × Unit × Unit × Int × Bool × Unit) × (Int × Int × Bool × Unit × Unit) × (Int × Int × Bool × Unit × Unit) × List Bool × Unit))
          = some ((p, (), (), (0 : Int), clsNot p, ()), ((0 : Int), (0 : Int), false, (), ()), ((2 : Int), (0 : Int), false, (), ()), List.replicate 256 false, ()) := by
        unfold clsNot
        by_cases h : 1 ≤ p.length
        · rw [decide_eq_true (show (0 : Int) < (p.length : Int) by omega), cond_true, if_pos (by omega), decide_eq_true h, eq33]; rfl
        · rw [decide_eq_false (show ¬(0 : Int) < (p.length : Int) by omega), decide_eq_false h]; rfl
      simp only [Int.toNat_zero, wb']
      rw [e1]
      simp only [Option.bind_some]
      rw [show (bif clsNot p then some ((p, (), (), IntKind.wrap IntKind.i64 ((0 : Int) + (1 : Int)), ()), ((0 : Int), (0 : Int), false, (), ()), ((2 : Int), (0 : Int), true, (), ()), List.replicate 256 false, ())
          else some ((p, (), (), (0 : Int), ()), ((0 : Int), (0 : Int), false, (), ()), ((2 : Int), (0 : Int), false, (), ()), List.replicate 256 false, ()) : Option ((List UInt8 × Unit × Unit × Int × Unit) × (Int × Int × Bool × Unit × Unit) × (Int × Int × Bool × Unit × Unit) × List Bool × Unit))
        = some ((p, (), (), (((if clsNot p = true then 1 else 0) : Nat) : Int), ()), ((0 : Int), (0 : Int), false, (), ()), ((2 : Int), (0 : Int), clsNot p, (), ()), List.replicate 256 false, ()) from by cases clsNot p <;> rfl]
      rw [Option.bind_some]
      generalize hi0 : (if clsNot p = true then 1 else 0 : Nat) = i0
      have hR : clsR p = cls p i0 true (List.replicate 256 false) := by rw [← hi0]; rfl
      rw [hR]
      have hi0' : i0 ≤ 1 := by rw [← hi0]; split <;> omega
      refine (loopC_inv _
        (fun n s => ∃ (i : Nat) (first : Bool) (set : List Bool), s = ((p, (), (), (i : Int), first, ()), (0, 0, false, (), ()), (2, 0, clsNot p, (), ()), set, ()) ∧ set.length = 256 ∧ i ≤ 64 ∧ n = p.length - i)
        (fun s => some (if (cls p s.1.2.2.2.1.toNat s.1.2.2.2.2.1 s.2.2.2.1).1 ≥ p.length then ((0, 0, false, []), 0, ()) else ((2, 0, clsNot p, (cls p s.1.2.2.2.1.toNat s.1.2.2.2.2.1 s.2.2.2.1).2), (((cls p s.1.2.2.2.1.toNat s.1.2.2.2.2.1 s.2.2.2.1).1 + 1 : Nat) : Int), ()), ())) ?_ _ (p.length - i0) _ ?_ ?_).trans ?_
      · clear hk e1
        rintro n s k ⟨i, first, set, rfl, hs, hi, rfl⟩ hk
        have w1 : IntKind.wrap IntKind.i64 ((i : Int) + 1) = ((i + 1 : Nat) : Int) := by rw [wr _ (by omega)]; omega
        have w2 : IntKind.wrap IntKind.i64 ((i : Int) + 2) = ((i + 2 : Nat) : Int) := by rw [wr _ (by omega)]; omega
        have w3 : IntKind.wrap IntKind.i64 ((i : Int) + 3) = ((i + 3 : Nat) : Int) := by rw [wr _ (by omega)]; omega
        dsimp only
        simp only [w1, w2, w3, Int.toNat_natCast, wb, wb', wv, ne93, eq45]
        by_cases hc : i < p.length ∧ (first = true ∨ by8 p i ≠ 93)
        · obtain ⟨hl, hf⟩ := hc
          have hg : (0 : Int) ≤ (i : Int) ∧ (i : Int) < (p.length : Int) := by omega
          have hd : decide ((i : Int) < (p.length : Int)) = true := decide_eq_true hg.2
          have step1 : (bif first then some ((p, (), (), (i : Int), true, ()), ((0 : Int), (0 : Int), false, (), ()), ((2 : Int), (0 : Int), clsNot p, (), ()), set, ()) else some ((p, (), (), (i : Int), decide (by8 p i ≠ 93), ()), ((0 : Int), (0 : Int), false, (), ()), ((2 : Int), (0 : Int), clsNot p, (), ()), set, ()) : Option ((List UInt8 × Unit × Unit × Int × Bool × Unit) × (Int × Int × Bool × Unit × Unit) × (Int × Int × Bool × Unit × Unit) × List Bool × Unit)) = some ((p, (), (), (i : Int), true, ()), ((0 : Int), (0 : Int), false, (), ()), ((2 : Int), (0 : Int), clsNot p, (), ()), set, ()) := by
            rcases hf with rfl | h
            · rfl
            · rw [decide_eq_true h]; cases first <;> rfl
          rw [hd]
          simp only [cond_true, if_pos hg, step1, Option.bind_some, w1, w2, w3, Int.toNat_natCast, wb, wb', wv, ne93, eq45]
          by_cases hr : i + 2 < p.length ∧ by8 p (i + 1) = 45 ∧ by8 p (i + 2) ≠ 93
          · rw [cls_range ⟨hl, hf⟩ hr]
            have d1 : decide (((i + 2 : Nat) : Int) < (p.length : Int)) = true := decide_eq_true (by omega)
            have g1 : (0 : Int) ≤ ((i + 1 : Nat) : Int) ∧ ((i + 1 : Nat) : Int) < (p.length : Int) := by omega
            have g2 : (0 : Int) ≤ ((i + 2 : Nat) : Int) ∧ ((i + 2 : Nat) : Int) < (p.length : Int) := by omega
            rw [d1]
            simp only [cond_true, if_pos g1, if_pos g2, if_pos hg, decide_eq_true hr.2.1, decide_eq_true hr.2.2, Option.bind_some, w1, w2, w3, Int.toNat_natCast, wb, wb', wv]
            refine (congrArg (fun o => Option.bind o _) ((loopC_inv _
              (fun n s => ∃ (lo : Nat) (set' : List Bool), s = ((p, (), (), ((i : Nat) : Int), false, (lo : Int), ()), (0, 0, false, (), ()), (2, 0, clsNot p, (), ()), set', ()) ∧ set'.length = 256 ∧ lo ≤ 257 ∧ n = by8 p (i + 2) + 1 - lo)
              (fun s => some ((p, (), (), ((i + 3 : Nat) : Int), false, ()), (0, 0, false, (), ()), (2, 0, clsNot p, (), ()), fillN (by8 p (i + 2) + 1 - s.1.2.2.2.2.2.1.toNat) s.1.2.2.2.2.2.1.toNat s.2.2.2.1, ())) ?_ _ (by8 p (i + 2) + 1 - by8 p i) _ ?_ ?_))).trans ?_
            · rintro n s k1 ⟨lo, set', rfl, hs', hlo, rfl⟩ hk1
              dsimp only
              have wlo : IntKind.wrap IntKind.i64 ((lo : Int) + 1) = ((lo + 1 : Nat) : Int) := by rw [wr _ (by omega)]; omega
              simp only [cond_true, if_pos g2, w2, w3, Int.toNat_natCast, wb, wb', wv, wlo]
              by_cases hle : lo ≤ by8 p (i + 2)
              · have hlt : by8 p (i + 2) < 256 := by8_lt _ _
                have c1 : (0 : Int) ≤ (lo : Int) ∧ (lo : Int) < (set'.length : Int) := by omega
                have c2 : lo < set'.length := by omega
                rw [decide_eq_true (show ((lo : Int) ≤ (by8 p (i + 2) : Int)) by omega), cond_true, if_pos c1]
                rw [if_pos c2]
                rw [hk1 (by8 p (i + 2) + 1 - (lo + 1)) _ (by omega) ⟨lo + 1, _, rfl, by rw [List.length_set]; exact hs', by omega, rfl⟩]
                simp only [Int.toNat_natCast]
                rw [show by8 p (i + 2) + 1 - lo = (by8 p (i + 2) + 1 - (lo + 1)) + 1 by omega, fillN]
              · rw [decide_eq_false (show ¬((lo : Int) ≤ (by8 p (i + 2) : Int)) by omega), cond_false]
                rw [show by8 p (i + 2) + 1 - lo = 0 by omega, fillN]
            · exact ⟨by8 p i, set, rfl, hs, by have := by8_lt p i; omega, rfl⟩
            · have := by8_lt p i; have := by8_lt p (i + 2); try simp only [Int.toNat_natCast]
              omega
            · simp only [Int.toNat_natCast, Option.bind_some]
              rw [hk (p.length - (i + 3)) _ (by omega) ⟨i + 3, false, _, rfl, by rw [fillN_length]; exact hs, by omega, rfl⟩]
              simp only [Int.toNat_natCast]
          · rw [cls_one ⟨hl, hf⟩ hr]
            have e3 : ∀ (T : Type) (A B : T), (bif decide (((i + 2 : Nat) : Int) < (p.length : Int)) then
                if (0 : Int) ≤ ((i + 1 : Nat) : Int) ∧ ((i + 1 : Nat) : Int) < (p.length : Int) then
                  bif decide (by8 p (i + 1) = 45) then
                    if (0 : Int) ≤ ((i + 2 : Nat) : Int) ∧ ((i + 2 : Nat) : Int) < (p.length : Int) then
                      some ((p, (), (), (i : Int), false, decide (by8 p (i + 2) ≠ 93), ()), ((0 : Int), (0 : Int), false, (), ()), ((2 : Int), (0 : Int), clsNot p, (), ()), set, ())
                    else none
                  else some ((p, (), (), (i : Int), false, false, ()), ((0 : Int), (0 : Int), false, (), ()), ((2 : Int), (0 : Int), clsNot p, (), ()), set, ())
                else none
              else some ((p, (), (), (i : Int), false, false, ()), ((0 : Int), (0 : Int), false, (), ()), ((2 : Int), (0 : Int), clsNot p, (), ()), set, ()) : Option ((List UInt8 × Unit × Unit × Int × Bool × Bool × Unit) × (Int × Int × Bool × Unit × Unit) × (Int × Int × Bool × Unit × Unit) × List Bool × Unit)) = some ((p, (), (), (i : Int), false, false, ()), ((0 : Int), (0 : Int), false, (), ()), ((2 : Int), (0 : Int), clsNot p, (), ()), set, ()) := by
              intro _ _ _
              by_cases a1 : i + 2 < p.length
              · have d1 : decide (((i + 2 : Nat) : Int) < (p.length : Int)) = true := decide_eq_true (by omega)
                have g1 : (0 : Int) ≤ ((i + 1 : Nat) : Int) ∧ ((i + 1 : Nat) : Int) < (p.length : Int) := by omega
                have g2 : (0 : Int) ≤ ((i + 2 : Nat) : Int) ∧ ((i + 2 : Nat) : Int) < (p.length : Int) := by omega
                rw [d1]; simp only [cond_true, if_pos g1, if_pos g2]
                by_cases a2 : by8 p (i + 1) = 45
                · have a3 : ¬ by8 p (i + 2) ≠ 93 := fun h => hr ⟨a1, a2, h⟩
                  rw [decide_eq_true a2, decide_eq_false a3]; rfl
                · rw [decide_eq_false a2]; rfl
              · have d1 : decide (((i + 2 : Nat) : Int) < (p.length : Int)) = false := decide_eq_false (by omega)
                rw [d1]; rfl
            rw [e3 Unit () ()]
            have c1 : (0 : Int) ≤ (by8 p i : Int) ∧ (by8 p i : Int) < (set.length : Int) := by have := by8_lt p i; omega
            have c2 : by8 p i < set.length := by omega
            simp only [Option.bind_some, cond_false, if_pos hg, Int.toNat_natCast, wb', if_pos c1, if_pos c2, w1]
            rw [if_pos (show (p.getD i 0).toNat < set.length from c2), Option.bind_some]
            refine (hk (p.length - (i + 1)) _ (by omega) ⟨i + 1, false, set.set (by8 p i) true, rfl, by rw [List.length_set]; exact hs, by omega, rfl⟩).trans ?_
            simp only [Int.toNat_natCast]
        · rw [cls_stop hc]
          have step1 : (bif decide ((i : Int) < (p.length : Int)) then bif first then some ((p, (), (), (i : Int), true, ()), ((0 : Int), (0 : Int), false, (), ()), ((2 : Int), (0 : Int), clsNot p, (), ()), set, ()) else if (0 : Int) ≤ (i : Int) ∧ (i : Int) < (p.length : Int) then some ((p, (), (), (i : Int), decide (by8 p i ≠ 93), ()), ((0 : Int), (0 : Int), false, (), ()), ((2 : Int), (0 : Int), clsNot p, (), ()), set, ()) else none else some ((p, (), (), (i : Int), false, ()), ((0 : Int), (0 : Int), false, (), ()), ((2 : Int), (0 : Int), clsNot p, (), ()), set, ()) : Option ((List UInt8 × Unit × Unit × Int × Bool × Unit) × (Int × Int × Bool × Unit × Unit) × (Int × Int × Bool × Unit × Unit) × List Bool × Unit)) = some ((p, (), (), (i : Int), false, ()), ((0 : Int), (0 : Int), false, (), ()), ((2 : Int), (0 : Int), clsNot p, (), ()), set, ()) := by
            by_cases hl : i < p.length
            · rw [decide_eq_true (show ((i : Int) < (p.length : Int)) by omega), cond_true, if_pos (show (0 : Int) ≤ (i : Int) ∧ (i : Int) < (p.length : Int) by omega)]
              have hf : first = false := by cases first; rfl; exact absurd ⟨hl, Or.inl rfl⟩ hc
              have h9 : ¬ by8 p i ≠ 93 := fun h => hc ⟨hl, Or.inr h⟩
              rw [hf, decide_eq_false h9]; rfl
            · rw [decide_eq_false (show ¬((i : Int) < (p.length : Int)) by omega)]; rfl
          rw [step1]
          simp only [Option.bind_some, cond_false]
          by_cases hl : i ≥ p.length
          · rw [decide_eq_true (show (i : Int) ≥ (p.length : Int) by omega), if_pos hl]; rfl
          · rw [decide_eq_false (show ¬((i : Int) ≥ (p.length : Int)) by omega), if_neg hl, cond_false, w1]
      · exact ⟨i0, true, _, rfl, List.length_replicate .., by omega, rfl⟩
      · try simp only []
        omega
      · simp only [Int.toNat_natCast]
  · exact ⟨0, rfl, by omega, rfl⟩
  · try simp only []
    omega
end Go.AM
set_option linter.unusedVariables false
set_option linter.unusedSimpArgs false
namespace Go.AM
open Go
inductive Pc where
  | byte (b : Nat) | any (b : Nat) | star (b : Nat) | stars (b : Nat) | cl (nt : Bool) (s : List Bool)
def Pc.S : Pc → Int × Int × Bool × List Bool
  | .byte b => (0, b, false, [])
  | .any b => (1, b, false, [])
  | .star b => (3, b, false, [])
  | .stars b => (4, b, false, [])
  | .cl nt s => (2, 0, nt, s)
def Pc.I : Pc → Int × Bool × List Bool
  | .byte b => (0, false, (List.replicate 256 false).set b true)
  | .any _ => (1, false, List.replicate 256 false)
  | .star _ => (2, false, List.replicate 256 false)
  | .stars _ => (3, false, List.replicate 256 false)
  | .cl nt s => (4, nt, s)
def pc1 (p : List UInt8) : Option (Pc × Nat) :=
  if (decide (2 ≤ p.length) && (p.take 2 == [42, 42])) = true then some (.stars (by8 p 0), 2)
  else if by8 p 0 = 42 then some (.star (by8 p 0), 1)
  else if by8 p 0 = 63 then some (.any (by8 p 0), 1)
  else if by8 p 0 = 91 then (if (clsR (p.drop 1)).1 ≥ (p.drop 1).length then none else some (.cl (clsNot (p.drop 1)) (clsR (p.drop 1)).2, 1 + ((clsR (p.drop 1)).1 + 1)))
  else if by8 p 0 = 92 then (if p.length < 2 then none else some (.byte (by8 p 1), 2))
  else some (.byte (by8 p 0), 1)
def pcs : Nat → List UInt8 → Option (List Pc)
  | 0, _ => some []
  | n + 1, p => if p.length = 0 then some [] else
    match pc1 p with
    | none => none
    | some (c, m) => (pcs n (p.drop m)).map (c :: ·)
theorem pc1_pos {p c m} (h : pc1 p = some (c, m)) (hp : 0 < p.length) : 1 ≤ m ∧ m ≤ p.length := by
  unfold pc1 at h
  split at h
  · next h1 =>
    simp only [Bool.and_eq_true, decide_eq_true_eq] at h1
    cases h; omega
  split at h
  · cases h; omega
  split at h
  · cases h; omega
  split at h
  · split at h
    · cases h
    · next h2 => cases h; rw [List.length_drop] at h2; omega
  split at h
  · split at h
    · cases h
    · cases h; omega
  · cases h; omega
theorem pcs_more : ∀ n p m, p.length ≤ n → n ≤ m → pcs m p = pcs n p := by
  intro n
  induction n with
  | zero => intro p m h _; cases m with
    | zero => rfl
    | succ m => rw [show pcs 0 p = some [] from rfl, pcs, if_pos (by omega)]
  | succ n ih =>
    intro p m h hm
    obtain ⟨m, rfl⟩ : ∃ m', m = m' + 1 := ⟨m - 1, by omega⟩
    rw [pcs, pcs]
    split
    · rfl
    · next h0 =>
      cases hc : pc1 p with
      | none => rfl
      | some x =>
        obtain ⟨c, k⟩ := x
        have := pc1_pos hc (by omega)
        simp only
        rw [ih (p.drop k) m (by rw [List.length_drop]; omega) (by omega)]
def pieces (p : List UInt8) : Option (List Pc) := pcs p.length p
theorem pieces_nil : pieces [] = some [] := rfl
theorem pieces_none {p} (hp : p.length ≠ 0) (h : pc1 p = none) : pieces p = none := by
  unfold pieces
  obtain ⟨n, hn⟩ : ∃ n, p.length = n + 1 := ⟨p.length - 1, by omega⟩
  rw [hn, pcs, if_neg hp, h]
theorem pieces_some {p c m} (hp : p.length ≠ 0) (h : pc1 p = some (c, m)) : pieces p = (pieces (p.drop m)).map (c :: ·) := by
  have := pc1_pos h (by omega)
  unfold pieces
  obtain ⟨n, hn⟩ : ∃ n, p.length = n + 1 := ⟨p.length - 1, by omega⟩
  rw [hn, pcs, if_neg hp, h]
  simp only
  rw [pcs_more (p.drop m).length (p.drop m) n (by omega) (by rw [List.length_drop]; omega)]
theorem joinC_inl {S α : Type} (s : S) (k : S → Option α) : joinC (some (.inl s)) k = k s := rfl
theorem joinC_inr {S α : Type} (a : α) (k : S → Option α) : joinC (some (.inr a)) k = some a := rfl
theorem joinC_none {S α : Type} (k : S → Option α) : joinC (none) k = none := rfl
theorem l01In_eq (a b c : Int) : m_spec_l01In a b c = some (decide (a ≥ b ∧ a ≤ c), ()) := by
  unfold m_spec_l01In
  by_cases h : a ≥ b <;> by_cases h2 : a ≤ c <;> simp [h, h2]
theorem within_eq (a b c : Int) : m_impl_within a b c = some (decide (a ≥ b ∧ a ≤ c), ()) := by
  unfold m_impl_within
  by_cases h : a ≥ b <;> by_cases h2 : a ≤ c <;> simp [h, h2]
theorem one_eq (p : List UInt8) (j : Nat) : m_impl_one (((p.getD j 0).toNat : Nat) : Int) = some ((Pc.byte (by8 p j)).I, ()) := by
  unfold m_impl_one
  have h := by8_lt p j
  have h1 : (0 : Int) ≤ (((p.getD j 0).toNat : Nat) : Int) ∧ (((p.getD j 0).toNat : Nat) : Int) < ((256 : Nat) : Int) ∧ (((p.getD j 0).toNat : Nat) : Int) < (((List.replicate 256 false).length : Nat) : Int) := by
    unfold by8 at h; rw [List.length_replicate]; omega
  rw [if_pos h1, Int.toNat_natCast, if_pos (by rw [List.length_replicate]; exact h)]
  rfl
theorem eqI (p : List UInt8) (j n : Nat) : ((((p.getD j 0).toNat : Nat) : Int) == (n : Int)) = decide (by8 p j = n) := by
  by_cases h : by8 p j = n
  · rw [decide_eq_true h, beq_iff_eq]; unfold by8 at h; omega
  · rw [decide_eq_false h, beq_eq_false_iff_ne]; unfold by8 at h; omega
theorem impl_pieces_eq (p : List UInt8) : m_impl_pieces p = some (if 1 ≤ p.length ∧ p.length ≤ 60 then (match pieces p with | none => ([], false, ()) | some l => (l.map Pc.I, true, ())) else ([], false, ()), ()) := by
  unfold m_impl_pieces
  rw [within_eq, Option.bind_some]
  by_cases hp : 1 ≤ p.length ∧ p.length ≤ 60
  · rw [decide_eq_true (show (p.length : Int) ≥ 1 ∧ (p.length : Int) ≤ 60 by omega), if_pos hp]
    simp only [Bool.not_true, cond_false]
    refine (loopC_inv _
      (fun n s => ∃ (q : List UInt8) (out : List (Int × Bool × List Bool)), s = ((q, (), ()), out, ()) ∧ q.length ≤ 60 ∧ out.length + q.length ≤ 60 ∧ n = q.length)
      (fun s => some (match pieces s.1.1 with | none => ([], false, ()) | some l => (s.2.1 ++ l.map Pc.I, true, ()), ())) ?_ _ p.length _ ?_ ?_).trans ?_
    · rintro n s k ⟨q, out, rfl, hq, ho, rfl⟩ hk
      dsimp only
      by_cases h0 : q.length = 0
      · have : q = [] := List.eq_nil_of_length_eq_zero h0
        subst this
        rw [pieces_nil]
        exact congrArg (fun l => some ((l, true, ()), ())) (List.append_nil out).symm
      · have hne : (!q == nilOf UInt8) = true := by cases q with
          | nil => exact absurd rfl h0
          | cons => rfl
        rw [hne, cond_true, hasPrefix_eq, Option.bind_some]
        have g0 : (0 : Int) ≤ 0 ∧ (0 : Int) < (q.length : Int) := by omega
        have hk' : ∀ (m : Nat) (c : Pc), pc1 q = some (c, m) → k ((List.drop m (List.take q.length q), (), ()), out ++ [c.I], ()) = some (match pieces q with | none => ([], false, ()) | some l => (out ++ l.map Pc.I, true, ()), ()) := by
          intro m c hc
          have := pc1_pos hc (by omega)
          rw [hk (q.drop m).length _ (by rw [List.length_drop]; omega) ⟨q.drop m, out ++ [c.I], by rw [List.take_length], by rw [List.length_drop]; omega, by rw [List.length_append, List.length_drop]; show out.length + 1 + _ ≤ _; omega, rfl⟩]
          rw [pieces_some h0 hc, List.take_length]
          cases pieces (q.drop m) with
          | none => rfl
          | some l => simp
        have gk : ∀ m c, pc1 q = some (c, m) → ((0 : Int) ≤ (m : Int) ∧ (m : Int) ≤ (q.length : Int) ∧ (q.length : Int) ≤ (q.length : Int)) := by
          intro m c hc; have := pc1_pos hc (by omega); omega
        have gl : ∀ x : Int × Bool × List Bool, (out.length + List.length [x]) * 8 ≤ 140737488355328 := by
          intro x; show (out.length + 1) * 8 ≤ _; omega
        have fin : ∀ (mi : Int) (m : Nat) (c : Pc) (x : Int × Bool × List Bool), mi = (m : Int) → x = c.I → pc1 q = some (c, m) →
            (if (0 : Int) ≤ mi ∧ mi ≤ (q.length : Int) ∧ (q.length : Int) ≤ (q.length : Int) then k ((List.drop (Int.toNat mi) (List.take (Int.toNat (q.length : Int)) q), (), ()), out ++ [x], ()) else none) = some (match pieces q with | none => ([], false, ()) | some l => (out ++ l.map Pc.I, true, ()), ()) := by
          intro mi m c x e1 e2 hc
          subst e1 e2
          rw [if_pos (gk _ _ hc), Int.toNat_natCast, Int.toNat_natCast]
          exact hk' m c hc
        have e42 : ((((q.getD 0 0).toNat : Nat) : Int) == (42 : Int)) = decide (by8 q 0 = 42) := eqI q 0 42
        have e63 : ((((q.getD 0 0).toNat : Nat) : Int) == (63 : Int)) = decide (by8 q 0 = 63) := eqI q 0 63
        have e91 : ((((q.getD 0 0).toNat : Nat) : Int) == (91 : Int)) = decide (by8 q 0 = 91) := eqI q 0 91
        have e92 : ((((q.getD 0 0).toNat : Nat) : Int) == (92 : Int)) = decide (by8 q 0 = 92) := eqI q 0 92
        have tz : Int.toNat (0 : Int) = 0 := rfl
        have t1 : Int.toNat (1 : Int) = 1 := rfl
        by_cases c1 : (decide (2 ≤ q.length) && (q.take 2 == [42, 42])) = true
        · have hc : pc1 q = some (.stars (by8 q 0), 2) := by unfold pc1; rw [if_pos c1]
          rw [show (decide ([(42 : UInt8), 42].length ≤ q.length) && (q.take [(42 : UInt8), 42].length == [42, 42])) = true from c1]
          simp only [cond_true, if_pos (gl _), joinC_inl]
          exact fin _ _ _ _ rfl rfl hc
        · rw [show (decide ([(42 : UInt8), 42].length ≤ q.length) && (q.take [(42 : UInt8), 42].length == [42, 42])) = false from eq_false_of_ne_true c1]
          simp only [cond_false, if_pos g0, tz, t1, e42, e63, e91, e92]
          by_cases c2 : by8 q 0 = 42
          · have hc : pc1 q = some (.star (by8 q 0), 1) := by unfold pc1; rw [if_neg c1, if_pos c2]
            simp only [decide_eq_true c2, cond_true, if_pos (gl _), joinC_inl]
            exact fin _ _ _ _ rfl rfl hc
          by_cases c3 : by8 q 0 = 63
          · have hc : pc1 q = some (.any (by8 q 0), 1) := by unfold pc1; rw [if_neg c1, if_neg c2, if_pos c3]
            simp only [decide_eq_false c2, cond_false, decide_eq_true c3, cond_true, if_pos (gl _), joinC_inl]
            exact fin _ _ _ _ rfl rfl hc
          by_cases c4 : by8 q 0 = 91
          · have g1 : (0 : Int) ≤ 1 ∧ (1 : Int) ≤ (q.length : Int) ∧ (q.length : Int) ≤ (q.length : Int) := by omega
            simp only [decide_eq_false c2, decide_eq_false c3, cond_false, decide_eq_true c4, cond_true, if_pos g1, Int.toNat_natCast, List.take_length]
            have hl : (q.drop 1).length ≤ 60 := by rw [List.length_drop]; omega
            rw [impl_class_eq _ hl, Option.bind_some]
            by_cases c5 : (clsR (q.drop 1)).1 ≥ (q.drop 1).length
            · have hc : pc1 q = none := by unfold pc1; rw [if_neg c1, if_neg c2, if_neg c3, if_pos c4, if_pos c5]
              rw [if_pos c5, pieces_none h0 hc]
              rfl
            · have hc : pc1 q = some (.cl (clsNot (q.drop 1)) (clsR (q.drop 1)).2, 1 + ((clsR (q.drop 1)).1 + 1)) := by unfold pc1; rw [if_neg c1, if_neg c2, if_neg c3, if_pos c4, if_neg c5]
              have := pc1_pos hc (by omega)
              rw [if_neg c5]
              simp only
              rw [show (((((clsR (q.drop 1)).1 + 1 : Nat) : Int)) == (0 : Int)) = false from by rw [beq_eq_false_iff_ne]; omega]
              simp only [cond_false, Option.bind_some, if_pos (gl _), joinC_inl]
              have := fin (IntKind.wrap IntKind.i64 ((1 : Int) + (((clsR (q.drop 1)).1 + 1 : Nat) : Int))) _ _ _ (by rw [wr _ (by omega)]; omega) rfl hc
              simp only [Int.toNat_natCast, List.take_length] at this
              exact this
          by_cases c5 : by8 q 0 = 92
          · simp only [decide_eq_false c2, decide_eq_false c3, decide_eq_false c4, cond_false, decide_eq_true c5, cond_true]
            by_cases c6 : q.length < 2
            · have hc : pc1 q = none := by unfold pc1; rw [if_neg c1, if_neg c2, if_neg c3, if_neg c4, if_pos c5, if_pos c6]
              rw [pieces_none h0 hc, decide_eq_true (show (q.length : Int) < 2 by omega)]
              rfl
            · have hc : pc1 q = some (.byte (by8 q 1), 2) := by unfold pc1; rw [if_neg c1, if_neg c2, if_neg c3, if_neg c4, if_pos c5, if_neg c6]
              rw [decide_eq_false (show ¬(q.length : Int) < 2 by omega)]
              simp only [cond_false]
              rw [if_pos (show (0 : Int) ≤ 1 ∧ (1 : Int) < (q.length : Int) by omega), one_eq, Option.bind_some]
              simp only [if_pos (gl _), joinC_inl]
              exact fin _ _ _ _ rfl rfl hc
          · have hc : pc1 q = some (.byte (by8 q 0), 1) := by unfold pc1; rw [if_neg c1, if_neg c2, if_neg c3, if_neg c4, if_neg c5]
            simp only [decide_eq_false c2, decide_eq_false c3, decide_eq_false c4, decide_eq_false c5, cond_false, one_eq, Option.bind_some, if_pos (gl _), joinC_inl]
            exact fin _ _ _ _ rfl rfl hc
    · exact ⟨p, [], rfl, by omega, by show 0 + _ ≤ _; omega, rfl⟩
    · show p.length < p.length + 0 + 300; omega
    · cases pieces p <;> simp [nilOf]
  · rw [decide_eq_false (by omega), if_neg hp]; rfl
end Go.AM
set_option linter.unusedVariables false
set_option linter.unusedSimpArgs false
namespace Go.AM
open Go
theorem spec_pieces_eq (p : List UInt8) : m_spec_l08Pieces p = some (if 1 ≤ p.length ∧ p.length ≤ 60 then (match pieces p with | none => ([], false, ()) | some l => (l.map Pc.S, true, ())) else ([], false, ()), ()) := by
  unfold m_spec_l08Pieces
  rw [l01In_eq, Option.bind_some]
  by_cases hp : 1 ≤ p.length ∧ p.length ≤ 60
  · rw [decide_eq_true (show (p.length : Int) ≥ 1 ∧ (p.length : Int) ≤ 60 by omega), if_pos hp]
    simp only [Bool.not_true, cond_false]
    refine (loopC_inv _
      (fun n s => ∃ (q : List UInt8) (out : List (Int × Int × Bool × List Bool)), s = ((q, (), ()), out, ()) ∧ q.length ≤ 60 ∧ out.length + q.length ≤ 60 ∧ n = q.length)
      (fun s => some (match pieces s.1.1 with | none => ([], false, ()) | some l => (s.2.1 ++ l.map Pc.S, true, ()), ())) ?_ _ p.length _ ?_ ?_).trans ?_
    · rintro n s k ⟨q, out, rfl, hq, ho, rfl⟩ hk
      dsimp only
      by_cases h0 : q.length = 0
      · have : q = [] := List.eq_nil_of_length_eq_zero h0
        subst this
        rw [pieces_nil]
        exact congrArg (fun l => some ((l, true, ()), ())) (List.append_nil out).symm
      · have g0 : (0 : Int) ≤ 0 ∧ (0 : Int) < (q.length : Int) := by omega
        rw [decide_eq_true (show (q.length : Int) > 0 by omega), cond_true, if_pos g0]
        have hk' : ∀ (m : Nat) (c : Pc), pc1 q = some (c, m) → k ((List.drop m (List.take q.length q), (), ()), out ++ [c.S], ()) = some (match pieces q with | none => ([], false, ()) | some l => (out ++ l.map Pc.S, true, ()), ()) := by
          intro m c hc
          have := pc1_pos hc (by omega)
          rw [hk (q.drop m).length _ (by rw [List.length_drop]; omega) ⟨q.drop m, out ++ [c.S], by rw [List.take_length], by rw [List.length_drop]; omega, by rw [List.length_append, List.length_drop]; show out.length + 1 + _ ≤ _; omega, rfl⟩]
          rw [pieces_some h0 hc, List.take_length]
          cases pieces (q.drop m) with
          | none => rfl
          | some l => simp
        have gk : ∀ m c, pc1 q = some (c, m) → ((0 : Int) ≤ (m : Int) ∧ (m : Int) ≤ (q.length : Int) ∧ (q.length : Int) ≤ (q.length : Int)) := by
          intro m c hc; have := pc1_pos hc (by omega); omega
        have gl : ∀ x : Int × Int × Bool × List Bool, (out.length + List.length [x]) * 40 ≤ 140737488355328 := by
          intro x; show (out.length + 1) * 40 ≤ _; omega
        have fin : ∀ (mi : Int) (m : Nat) (c : Pc) (x : Int × Int × Bool × List Bool), mi = (m : Int) → x = c.S → pc1 q = some (c, m) →
            (if (0 : Int) ≤ mi ∧ mi ≤ (q.length : Int) ∧ (q.length : Int) ≤ (q.length : Int) then k ((List.drop (Int.toNat mi) (List.take (Int.toNat (q.length : Int)) q), (), ()), out ++ [x], ()) else none) = some (match pieces q with | none => ([], false, ()) | some l => (out ++ l.map Pc.S, true, ()), ()) := by
          intro mi m c x e1 e2 hc
          subst e1 e2
          rw [if_pos (gk _ _ hc), Int.toNat_natCast, Int.toNat_natCast]
          exact hk' m c hc
        have e42 : ((((q.getD 0 0).toNat : Nat) : Int) == (42 : Int)) = decide (by8 q 0 = 42) := eqI q 0 42
        have e63 : ((((q.getD 0 0).toNat : Nat) : Int) == (63 : Int)) = decide (by8 q 0 = 63) := eqI q 0 63
        have e91 : ((((q.getD 0 0).toNat : Nat) : Int) == (91 : Int)) = decide (by8 q 0 = 91) := eqI q 0 91
        have e92 : ((((q.getD 0 0).toNat : Nat) : Int) == (92 : Int)) = decide (by8 q 0 = 92) := eqI q 0 92
        have tz : Int.toNat (0 : Int) = 0 := rfl
        have t1 : Int.toNat (1 : Int) = 1 := rfl
        have t2 : Int.toNat (2 : Int) = 2 := rfl
        have es : ∀ X : Int × Int × Bool × Unit × Unit, (bif decide ((q.length : Int) > 1) then
            if (0 : Int) ≤ (0 : Int) ∧ (0 : Int) ≤ (2 : Int) ∧ (2 : Int) ≤ (q.length : Int) then
              some ((q, (), (1 : Int), (), List.take 2 q == [(42 : UInt8), (42 : UInt8)], ()), out, X, ())
            else none
          else some ((q, (), (1 : Int), (), false, ()), out, X, ()) : Option ((List UInt8 × Unit × Int × Unit × Bool × Unit) × List (Int × Int × Bool × List Bool) × (Int × Int × Bool × Unit × Unit) × Unit))
          = some ((q, (), (1 : Int), (), (decide (2 ≤ q.length) && (q.take 2 == [42, 42])), ()), out, X, ()) := by
          intro X
          by_cases h : 2 ≤ q.length
          · rw [decide_eq_true (show (q.length : Int) > 1 by omega), cond_true, if_pos (by omega), decide_eq_true h, Bool.true_and]
          · rw [decide_eq_false (show ¬(q.length : Int) > 1 by omega), decide_eq_false h]; rfl
        simp only [tz, t2, List.drop_zero]
        rw [es, Option.bind_some]
        simp only [tz]
        by_cases c1 : (decide (2 ≤ q.length) && (q.take 2 == [42, 42])) = true
        · have hc : pc1 q = some (.stars (by8 q 0), 2) := by unfold pc1; rw [if_pos c1]
          rw [c1]
          simp only [cond_true, joinC_inl, if_pos (gl _)]
          exact fin _ _ _ _ rfl rfl hc
        · rw [eq_false_of_ne_true c1]
          simp only [cond_false, if_pos g0, tz, t1, e42, e63, e91, e92]
          by_cases c2 : by8 q 0 = 42
          · have hc : pc1 q = some (.star (by8 q 0), 1) := by unfold pc1; rw [if_neg c1, if_pos c2]
            simp only [decide_eq_true c2, cond_true, if_pos (gl _), joinC_inl]
            exact fin _ _ _ _ rfl rfl hc
          by_cases c3 : by8 q 0 = 63
          · have hc : pc1 q = some (.any (by8 q 0), 1) := by unfold pc1; rw [if_neg c1, if_neg c2, if_pos c3]
            simp only [decide_eq_false c2, cond_false, decide_eq_true c3, cond_true, if_pos (gl _), joinC_inl]
            exact fin _ _ _ _ rfl rfl hc
          by_cases c4 : by8 q 0 = 91
          · have g1 : (0 : Int) ≤ 1 ∧ (1 : Int) ≤ (q.length : Int) ∧ (q.length : Int) ≤ (q.length : Int) := by omega
            simp only [decide_eq_false c2, decide_eq_false c3, cond_false, decide_eq_true c4, cond_true, if_pos g1, Int.toNat_natCast, List.take_length]
            have hl : (q.drop 1).length ≤ 60 := by rw [List.length_drop]; omega
            rw [spec_class_eq _ hl, Option.bind_some]
            by_cases c5 : (clsR (q.drop 1)).1 ≥ (q.drop 1).length
            · have hc : pc1 q = none := by unfold pc1; rw [if_neg c1, if_neg c2, if_neg c3, if_pos c4, if_pos c5]
              rw [if_pos c5, pieces_none h0 hc]
              rfl
            · have hc : pc1 q = some (.cl (clsNot (q.drop 1)) (clsR (q.drop 1)).2, 1 + ((clsR (q.drop 1)).1 + 1)) := by unfold pc1; rw [if_neg c1, if_neg c2, if_neg c3, if_pos c4, if_neg c5]
              have := pc1_pos hc (by omega)
              rw [if_neg c5]
              simp only
              rw [show (((((clsR (q.drop 1)).1 + 1 : Nat) : Int)) == (0 : Int)) = false from by rw [beq_eq_false_iff_ne]; omega]
              simp only [cond_false, Option.bind_some, if_pos (gl _), joinC_inl]
              have := fin (IntKind.wrap IntKind.i64 ((1 : Int) + (((clsR (q.drop 1)).1 + 1 : Nat) : Int))) _ _ _ (by rw [wr _ (by omega)]; omega) rfl hc
              simp only [Int.toNat_natCast, List.take_length] at this
              exact this
          by_cases c5 : by8 q 0 = 92
          · simp only [decide_eq_false c2, decide_eq_false c3, decide_eq_false c4, cond_false, decide_eq_true c5, cond_true]
            by_cases c6 : q.length < 2
            · have hc : pc1 q = none := by unfold pc1; rw [if_neg c1, if_neg c2, if_neg c3, if_neg c4, if_pos c5, if_pos c6]
              have : ((q.length : Int) == (1 : Int)) = true := by rw [beq_iff_eq]; omega
              rw [pieces_none h0 hc, this]
              rfl
            · have hc : pc1 q = some (.byte (by8 q 1), 2) := by unfold pc1; rw [if_neg c1, if_neg c2, if_neg c3, if_neg c4, if_pos c5, if_neg c6]
              have : ((q.length : Int) == (1 : Int)) = false := by rw [beq_eq_false_iff_ne]; omega
              rw [this]
              simp only [cond_false]
              rw [if_pos (show (0 : Int) ≤ 1 ∧ (1 : Int) < (q.length : Int) by omega)]
              simp only [if_pos (gl _), joinC_inl]
              exact fin _ _ _ _ rfl rfl hc
          · have hc : pc1 q = some (.byte (by8 q 0), 1) := by unfold pc1; rw [if_neg c1, if_neg c2, if_neg c3, if_neg c4, if_neg c5]
            simp only [decide_eq_false c2, decide_eq_false c3, decide_eq_false c4, decide_eq_false c5, cond_false, if_pos (gl _), joinC_inl]
            exact fin _ _ _ _ rfl rfl hc
    · exact ⟨p, [], rfl, by omega, by show 0 + _ ≤ _; omega, rfl⟩
    · show p.length < p.length + 0 + 300; omega
    · cases pieces p <;> simp [nilOf]
  · rw [decide_eq_false (by omega), if_neg hp]; rfl
theorem spec_ok_eq (p : List UInt8) : m_spec_PatternOk p = some (decide (1 ≤ p.length ∧ p.length ≤ 60) && (pieces p).isSome, ()) := by
  unfold m_spec_PatternOk
  rw [spec_pieces_eq, Option.bind_some]
  by_cases h : 1 ≤ p.length ∧ p.length ≤ 60
  · rw [if_pos h, decide_eq_true h]; cases pieces p <;> rfl
  · rw [if_neg h, decide_eq_false h]; rfl
theorem impl_ok_eq (p : List UInt8) : m_impl_PatternOk p = some (decide (1 ≤ p.length ∧ p.length ≤ 60) && (pieces p).isSome, ()) := by
  unfold m_impl_PatternOk
  rw [impl_pieces_eq, Option.bind_some]
  by_cases h : 1 ≤ p.length ∧ p.length ≤ 60
  · rw [if_pos h, decide_eq_true h]; cases pieces p <;> rfl
  · rw [if_neg h, decide_eq_false h]; rfl
end Go.AM
set_option linter.unusedVariables false
set_option linter.unusedSimpArgs false
namespace Go.AM
open Go
def wildB (b : UInt8) : Bool := (b.toNat == 42 || b.toNat == 63) || (b.toNat == 91 || b.toNat == 92)
def okP (p : List UInt8) : Bool := decide (1 ≤ p.length ∧ p.length ≤ 60) && (pieces p).isSome
theorem all_drop' {α : Type} (p : α → Bool) (d : α) {s : List α} {i : Nat} (h : i < s.length) : (s.drop i).all p = (p (s.getD i d) && (s.drop (i + 1)).all p) := by
  rw [List.getD_eq_getElem?_getD, List.getElem?_eq_getElem h, List.drop_eq_getElem_cons h]; rfl
theorem eqIN (b n : Nat) : (((b : Nat) : Int) == (n : Int)) = (b == n) := by
  rw [Bool.eq_iff_iff]; simp only [beq_iff_eq]; omega
theorem spec_plain_eq (p : List UInt8) (hp : p.length ≤ 1048576) : m_spec_Plain p = some (okP p && p.all (fun b => !wildB b), ()) := by
  unfold m_spec_Plain
  rw [spec_ok_eq, Option.bind_some]
  show (bif !(okP p) then _ else _) = _
  cases okP p with
  | false => rfl
  | true =>
    simp only [Bool.not_true, cond_false, Bool.true_and]
    refine joinC_of (loopC_inv _ (fun n t => ∃ i : Nat, t = ((p, (i : Int), ()), ()) ∧ i ≤ p.length ∧ n = p.length - i)
          (fun t => some (if (p.drop t.1.2.1.toNat).all (fun b => !wildB b) then .inl ((), ()) else .inr (false, ()))) ?_ _ p.length _ ⟨0, rfl, by omega, rfl⟩ (by omega)) ?_
    rotate_left
    · show joinC (some (if (p.drop 0).all _ = true then _ else _)) _ = _
      rw [List.drop_zero]
      cases p.all (fun b => !wildB b) <;> rfl
    · rintro n t k ⟨i, rfl, hi, rfl⟩ hk
      dsimp only
      by_cases hl : i < p.length
      · have hx : 0 ≤ (i : Int) ∧ (i : Int) < (p.length : Int) := by omega
        rw [decide_eq_true (by omega), cond_true, if_pos hx]
        refine bind_eq (x := ((p, (i : Int), wildB (p.getD i 0), ()), ())) ?_ ?_
        · simp only [if_pos hx, wildB, Int.toNat_natCast]
          rw [show (42 : Int) = ((42 : Nat) : Int) from rfl, show (63 : Int) = ((63 : Nat) : Int) from rfl, show (91 : Int) = ((91 : Nat) : Int) from rfl, show (92 : Int) = ((92 : Nat) : Int) from rfl]
          simp only [eqIN]
          cases (p.getD i 0).toNat == 42 <;> cases (p.getD i 0).toNat == 63 <;> cases (p.getD i 0).toNat == 91 <;> cases (p.getD i 0).toNat == 92 <;> rfl
        · dsimp only
          rw [Int.toNat_natCast, all_drop' _ 0 hl]
          cases wildB (p.getD i 0) with
          | true => rfl
          | false =>
            show k _ = _
            rw [wr1 _ (by omega)]
            rw [hk (p.length - (i + 1)) _ (by omega) ⟨i + 1, rfl, by omega, rfl⟩]
            rw [Int.toNat_natCast]; rfl
      · obtain rfl : i = p.length := by omega
        rw [decide_eq_false (by omega), cond_false]
        rw [Int.toNat_natCast, List.drop_length]; rfl
theorem byte_of (b : UInt8) : ∃ k : Fin 256, UInt8.ofNat k.val = b := ⟨⟨b.toNat, b.toNat_lt⟩, by simp⟩
theorem any_wild : ∀ p : List UInt8, Go.Lib.containsAny p [42, 63, 91, 92] = p.any wildB
  | [] => rfl
  | b :: l => by
    have ih := any_wild l
    unfold Go.Lib.containsAny at ih ⊢
    rw [Go.Lib.indexAny, List.any_cons]
    have hb : [(42 : UInt8), 63, 91, 92].contains b = wildB b := by
      obtain ⟨n, hn⟩ := byte_of b
      subst hn
      have : ∀ k : Fin 256, [42, 63, 91, 92].contains (UInt8.ofNat k.val) = wildB (UInt8.ofNat k.val) := by decide +kernel
      exact this n
    rw [hb, ← ih]
    have := Go.Lib.indexAny_ge [42, 63, 91, 92] l
    cases wildB b with
    | true => rfl
    | false =>
      simp only [Bool.false_or]
      by_cases h : Go.Lib.indexAny l [42, 63, 91, 92] = -1
      · rw [h]; rfl
      · rw [if_neg (by simp), if_neg (by simpa using h)]
        exact decide_eq_decide.2 (by omega)
theorem impl_plain_eq (p : List UInt8) (hp : p.length ≤ 1048576) : m_impl_Plain p = some (okP p && p.all (fun b => !wildB b), ()) := by
  unfold m_impl_Plain
  rw [impl_ok_eq, Option.bind_some]
  show Option.bind (bif okP p then _ else _) _ = _
  cases okP p with
  | false => rfl
  | true =>
    simp only [cond_true, Bool.true_and]
    unfold m_strings_ContainsAny containsM
    rw [if_pos ⟨⟨by omega, by decide⟩, by decide⟩, any_wild]
    show some (!(p.any wildB), ()) = _
    congr 2
    induction p with
    | nil => rfl
    | cons b l ih => rw [List.any_cons, List.all_cons, Bool.not_or, ih (by simp at hp; omega)]
theorem law_Plain (p : List UInt8) : m_laws_FnExactPlain p = some (true, ()) := by
  unfold m_laws_FnExactPlain
  by_cases h : p.length ≤ 1048576
  · rw [decide_eq_false (by omega), cond_false, spec_plain_eq p h, impl_plain_eq p h, Option.bind_some, Option.bind_some]
    cases (okP p && p.all (fun b => !wildB b)) <;> rfl
  · rw [decide_eq_true (by omega)]; rfl
end Go.AM
