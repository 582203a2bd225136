/- The plain law: the model of the law answers true. -/
import Derived.Test.YtbpbnhgkdfhdcaaDoorMoFnExactParseRules
set_option linter.unusedVariables false
set_option linter.unusedSimpArgs false
namespace Go.AM
open Go
theorem loopC_inv {S α : Type} (F : S → (S → Option α) → Option α) (I : Nat → S → Prop) (g : S → Option α)
    (h : ∀ n s k, I n s → (∀ m s', m < n → I m s' → k s' = g s') → F s k = g s) : ∀ fuel n s, I n s → n < fuel → loopC fuel F s = g s := by
  intro fuel
  induction fuel with
  | zero => intro n s _ h0; omega
  | succ f ih => intro n s hI hn; exact h n s _ hI (fun m s' hm hI' => ih m s' hI' (by omega))
theorem wr (x : Int) (h : -9223372036854775808 ≤ x ∧ x ≤ 9223372036854775807) : IntKind.wrap .i64 x = x := by
  simp [IntKind.wrap, IntKind.signed, IntKind.bits]; omega
/-- A loop ends in some result with Q. -/
theorem loopC_some' {S α : Type} (F : S → (S → Option α) → Option α) (I : Nat → S → Prop) (Q : α → Prop)
    (h : ∀ n s k, I n s → (∀ m s', m < n → I m s' → ∃ r, k s' = some r ∧ Q r) → ∃ r, F s k = some r ∧ Q r) : ∀ fuel n s, I n s → n < fuel → ∃ r, loopC fuel F s = some r ∧ Q r := by
  intro fuel
  induction fuel with
  | zero => intro n s _ h0; omega
  | succ f ih => intro n s hI hn; exact h n s _ hI (fun m s' hm hI' => ih m s' hI' (by omega))
theorem bind_some' {α β : Type} {o : Option α} {f : α → Option β} {Q : α → Prop} {R : β → Prop} (h : ∃ r, o = some r ∧ Q r) (h2 : ∀ r, Q r → ∃ t, f r = some t ∧ R t) : ∃ t, Option.bind o f = some t ∧ R t := by
  obtain ⟨r, rfl, hq⟩ := h
  exact h2 r hq
theorem bind_eq {α β : Type} {o : Option α} {f : α → Option β} {x : α} {r : Option β} (h : o = some x) (h2 : f x = r) : Option.bind o f = r := by rw [h]; exact h2
theorem bind_of {α β : Type} {o x : Option α} {f : α → Option β} {r : Option β} (h : o = x) (h2 : Option.bind x f = r) : Option.bind o f = r := by rw [h]; exact h2
theorem bind_ex {α β : Type} {o : Option α} {f : α → Option β} {Q : α → Prop} {r : Option β} (h : ∃ x, o = some x ∧ Q x) (h2 : ∀ x, Q x → f x = r) : Option.bind o f = r := by obtain ⟨x, rfl, hq⟩ := h; exact h2 x hq
theorem joinC_of {S α : Type} {o x : Option (S ⊕ α)} {k : S → Option α} {r : Option α} (h : o = x) (h2 : joinC x k = r) : joinC o k = r := by rw [h]; exact h2
theorem joinC_ex {S α : Type} {o : Option (S ⊕ α)} {k : S → Option α} {Q : S ⊕ α → Prop} {r : Option α} (h : ∃ x, o = some x ∧ Q x) (h2 : ∀ x, Q x → joinC (some x) k = r) : joinC o k = r := by obtain ⟨x, rfl, hq⟩ := h; exact h2 x hq
theorem wr1 (i : Nat) (h : i ≤ 4611686018427387904) : IntKind.wrap .i64 ((i : Int) + 1) = ((i + 1 : Nat) : Int) := by rw [wr _ (by omega)]; rfl
theorem joinC_inl' {S α : Type} {o : Option (S ⊕ α)} {k : S → Option α} {s : S} (h : o = some (.inl s)) : joinC o k = k s := by rw [h]; rfl
theorem joinC_inr' {S α : Type} {o : Option (S ⊕ α)} {k : S → Option α} {a : α} (h : o = some (.inr a)) : joinC o k = some a := by rw [h]; rfl
end Go.AM
set_option linter.unusedVariables false
set_option linter.unusedSimpArgs false
namespace Go.AM
open Go
def fillN : Nat → Nat → List Bool → List Bool
  | 0, _, s => s
  | n + 1, i, s => fillN n (i + 1) (s.set i true)
theorem fillN_length : ∀ n i s, (fillN n i s).length = s.length
  | 0, _, _ => rfl
  | n + 1, i, s => by rw [fillN, fillN_length n]; simp
def by8 (p : List UInt8) (i : Nat) : Nat := (p.getD i 0).toNat
theorem by8_lt (p i) : by8 p i < 256 := (p.getD i 0).toNat_lt
def cls (p : List UInt8) (i : Nat) (first : Bool) (s : List Bool) : Nat × List Bool :=
  if i < p.length ∧ (first = true ∨ by8 p i ≠ 93) then
    if i + 2 < p.length ∧ by8 p (i + 1) = 45 ∧ by8 p (i + 2) ≠ 93 then cls p (i + 3) false (fillN (by8 p (i + 2) + 1 - by8 p i) (by8 p i) s)
    else cls p (i + 1) false (s.set (by8 p i) true)
  else (i, s)
termination_by p.length - i
end Go.AM
set_option linter.unusedVariables false
set_option linter.unusedSimpArgs false
namespace Go.AM
open Go
theorem hasPrefix_eq (a b : List UInt8) : m_strings_HasPrefix a b = some (decide (b.length ≤ a.length) && (a.take b.length == b), ()) := by
  unfold m_strings_HasPrefix m_stringslite_HasPrefix
  by_cases h : b.length ≤ a.length
  · have h1 : (a.length : Int) ≥ (b.length : Int) := by omega
    have h2 : (0 : Int) ≤ 0 ∧ (0 : Int) ≤ (b.length : Int) ∧ (b.length : Int) ≤ (a.length : Int) := by omega
    rw [decide_eq_true h1, if_pos h2]
    simp only [h, cond_true, Option.bind_some, Int.toNat_natCast, Int.toNat_zero, List.drop_zero, decide_true, Bool.true_and]
  · have h1 : ¬ (a.length : Int) ≥ (b.length : Int) := by omega
    rw [decide_eq_false h1]
    simp only [h, cond_false, Option.bind_some, decide_false, Bool.false_and]
def clsNot (p : List UInt8) : Bool := decide (1 ≤ p.length) && (by8 p 0 == 33)
def clsR (p : List UInt8) : Nat × List Bool := cls p (if clsNot p = true then 1 else 0) true (List.replicate 256 false)
theorem take1 (p : List UInt8) (x : UInt8) (n : Nat) (hx : x.toNat = n) : (decide ([x].length ≤ p.length) && (p.take [x].length == [x])) = (decide (1 ≤ p.length) && (by8 p 0 == n)) := by
  subst hx
  cases p with
  | nil => rfl
  | cons a l =>
    simp only [List.length_cons, List.length_nil, List.take_succ_cons, List.take_zero, by8, List.getD_cons_zero]
    by_cases h : a = x
    · subst h; simp
    · have : a.toNat ≠ x.toNat := fun e => h (UInt8.toNat_inj.mp e)
      rw [beq_eq_false_iff_ne.mpr this, show (([a] : List UInt8) == [x]) = false from beq_eq_false_iff_ne.mpr (fun e => h (List.cons.inj e).1)]
def clsF (p : List UInt8) (i : Nat) (first : Bool) (s : List Bool) : Nat × List Bool := cls p i first s
theorem cls_len (p : List UInt8) : ∀ n i first s, p.length - i ≤ n → (cls p i first s).2.length = s.length := by
  intro n
  induction n with
  | zero => intro i f s h; rw [cls, if_neg (by omega)]
  | succ n ih =>
    intro i f s h
    rw [cls]
    split
    · split
      · rw [ih _ _ _ (by omega), fillN_length]
      · rw [ih _ _ _ (by omega)]; simp
    · rfl
theorem cls_stop {p i first s} (h : ¬(i < p.length ∧ (first = true ∨ by8 p i ≠ 93))) : cls p i first s = (i, s) := by rw [cls, if_neg h]
theorem cls_range {p i first s} (h : i < p.length ∧ (first = true ∨ by8 p i ≠ 93)) (h2 : i + 2 < p.length ∧ by8 p (i + 1) = 45 ∧ by8 p (i + 2) ≠ 93) :
    cls p i first s = cls p (i + 3) false (fillN (by8 p (i + 2) + 1 - by8 p i) (by8 p i) s) := by rw [cls, if_pos h, if_pos h2]
theorem cls_one {p i first s} (h : i < p.length ∧ (first = true ∨ by8 p i ≠ 93)) (h2 : ¬(i + 2 < p.length ∧ by8 p (i + 1) = 45 ∧ by8 p (i + 2) ≠ 93)) :
    cls p i first s = cls p (i + 1) false (s.set (by8 p i) true) := by rw [cls, if_pos h, if_neg h2]
theorem impl_class_eq (p : List UInt8) (hp : p.length ≤ 60) : m_impl_class p = some (if (clsR p).1 ≥ p.length then (none, 0, ()) else (some (4, clsNot p, (clsR p).2), (((clsR p).1 + 1 : Nat) : Int), ()), ()) := by
  unfold m_impl_class
  rw [hasPrefix_eq, take1 p 33 33 rfl]
  show Option.bind (some (clsNot p, ())) _ = _
  rw [Option.bind_some]
  have key : ∀ (nt : Bool) (i : Nat) (hi : i ≤ p.length + 1) (st : (List UInt8 × Unit × Int × Unit) × (Int × Bool × List Bool) × Unit), st = ((p, (), (i : Int), ()), (4, nt, List.replicate 256 false), ()) → ∀ R, R = cls p i true (List.replicate 256 false) → True := fun _ _ _ _ _ _ _ => trivial
  rw [show (bif clsNot p then some ((p, (), IntKind.wrap IntKind.i64 ((0 : Int) + (1 : Int)), ()), ((4 : Int), true, List.replicate (256 : Nat) false), ()) else some ((p, (), (0 : Int), ()), ((4 : Int), false, List.replicate (256 : Nat) false), ()) : Option ((List UInt8 × Unit × Int × Unit) × (Int × Bool × List Bool) × Unit)) = some ((p, (), (((if clsNot p = true then 1 else 0) : Nat) : Int), ()), (4, clsNot p, List.replicate 256 false), ()) from by cases clsNot p <;> rfl]
  rw [Option.bind_some]
  have hcl : ∀ (r : Nat × List Bool), clsR p = r → True := fun _ _ => trivial
  generalize hi0 : (if clsNot p = true then 1 else 0 : Nat) = i0
  have hR : clsR p = cls p i0 true (List.replicate 256 false) := by rw [← hi0]; rfl
  rw [hR]
  have hi0' : i0 ≤ 1 := by rw [← hi0]; split <;> omega
  refine (loopC_inv _
    (fun n s => ∃ i first set, s = ((p, (), ((i : Nat) : Int), first, ()), (4, clsNot p, set), ()) ∧ set.length = 256 ∧ i ≤ 64 ∧ n = p.length - i)
    (fun s => some (if (cls p s.1.2.2.1.toNat s.1.2.2.2.1 s.2.1.2.2).1 ≥ p.length then (none, 0, ()) else (some (4, clsNot p, (cls p s.1.2.2.1.toNat s.1.2.2.2.1 s.2.1.2.2).2), (((cls p s.1.2.2.1.toNat s.1.2.2.2.1 s.2.1.2.2).1 + 1 : Nat) : Int), ()), ())) ?_ _ (p.length - i0) _ ?_ ?_).trans ?_
  · rintro n s k ⟨i, first, set, rfl, hs, hi, rfl⟩ hk
    dsimp only
    rw [Int.toNat_natCast]
    have w1 : IntKind.wrap IntKind.i64 ((i : Int) + 1) = ((i + 1 : Nat) : Int) := by rw [wr _ (by omega)]; omega
    have w2 : IntKind.wrap IntKind.i64 (((i + 1 : Nat) : Int) + 1) = ((i + 2 : Nat) : Int) := by rw [wr _ (by omega)]; omega
    have w3 : IntKind.wrap IntKind.i64 (((i + 1 : Nat) : Int) + 2) = ((i + 3 : Nat) : Int) := by rw [wr _ (by omega)]; omega
    have wb : ∀ j : Nat, IntKind.wrap IntKind.i64 (((UInt8.toNat (p.getD j 0)) : Nat) : Int) = (by8 p j : Int) := by
      intro j; have := by8_lt p j; unfold by8 at *; rw [wr _ (by omega)]
    have wb' : ∀ j : Nat, (((UInt8.toNat (p.getD j 0)) : Nat) : Int) = (by8 p j : Int) := fun j => rfl
    have wv : ∀ j : Nat, IntKind.wrap IntKind.i64 (by8 p j : Int) = (by8 p j : Int) := wb
    have ne93 : ∀ j : Nat, (((by8 p j : Nat) : Int) != 93) = decide (by8 p j ≠ 93) := by
      intro j; by_cases h : by8 p j = 93
      · rw [h]; rfl
      · rw [decide_eq_true h, bne_iff_ne]; omega
    have eq45 : ∀ j : Nat, (((by8 p j : Nat) : Int) == 45) = decide (by8 p j = 45) := by
      intro j; by_cases h : by8 p j = 45
      · rw [h]; rfl
      · rw [decide_eq_false h, beq_eq_false_iff_ne]; omega
    simp only [w1, w2, Int.toNat_natCast, wb, wb', wv, ne93, eq45]
    by_cases hc : i < p.length ∧ (first = true ∨ by8 p i ≠ 93)
    · obtain ⟨hl, hf⟩ := hc
      have hg : (0 : Int) ≤ (i : Int) ∧ (i : Int) < (p.length : Int) := by omega
      have hd : decide ((i : Int) < (p.length : Int)) = true := decide_eq_true hg.2
      have step1 : (bif first then some ((p, (), (i : Int), true, ()), ((4 : Int), clsNot p, set), ()) else some ((p, (), (i : Int), decide (by8 p i ≠ 93), ()), ((4 : Int), clsNot p, set), ()) : Option ((List UInt8 × Unit × Int × Bool × Unit) × (Int × Bool × List Bool) × Unit)) = some ((p, (), (i : Int), true, ()), (4, clsNot p, set), ()) := by
        rcases hf with rfl | h
        · rfl
        · rw [decide_eq_true h]; cases first <;> rfl
      rw [hd]
      simp only [cond_true, if_pos hg, step1, Option.bind_some, w1, w2, Int.toNat_natCast, wb, wb', wv, ne93, eq45]
      by_cases hr : i + 2 < p.length ∧ by8 p (i + 1) = 45 ∧ by8 p (i + 2) ≠ 93
      · rw [cls_range ⟨hl, hf⟩ hr]
        have d1 : decide (((i + 2 : Nat) : Int) < (p.length : Int)) = true := decide_eq_true (by omega)
        have g1 : (0 : Int) ≤ ((i + 1 : Nat) : Int) ∧ ((i + 1 : Nat) : Int) < (p.length : Int) := by omega
        have g2 : (0 : Int) ≤ ((i + 2 : Nat) : Int) ∧ ((i + 2 : Nat) : Int) < (p.length : Int) := by omega
        rw [d1]
        simp only [cond_true, if_pos g1, if_pos g2, decide_eq_true hr.2.1, decide_eq_true hr.2.2, Option.bind_some, w2, w3, Int.toNat_natCast, wb]
        refine (loopC_inv _
          (fun n s => ∃ (lo : Nat) (set' : List Bool), s = ((p, (), ((i + 3 : Nat) : Int), (by8 p (i + 2) : Int), (lo : Int), ()), (4, clsNot p, set'), ()) ∧ set'.length = 256 ∧ lo ≤ 257 ∧ n = by8 p (i + 2) + 1 - lo)
          (fun s => k ((p, (), ((i + 3 : Nat) : Int), false, ()), (4, clsNot p, fillN (by8 p (i + 2) + 1 - s.1.2.2.2.2.1.toNat) s.1.2.2.2.2.1.toNat s.2.1.2.2), ())) ?_ _ (by8 p (i + 2) + 1 - by8 p i) _ ?_ ?_).trans ?_
        · rintro n s k1 ⟨lo, set', rfl, hs', hlo, rfl⟩ hk1
          dsimp only
          have wlo : IntKind.wrap IntKind.i64 ((lo : Int) + 1) = ((lo + 1 : Nat) : Int) := by rw [wr _ (by omega)]; omega
          by_cases hle : lo ≤ by8 p (i + 2)
          · have hlt : by8 p (i + 2) < 256 := by8_lt _ _
            have c1 : (0 : Int) ≤ (lo : Int) ∧ (lo : Int) < ((256 : Nat) : Int) ∧ (lo : Int) < (set'.length : Int) := by omega
            have c2 : lo < set'.length := by omega
            rw [decide_eq_true (show ((lo : Int) ≤ (by8 p (i + 2) : Int)) by omega), cond_true, if_pos c1]
            simp only [Int.toNat_natCast, if_pos c2, wlo]
            rw [hk1 (by8 p (i + 2) + 1 - (lo + 1)) _ (by omega) ⟨lo + 1, _, rfl, by rw [List.length_set]; exact hs', by omega, rfl⟩]
            simp only [Int.toNat_natCast]
            rw [show by8 p (i + 2) + 1 - lo = (by8 p (i + 2) + 1 - (lo + 1)) + 1 by omega, fillN]
          · rw [decide_eq_false (show ¬((lo : Int) ≤ (by8 p (i + 2) : Int)) by omega), cond_false]
            simp only [Int.toNat_natCast]
            rw [show by8 p (i + 2) + 1 - lo = 0 by omega, fillN]
        · exact ⟨by8 p i, set, rfl, hs, by have := by8_lt p i; omega, rfl⟩
        · have := by8_lt p i; have := by8_lt p (i + 2); try simp only [Int.toNat_natCast]
          omega
        · simp only [Int.toNat_natCast]
          rw [hk (p.length - (i + 3)) _ (by omega) ⟨i + 3, false, _, rfl, by rw [fillN_length]; exact hs, by omega, rfl⟩]
          simp only [Int.toNat_natCast]
      · rw [cls_one ⟨hl, hf⟩ hr]
        rw [show (bif decide (((i + 2 : Nat) : Int) < (p.length : Int)) then
            if (0 : Int) ≤ ((i + 1 : Nat) : Int) ∧ ((i + 1 : Nat) : Int) < (p.length : Int) then
              bif decide (by8 p (i + 1) = 45) then
                if (0 : Int) ≤ ((i + 2 : Nat) : Int) ∧ ((i + 2 : Nat) : Int) < (p.length : Int) then
                  some ((p, (), ((i + 1 : Nat) : Int), (by8 p i : Int), (by8 p i : Int), decide (by8 p (i + 2) ≠ 93), ()), ((4 : Int), clsNot p, set), ())
                else none
              else some ((p, (), ((i + 1 : Nat) : Int), (by8 p i : Int), (by8 p i : Int), false, ()), ((4 : Int), clsNot p, set), ())
            else none
          else some ((p, (), ((i + 1 : Nat) : Int), (by8 p i : Int), (by8 p i : Int), false, ()), ((4 : Int), clsNot p, set), ()) : Option ((List UInt8 × Unit × Int × Int × Int × Bool × Unit) × (Int × Bool × List Bool) × Unit)) = some ((p, (), ((i + 1 : Nat) : Int), (by8 p i : Int), (by8 p i : Int), false, ()), ((4 : Int), clsNot p, set), ()) from by
          by_cases a1 : i + 2 < p.length
          · have d1 : decide (((i + 2 : Nat) : Int) < (p.length : Int)) = true := decide_eq_true (by omega)
            have g1 : (0 : Int) ≤ ((i + 1 : Nat) : Int) ∧ ((i + 1 : Nat) : Int) < (p.length : Int) := by omega
            have g2 : (0 : Int) ≤ ((i + 2 : Nat) : Int) ∧ ((i + 2 : Nat) : Int) < (p.length : Int) := by omega
            rw [d1]; simp only [cond_true, if_pos g1, if_pos g2]
            by_cases a2 : by8 p (i + 1) = 45
            · have a3 : ¬ by8 p (i + 2) ≠ 93 := fun h => hr ⟨a1, a2, h⟩
              rw [decide_eq_true a2, decide_eq_false a3]; rfl
            · rw [decide_eq_false a2]; rfl
          · have d1 : decide (((i + 2 : Nat) : Int) < (p.length : Int)) = false := decide_eq_false (by omega)
            rw [d1]; rfl]
        simp only [Option.bind_some, cond_false]
        refine (loopC_inv _
          (fun n s => ∃ (lo : Nat) (set' : List Bool), s = ((p, (), ((i + 1 : Nat) : Int), (by8 p (i) : Int), (lo : Int), ()), (4, clsNot p, set'), ()) ∧ set'.length = 256 ∧ lo ≤ 257 ∧ n = by8 p (i) + 1 - lo)
          (fun s => k ((p, (), ((i + 1 : Nat) : Int), false, ()), (4, clsNot p, fillN (by8 p (i) + 1 - s.1.2.2.2.2.1.toNat) s.1.2.2.2.2.1.toNat s.2.1.2.2), ())) ?_ _ (by8 p (i) + 1 - by8 p i) _ ?_ ?_).trans ?_
        · rintro n s k1 ⟨lo, set', rfl, hs', hlo, rfl⟩ hk1
          dsimp only
          have wlo : IntKind.wrap IntKind.i64 ((lo : Int) + 1) = ((lo + 1 : Nat) : Int) := by rw [wr _ (by omega)]; omega
          by_cases hle : lo ≤ by8 p (i)
          · have hlt : by8 p (i) < 256 := by8_lt _ _
            have c1 : (0 : Int) ≤ (lo : Int) ∧ (lo : Int) < ((256 : Nat) : Int) ∧ (lo : Int) < (set'.length : Int) := by omega
            have c2 : lo < set'.length := by omega
            rw [decide_eq_true (show ((lo : Int) ≤ (by8 p (i) : Int)) by omega), cond_true, if_pos c1]
            simp only [Int.toNat_natCast, if_pos c2, wlo]
            rw [hk1 (by8 p (i) + 1 - (lo + 1)) _ (by omega) ⟨lo + 1, _, rfl, by rw [List.length_set]; exact hs', by omega, rfl⟩]
            simp only [Int.toNat_natCast]
            rw [show by8 p (i) + 1 - lo = (by8 p (i) + 1 - (lo + 1)) + 1 by omega, fillN]
          · rw [decide_eq_false (show ¬((lo : Int) ≤ (by8 p (i) : Int)) by omega), cond_false]
            simp only [Int.toNat_natCast]
            rw [show by8 p (i) + 1 - lo = 0 by omega, fillN]
        · exact ⟨by8 p i, set, rfl, hs, by have := by8_lt p i; omega, rfl⟩
        · have := by8_lt p i; have := by8_lt p (i); try simp only [Int.toNat_natCast]
          omega
        · simp only [Int.toNat_natCast]
          rw [show by8 p i + 1 - by8 p i = 0 + 1 by omega, fillN, fillN]
          rw [hk (p.length - (i + 1)) _ (by omega) ⟨i + 1, false, _, rfl, by rw [List.length_set]; exact hs, by omega, rfl⟩]
          simp only [Int.toNat_natCast]
    · rw [cls_stop hc]
      have step1 : (bif decide ((i : Int) < (p.length : Int)) then bif first then some ((p, (), (i : Int), true, ()), ((4 : Int), clsNot p, set), ()) else if (0 : Int) ≤ (i : Int) ∧ (i : Int) < (p.length : Int) then some ((p, (), (i : Int), decide (by8 p i ≠ 93), ()), ((4 : Int), clsNot p, set), ()) else none else some ((p, (), (i : Int), false, ()), ((4 : Int), clsNot p, set), ()) : Option ((List UInt8 × Unit × Int × Bool × Unit) × (Int × Bool × List Bool) × Unit)) = some ((p, (), (i : Int), false, ()), (4, clsNot p, set), ()) := by
        by_cases hl : i < p.length
        · rw [decide_eq_true (show ((i : Int) < (p.length : Int)) by omega), cond_true, if_pos (show (0 : Int) ≤ (i : Int) ∧ (i : Int) < (p.length : Int) by omega)]
          have hf : first = false := by cases first; rfl; exact absurd ⟨hl, Or.inl rfl⟩ hc
          have h9 : ¬ by8 p i ≠ 93 := fun h => hc ⟨hl, Or.inr h⟩
          rw [hf, decide_eq_false h9]; rfl
        · rw [decide_eq_false (show ¬((i : Int) < (p.length : Int)) by omega)]; rfl
      rw [step1]
      simp only [Option.bind_some, cond_false]
      by_cases hl : i ≥ p.length
      · rw [decide_eq_true (show (i : Int) ≥ (p.length : Int) by omega), if_pos hl]; rfl
      · rw [decide_eq_false (show ¬((i : Int) ≥ (p.length : Int)) by omega), if_neg hl, cond_false, w1]
  · exact ⟨i0, true, _, rfl, List.length_replicate .., by omega, rfl⟩
  · simp only []; omega
  · simp only [Int.toNat_natCast]
end Go.AM
set_option linter.unusedVariables false
set_option linter.unusedSimpArgs false
namespace Go.AM
open Go
theorem spec_class_eq (p : List UInt8) (hp : p.length ≤ 60) : m_spec_l08Class p = some (if (clsR p).1 ≥ p.length then ((0, 0, false, []), 0, ()) else ((2, 0, clsNot p, (clsR p).2), (((clsR p).1 + 1 : Nat) : Int), ()), ()) := by
  unfold m_spec_l08Class
  have wb : ∀ j : Nat, IntKind.wrap IntKind.i64 (((UInt8.toNat (p.getD j 0)) : Nat) : Int) = (by8 p j : Int) := by
    intro j; have := by8_lt p j; unfold by8 at *; rw [wr _ (by omega)]
  have wb' : ∀ j : Nat, (((UInt8.toNat (p.getD j 0)) : Nat) : Int) = (by8 p j : Int) := fun j => rfl
  have wv : ∀ j : Nat, IntKind.wrap IntKind.i64 (by8 p j : Int) = (by8 p j : Int) := wb
  have ne93 : ∀ j : Nat, (((by8 p j : Nat) : Int) != 93) = decide (by8 p j ≠ 93) := by
    intro j; by_cases h : by8 p j = 93
    · rw [h]; rfl
    · rw [decide_eq_true h, bne_iff_ne]; omega
  have eq45 : ∀ j : Nat, (((by8 p j : Nat) : Int) == 45) = decide (by8 p j = 45) := by
    intro j; by_cases h : by8 p j = 45
    · rw [h]; rfl
    · rw [decide_eq_false h, beq_eq_false_iff_ne]; omega
  have eq33 : ∀ j : Nat, (((by8 p j : Nat) : Int) == 33) = (by8 p j == 33) := by
    intro j; by_cases h : by8 p j = 33
    · rw [h]; rfl
    · rw [beq_eq_false_iff_ne.mpr h, beq_eq_false_iff_ne]; omega
  refine (loopC_inv _
    (fun n s => ∃ (i : Nat), s = ((p, (), (), (i : Int), ()), (0, 0, false, (), ()), (2, 0, false, (), ()), List.replicate i false, ()) ∧ i ≤ 256 ∧ n = 256 - i)
    (fun _ => some (if (clsR p).1 ≥ p.length then ((0, 0, false, []), 0, ()) else ((2, 0, clsNot p, (clsR p).2), (((clsR p).1 + 1 : Nat) : Int), ()), ())) ?_ _ 256 _ ?_ ?_).trans rfl
  · rintro n s k ⟨i, rfl, hi, rfl⟩ hk
    dsimp only
    by_cases hlt : i < 256
    · rw [decide_eq_true (show (i : Int) < 256 by omega), cond_true, if_pos (by rw [List.length_replicate]; show (i + 1) * 1 ≤ _; omega)]
      rw [wr _ (by omega)]
      rw [hk (256 - (i + 1)) _ (by omega) ⟨i + 1, by rw [List.replicate_succ']; rfl, by omega, rfl⟩]
    · have : i = 256 := by omega
      subst this
      rw [decide_eq_false (by omega), cond_false]
      have e1 : (bif decide ((0 : Int) < (p.length : Int)) then
            if (0 : Int) ≤ (0 : Int) ∧ (0 : Int) < (p.length : Int) then
              some ((p, (), (), (0 : Int), (((by8 p 0 : Nat) : Int) == 33), ()), ((0 : Int), (0 : Int), false, (), ()), ((2 : Int), (0 : Int), false, (), ()), List.replicate 256 false, ())
            else none
          else some ((p, (), (), (0 : Int), false, ()), ((0 : Int), (0 : Int), false, (), ()), ((2 : Int), (0 : Int), false, (), ()), List.replicate 256 false, ()) : Option ((List UInt8 × Unit × Unit × Int × Bool × Unit) × (Int × Int × Bool × Unit × Unit) × (Int × Int × Bool × Unit × Unit) × List Bool × Unit))
          = some ((p, (), (), (0 : Int), clsNot p, ()), ((0 : Int), (0 : Int), false, (), ()), ((2 : Int), (0 : Int), false, (), ()), List.replicate 256 false, ()) := by
        unfold clsNot
        by_cases h : 1 ≤ p.length
        · rw [decide_eq_true (show (0 : Int) < (p.length : Int) by omega), cond_true, if_pos (by omega), decide_eq_true h, eq33]; rfl
        · rw [decide_eq_false (show ¬(0 : Int) < (p.length : Int) by omega), decide_eq_false h]; rfl
      simp only [Int.toNat_zero, wb']
      rw [e1]
      simp only [Option.bind_some]
      rw [show (bif clsNot p then some ((p, (), (), IntKind.wrap IntKind.i64 ((0 : Int) + (1 : Int)), ()), ((0 : Int), (0 : Int), false, (), ()), ((2 : Int), (0 : Int), true, (), ()), List.replicate 256 false, ())
          else some ((p, (), (), (0 : Int), ()), ((0 : Int), (0 : Int), false, (), ()), ((2 : Int), (0 : Int), false, (), ()), List.replicate 256 false, ()) : Option ((List UInt8 × Unit × Unit × Int × Unit) × (Int × Int × Bool × Unit × Unit) × (Int × Int × Bool × Unit × Unit) × List Bool × Unit))
        = some ((p, (), (), (((if clsNot p = true then 1 else 0) : Nat) : Int), ()), ((0 : Int), (0 : Int), false, (), ()), ((2 : Int), (0 : Int), clsNot p, (), ()), List.replicate 256 false, ()) from by cases clsNot p <;> rfl]
      rw [Option.bind_some]
      generalize hi0 : (if clsNot p = true then 1 else 0 : Nat) = i0
      have hR : clsR p = cls p i0 true (List.replicate 256 false) := by rw [← hi0]; rfl
      rw [hR]
      have hi0' : i0 ≤ 1 := by rw [← hi0]; split <;> omega
      refine (loopC_inv _
        (fun n s => ∃ (i : Nat) (first : Bool) (set : List Bool), s = ((p, (), (), (i : Int), first, ()), (0, 0, false, (), ()), (2, 0, clsNot p, (), ()), set, ()) ∧ set.length = 256 ∧ i ≤ 64 ∧ n = p.length - i)
        (fun s => some (if (cls p s.1.2.2.2.1.toNat s.1.2.2.2.2.1 s.2.2.2.1).1 ≥ p.length then ((0, 0, false, []), 0, ()) else ((2, 0, clsNot p, (cls p s.1.2.2.2.1.toNat s.1.2.2.2.2.1 s.2.2.2.1).2), (((cls p s.1.2.2.2.1.toNat s.1.2.2.2.2.1 s.2.2.2.1).1 + 1 : Nat) : Int), ()), ())) ?_ _ (p.length - i0) _ ?_ ?_).trans ?_
      · clear hk e1
        rintro n s k ⟨i, first, set, rfl, hs, hi, rfl⟩ hk
        have w1 : IntKind.wrap IntKind.i64 ((i : Int) + 1) = ((i + 1 : Nat) : Int) := by rw [wr _ (by omega)]; omega
        have w2 : IntKind.wrap IntKind.i64 ((i : Int) + 2) = ((i + 2 : Nat) : Int) := by rw [wr _ (by omega)]; omega
        have w3 : IntKind.wrap IntKind.i64 ((i : Int) + 3) = ((i + 3 : Nat) : Int) := by rw [wr _ (by omega)]; omega
        dsimp only
        simp only [w1, w2, w3, Int.toNat_natCast, wb, wb', wv, ne93, eq45]
        by_cases hc : i < p.length ∧ (first = true ∨ by8 p i ≠ 93)
        · obtain ⟨hl, hf⟩ := hc
          have hg : (0 : Int) ≤ (i : Int) ∧ (i : Int) < (p.length : Int) := by omega
          have hd : decide ((i : Int) < (p.length : Int)) = true := decide_eq_true hg.2
          have step1 : (bif first then some ((p, (), (), (i : Int), true, ()), ((0 : Int), (0 : Int), false, (), ()), ((2 : Int), (0 : Int), clsNot p, (), ()), set, ()) else some ((p, (), (), (i : Int), decide (by8 p i ≠ 93), ()), ((0 : Int), (0 : Int), false, (), ()), ((2 : Int), (0 : Int), clsNot p, (), ()), set, ()) : Option ((List UInt8 × Unit × Unit × Int × Bool × Unit) × (Int × Int × Bool × Unit × Unit) × (Int × Int × Bool × Unit × Unit) × List Bool × Unit)) = some ((p, (), (), (i : Int), true, ()), ((0 : Int), (0 : Int), false, (), ()), ((2 : Int), (0 : Int), clsNot p, (), ()), set, ()) := by
            rcases hf with rfl | h
            · rfl
            · rw [decide_eq_true h]; cases first <;> rfl
          rw [hd]
          simp only [cond_true, if_pos hg, step1, Option.bind_some, w1, w2, w3, Int.toNat_natCast, wb, wb', wv, ne93, eq45]
          by_cases hr : i + 2 < p.length ∧ by8 p (i + 1) = 45 ∧ by8 p (i + 2) ≠ 93
          · rw [cls_range ⟨hl, hf⟩ hr]
            have d1 : decide (((i + 2 : Nat) : Int) < (p.length : Int)) = true := decide_eq_true (by omega)
            have g1 : (0 : Int) ≤ ((i + 1 : Nat) : Int) ∧ ((i + 1 : Nat) : Int) < (p.length : Int) := by omega
            have g2 : (0 : Int) ≤ ((i + 2 : Nat) : Int) ∧ ((i + 2 : Nat) : Int) < (p.length : Int) := by omega
            rw [d1]
            simp only [cond_true, if_pos g1, if_pos g2, if_pos hg, decide_eq_true hr.2.1, decide_eq_true hr.2.2, Option.bind_some, w1, w2, w3, Int.toNat_natCast, wb, wb', wv]
            refine (congrArg (fun o => Option.bind o _) ((loopC_inv _
              (fun n s => ∃ (lo : Nat) (set' : List Bool), s = ((p, (), (), ((i : Nat) : Int), false, (lo : Int), ()), (0, 0, false, (), ()), (2, 0, clsNot p, (), ()), set', ()) ∧ set'.length = 256 ∧ lo ≤ 257 ∧ n = by8 p (i + 2) + 1 - lo)
              (fun s => some ((p, (), (), ((i + 3 : Nat) : Int), false, ()), (0, 0, false, (), ()), (2, 0, clsNot p, (), ()), fillN (by8 p (i + 2) + 1 - s.1.2.2.2.2.2.1.toNat) s.1.2.2.2.2.2.1.toNat s.2.2.2.1, ())) ?_ _ (by8 p (i + 2) + 1 - by8 p i) _ ?_ ?_))).trans ?_
            · rintro n s k1 ⟨lo, set', rfl, hs', hlo, rfl⟩ hk1
              dsimp only
              have wlo : IntKind.wrap IntKind.i64 ((lo : Int) + 1) = ((lo + 1 : Nat) : Int) := by rw [wr _ (by omega)]; omega
              simp only [cond_true, if_pos g2, w2, w3, Int.toNat_natCast, wb, wb', wv, wlo]
              by_cases hle : lo ≤ by8 p (i + 2)
              · have hlt : by8 p (i + 2) < 256 := by8_lt _ _
                have c1 : (0 : Int) ≤ (lo : Int) ∧ (lo : Int) < (set'.length : Int) := by omega
                have c2 : lo < set'.length := by omega
                rw [decide_eq_true (show ((lo : Int) ≤ (by8 p (i + 2) : Int)) by omega), cond_true, if_pos c1]
                rw [if_pos c2]
                rw [hk1 (by8 p (i + 2) + 1 - (lo + 1)) _ (by omega) ⟨lo + 1, _, rfl, by rw [List.length_set]; exact hs', by omega, rfl⟩]
                simp only [Int.toNat_natCast]
                rw [show by8 p (i + 2) + 1 - lo = (by8 p (i + 2) + 1 - (lo + 1)) + 1 by omega, fillN]
              · rw [decide_eq_false (show ¬((lo : Int) ≤ (by8 p (i + 2) : Int)) by omega), cond_false]
                rw [show by8 p (i + 2) + 1 - lo = 0 by omega, fillN]
            · exact ⟨by8 p i, set, rfl, hs, by have := by8_lt p i; omega, rfl⟩
            · have := by8_lt p i; have := by8_lt p (i + 2); try simp only [Int.toNat_natCast]
              omega
            · simp only [Int.toNat_natCast, Option.bind_some]
              rw [hk (p.length - (i + 3)) _ (by omega) ⟨i + 3, false, _, rfl, by rw [fillN_length]; exact hs, by omega, rfl⟩]
              simp only [Int.toNat_natCast]
          · rw [cls_one ⟨hl, hf⟩ hr]
            have e3 : ∀ (T : Type) (A B : T), (bif decide (((i + 2 : Nat) : Int) < (p.length : Int)) then
                if (0 : Int) ≤ ((i + 1 : Nat) : Int) ∧ ((i + 1 : Nat) : Int) < (p.length : Int) then
                  bif decide (by8 p (i + 1) = 45) then
                    if (0 : Int) ≤ ((i + 2 : Nat) : Int) ∧ ((i + 2 : Nat) : Int) < (p.length : Int) then
                      some ((p, (), (), (i : Int), false, decide (by8 p (i + 2) ≠ 93), ()), ((0 : Int), (0 : Int), false, (), ()), ((2 : Int), (0 : Int), clsNot p, (), ()), set, ())
                    else none
                  else some ((p, (), (), (i : Int), false, false, ()), ((0 : Int), (0 : Int), false, (), ()), ((2 : Int), (0 : Int), clsNot p, (), ()), set, ())
                else none
              else some ((p, (), (), (i : Int), false, false, ()), ((0 : Int), (0 : Int), false, (), ()), ((2 : Int), (0 : Int), clsNot p, (), ()), set, ()) : Option ((List UInt8 × Unit × Unit × Int × Bool × Bool × Unit) × (Int × Int × Bool × Unit × Unit) × (Int × Int × Bool × Unit × Unit) × List Bool × Unit)) = some ((p, (), (), (i : Int), false, false, ()), ((0 : Int), (0 : Int), false, (), ()), ((2 : Int), (0 : Int), clsNot p, (), ()), set, ()) := by
              intro _ _ _
              by_cases a1 : i + 2 < p.length
              · have d1 : decide (((i + 2 : Nat) : Int) < (p.length : Int)) = true := decide_eq_true (by omega)
                have g1 : (0 : Int) ≤ ((i + 1 : Nat) : Int) ∧ ((i + 1 : Nat) : Int) < (p.length : Int) := by omega
                have g2 : (0 : Int) ≤ ((i + 2 : Nat) : Int) ∧ ((i + 2 : Nat) : Int) < (p.length : Int) := by omega
                rw [d1]; simp only [cond_true, if_pos g1, if_pos g2]
                by_cases a2 : by8 p (i + 1) = 45
                · have a3 : ¬ by8 p (i + 2) ≠ 93 := fun h => hr ⟨a1, a2, h⟩
                  rw [decide_eq_true a2, decide_eq_false a3]; rfl
                · rw [decide_eq_false a2]; rfl
              · have d1 : decide (((i + 2 : Nat) : Int) < (p.length : Int)) = false := decide_eq_false (by omega)
                rw [d1]; rfl
            rw [e3 Unit () ()]
            have c1 : (0 : Int) ≤ (by8 p i : Int) ∧ (by8 p i : Int) < (set.length : Int) := by have := by8_lt p i; omega
            have c2 : by8 p i < set.length := by omega
            simp only [Option.bind_some, cond_false, if_pos hg, Int.toNat_natCast, wb', if_pos c1, if_pos c2, w1]
            rw [if_pos (show (p.getD i 0).toNat < set.length from c2), Option.bind_some]
            refine (hk (p.length - (i + 1)) _ (by omega) ⟨i + 1, false, set.set (by8 p i) true, rfl, by rw [List.length_set]; exact hs, by omega, rfl⟩).trans ?_
            simp only [Int.toNat_natCast]
        · rw [cls_stop hc]
          have step1 : (bif decide ((i : Int) < (p.length : Int)) then bif first then some ((p, (), (), (i : Int), true, ()), ((0 : Int), (0 : Int), false, (), ()), ((2 : Int), (0 : Int), clsNot p, (), ()), set, ()) else if (0 : Int) ≤ (i : Int) ∧ (i : Int) < (p.length : Int) then some ((p, (), (), (i : Int), decide (by8 p i ≠ 93), ()), ((0 : Int), (0 : Int), false, (), ()), ((2 : Int), (0 : Int), clsNot p, (), ()), set, ()) else none else some ((p, (), (), (i : Int), false, ()), ((0 : Int), (0 : Int), false, (), ()), ((2 : Int), (0 : Int), clsNot p, (), ()), set, ()) : Option ((List UInt8 × Unit × Unit × Int × Bool × Unit) × (Int × Int × Bool × Unit × Unit) × (Int × Int × Bool × Unit × Unit) × List Bool × Unit)) = some ((p, (), (), (i : Int), false, ()), ((0 : Int), (0 : Int), false, (), ()), ((2 : Int), (0 : Int), clsNot p, (), ()), set, ()) := by
            by_cases hl : i < p.length
            · rw [decide_eq_true (show ((i : Int) < (p.length : Int)) by omega), cond_true, if_pos (show (0 : Int) ≤ (i : Int) ∧ (i : Int) < (p.length : Int) by omega)]
              have hf : first = false := by cases first; rfl; exact absurd ⟨hl, Or.inl rfl⟩ hc
              have h9 : ¬ by8 p i ≠ 93 := fun h => hc ⟨hl, Or.inr h⟩
              rw [hf, decide_eq_false h9]; rfl
            · rw [decide_eq_false (show ¬((i : Int) < (p.length : Int)) by omega)]; rfl
          rw [step1]
          simp only [Option.bind_some, cond_false]
          by_cases hl : i ≥ p.length
          · rw [decide_eq_true (show (i : Int) ≥ (p.length : Int) by omega), if_pos hl]; rfl
          · rw [decide_eq_false (show ¬((i : Int) ≥ (p.length : Int)) by omega), if_neg hl, cond_false, w1]
      · exact ⟨i0, true, _, rfl, List.length_replicate .., by omega, rfl⟩
      · try simp only []
        omega
      · simp only [Int.toNat_natCast]
  · exact ⟨0, rfl, by omega, rfl⟩
  · try simp only []
    omega
end Go.AM
set_option linter.unusedVariables false
set_option linter.unusedSimpArgs false
namespace Go.AM
open Go
inductive Pc where
  | byte (b : Nat) | any (b : Nat) | star (b : Nat) | stars (b : Nat) | cl (nt : Bool) (s : List Bool)
def Pc.S : Pc → Int × Int × Bool × List Bool
  | .byte b => (0, b, false, [])
  | .any b => (1, b, false, [])
  | .star b => (3, b, false, [])
  | .stars b => (4, b, false, [])
  | .cl nt s => (2, 0, nt, s)
def Pc.I : Pc → Int × Bool × List Bool
  | .byte b => (0, false, (List.replicate 256 false).set b true)
  | .any _ => (1, false, List.replicate 256 false)
  | .star _ => (2, false, List.replicate 256 false)
  | .stars _ => (3, false, List.replicate 256 false)
  | .cl nt s => (4, nt, s)
def pc1 (p : List UInt8) : Option (Pc × Nat) :=
  if (decide (2 ≤ p.length) && (p.take 2 == [42, 42])) = true then some (.stars (by8 p 0), 2)
  else if by8 p 0 = 42 then some (.star (by8 p 0), 1)
  else if by8 p 0 = 63 then some (.any (by8 p 0), 1)
  else if by8 p 0 = 91 then (if (clsR (p.drop 1)).1 ≥ (p.drop 1).length then none else some (.cl (clsNot (p.drop 1)) (clsR (p.drop 1)).2, 1 + ((clsR (p.drop 1)).1 + 1)))
  else if by8 p 0 = 92 then (if p.length < 2 then none else some (.byte (by8 p 1), 2))
  else some (.byte (by8 p 0), 1)
def pcs : Nat → List UInt8 → Option (List Pc)
  | 0, _ => some []
  | n + 1, p => if p.length = 0 then some [] else
    match pc1 p with
    | none => none
    | some (c, m) => (pcs n (p.drop m)).map (c :: ·)
theorem pc1_pos {p c m} (h : pc1 p = some (c, m)) (hp : 0 < p.length) : 1 ≤ m ∧ m ≤ p.length := by
  unfold pc1 at h
  split at h
  · next h1 =>
    simp only [Bool.and_eq_true, decide_eq_true_eq] at h1
    cases h; omega
  split at h
  · cases h; omega
  split at h
  · cases h; omega
  split at h
  · split at h
    · cases h
    · next h2 => cases h; rw [List.length_drop] at h2; omega
  split at h
  · split at h
    · cases h
    · cases h; omega
  · cases h; omega
theorem pcs_more : ∀ n p m, p.length ≤ n → n ≤ m → pcs m p = pcs n p := by
  intro n
  induction n with
  | zero => intro p m h _; cases m with
    | zero => rfl
    | succ m => rw [show pcs 0 p = some [] from rfl, pcs, if_pos (by omega)]
  | succ n ih =>
    intro p m h hm
    obtain ⟨m, rfl⟩ : ∃ m', m = m' + 1 := ⟨m - 1, by omega⟩
    rw [pcs, pcs]
    split
    · rfl
    · next h0 =>
      cases hc : pc1 p with
      | none => rfl
      | some x =>
        obtain ⟨c, k⟩ := x
        have := pc1_pos hc (by omega)
        simp only
        rw [ih (p.drop k) m (by rw [List.length_drop]; omega) (by omega)]
def pieces (p : List UInt8) : Option (List Pc) := pcs p.length p
theorem pieces_nil : pieces [] = some [] := rfl
theorem pieces_none {p} (hp : p.length ≠ 0) (h : pc1 p = none) : pieces p = none := by
  unfold pieces
  obtain ⟨n, hn⟩ : ∃ n, p.length = n + 1 := ⟨p.length - 1, by omega⟩
  rw [hn, pcs, if_neg hp, h]
theorem pieces_some {p c m} (hp : p.length ≠ 0) (h : pc1 p = some (c, m)) : pieces p = (pieces (p.drop m)).map (c :: ·) := by
  have := pc1_pos h (by omega)
  unfold pieces
  obtain ⟨n, hn⟩ : ∃ n, p.length = n + 1 := ⟨p.length - 1, by omega⟩
  rw [hn, pcs, if_neg hp, h]
  simp only
  rw [pcs_more (p.drop m).length (p.drop m) n (by omega) (by rw [List.length_drop]; omega)]
theorem joinC_inl {S α : Type} (s : S) (k : S → Option α) : joinC (some (.inl s)) k = k s := rfl
theorem joinC_inr {S α : Type} (a : α) (k : S → Option α) : joinC (some (.inr a)) k = some a := rfl
theorem joinC_none {S α : Type} (k : S → Option α) : joinC (none) k = none := rfl
theorem l01In_eq (a b c : Int) : m_spec_l01In a b c = some (decide (a ≥ b ∧ a ≤ c), ()) := by
  unfold m_spec_l01In
  by_cases h : a ≥ b <;> by_cases h2 : a ≤ c <;> simp [h, h2]
theorem within_eq (a b c : Int) : m_impl_within a b c = some (decide (a ≥ b ∧ a ≤ c), ()) := by
  unfold m_impl_within
  by_cases h : a ≥ b <;> by_cases h2 : a ≤ c <;> simp [h, h2]
theorem one_eq (p : List UInt8) (j : Nat) : m_impl_one (((p.getD j 0).toNat : Nat) : Int) = some ((Pc.byte (by8 p j)).I, ()) := by
  unfold m_impl_one
  have h := by8_lt p j
  have h1 : (0 : Int) ≤ (((p.getD j 0).toNat : Nat) : Int) ∧ (((p.getD j 0).toNat : Nat) : Int) < ((256 : Nat) : Int) ∧ (((p.getD j 0).toNat : Nat) : Int) < (((List.replicate 256 false).length : Nat) : Int) := by
    unfold by8 at h; rw [List.length_replicate]; omega
  rw [if_pos h1, Int.toNat_natCast, if_pos (by rw [List.length_replicate]; exact h)]
  rfl
theorem eqI (p : List UInt8) (j n : Nat) : ((((p.getD j 0).toNat : Nat) : Int) == (n : Int)) = decide (by8 p j = n) := by
  by_cases h : by8 p j = n
  · rw [decide_eq_true h, beq_iff_eq]; unfold by8 at h; omega
  · rw [decide_eq_false h, beq_eq_false_iff_ne]; unfold by8 at h; omega
theorem impl_pieces_eq (p : List UInt8) : m_impl_pieces p = some (if 1 ≤ p.length ∧ p.length ≤ 60 then (match pieces p with | none => ([], false, ()) | some l => (l.map Pc.I, true, ())) else ([], false, ()), ()) := by
  unfold m_impl_pieces
  rw [within_eq, Option.bind_some]
  by_cases hp : 1 ≤ p.length ∧ p.length ≤ 60
  · rw [decide_eq_true (show (p.length : Int) ≥ 1 ∧ (p.length : Int) ≤ 60 by omega), if_pos hp]
    simp only [Bool.not_true, cond_false]
    refine (loopC_inv _
      (fun n s => ∃ (q : List UInt8) (out : List (Int × Bool × List Bool)), s = ((q, (), ()), out, ()) ∧ q.length ≤ 60 ∧ out.length + q.length ≤ 60 ∧ n = q.length)
      (fun s => some (match pieces s.1.1 with | none => ([], false, ()) | some l => (s.2.1 ++ l.map Pc.I, true, ()), ())) ?_ _ p.length _ ?_ ?_).trans ?_
    · rintro n s k ⟨q, out, rfl, hq, ho, rfl⟩ hk
      dsimp only
      by_cases h0 : q.length = 0
      · have : q = [] := List.eq_nil_of_length_eq_zero h0
        subst this
        rw [pieces_nil]
        exact congrArg (fun l => some ((l, true, ()), ())) (List.append_nil out).symm
      · have hne : (!q == nilOf UInt8) = true := by cases q with
          | nil => exact absurd rfl h0
          | cons => rfl
        rw [hne, cond_true, hasPrefix_eq, Option.bind_some]
        have g0 : (0 : Int) ≤ 0 ∧ (0 : Int) < (q.length : Int) := by omega
        have hk' : ∀ (m : Nat) (c : Pc), pc1 q = some (c, m) → k ((List.drop m (List.take q.length q), (), ()), out ++ [c.I], ()) = some (match pieces q with | none => ([], false, ()) | some l => (out ++ l.map Pc.I, true, ()), ()) := by
          intro m c hc
          have := pc1_pos hc (by omega)
          rw [hk (q.drop m).length _ (by rw [List.length_drop]; omega) ⟨q.drop m, out ++ [c.I], by rw [List.take_length], by rw [List.length_drop]; omega, by rw [List.length_append, List.length_drop]; show out.length + 1 + _ ≤ _; omega, rfl⟩]
          rw [pieces_some h0 hc, List.take_length]
          cases pieces (q.drop m) with
          | none => rfl
          | some l => simp
        have gk : ∀ m c, pc1 q = some (c, m) → ((0 : Int) ≤ (m : Int) ∧ (m : Int) ≤ (q.length : Int) ∧ (q.length : Int) ≤ (q.length : Int)) := by
          intro m c hc; have := pc1_pos hc (by omega); omega
        have gl : ∀ x : Int × Bool × List Bool, (out.length + List.length [x]) * 8 ≤ 140737488355328 := by
          intro x; show (out.length + 1) * 8 ≤ _; omega
        have fin : ∀ (mi : Int) (m : Nat) (c : Pc) (x : Int × Bool × List Bool), mi = (m : Int) → x = c.I → pc1 q = some (c, m) →
            (if (0 : Int) ≤ mi ∧ mi ≤ (q.length : Int) ∧ (q.length : Int) ≤ (q.length : Int) then k ((List.drop (Int.toNat mi) (List.take (Int.toNat (q.length : Int)) q), (), ()), out ++ [x], ()) else none) = some (match pieces q with | none => ([], false, ()) | some l => (out ++ l.map Pc.I, true, ()), ()) := by
          intro mi m c x e1 e2 hc
          subst e1 e2
          rw [if_pos (gk _ _ hc), Int.toNat_natCast, Int.toNat_natCast]
          exact hk' m c hc
        have e42 : ((((q.getD 0 0).toNat : Nat) : Int) == (42 : Int)) = decide (by8 q 0 = 42) := eqI q 0 42
        have e63 : ((((q.getD 0 0).toNat : Nat) : Int) == (63 : Int)) = decide (by8 q 0 = 63) := eqI q 0 63
        have e91 : ((((q.getD 0 0).toNat : Nat) : Int) == (91 : Int)) = decide (by8 q 0 = 91) := eqI q 0 91
        have e92 : ((((q.getD 0 0).toNat : Nat) : Int) == (92 : Int)) = decide (by8 q 0 = 92) := eqI q 0 92
        have tz : Int.toNat (0 : Int) = 0 := rfl
        have t1 : Int.toNat (1 : Int) = 1 := rfl
        by_cases c1 : (decide (2 ≤ q.length) && (q.take 2 == [42, 42])) = true
        · have hc : pc1 q = some (.stars (by8 q 0), 2) := by unfold pc1; rw [if_pos c1]
          rw [show (decide ([(42 : UInt8), 42].length ≤ q.length) && (q.take [(42 : UInt8), 42].length == [42, 42])) = true from c1]
          simp only [cond_true, if_pos (gl _), joinC_inl]
          exact fin _ _ _ _ rfl rfl hc
        · rw [show (decide ([(42 : UInt8), 42].length ≤ q.length) && (q.take [(42 : UInt8), 42].length == [42, 42])) = false from eq_false_of_ne_true c1]
          simp only [cond_false, if_pos g0, tz, t1, e42, e63, e91, e92]
          by_cases c2 : by8 q 0 = 42
          · have hc : pc1 q = some (.star (by8 q 0), 1) := by unfold pc1; rw [if_neg c1, if_pos c2]
            simp only [decide_eq_true c2, cond_true, if_pos (gl _), joinC_inl]
            exact fin _ _ _ _ rfl rfl hc
          by_cases c3 : by8 q 0 = 63
          · have hc : pc1 q = some (.any (by8 q 0), 1) := by unfold pc1; rw [if_neg c1, if_neg c2, if_pos c3]
            simp only [decide_eq_false c2, cond_false, decide_eq_true c3, cond_true, if_pos (gl _), joinC_inl]
            exact fin _ _ _ _ rfl rfl hc
          by_cases c4 : by8 q 0 = 91
          · have g1 : (0 : Int) ≤ 1 ∧ (1 : Int) ≤ (q.length : Int) ∧ (q.length : Int) ≤ (q.length : Int) := by omega
            simp only [decide_eq_false c2, decide_eq_false c3, cond_false, decide_eq_true c4, cond_true, if_pos g1, Int.toNat_natCast, List.take_length]
            have hl : (q.drop 1).length ≤ 60 := by rw [List.length_drop]; omega
            rw [impl_class_eq _ hl, Option.bind_some]
            by_cases c5 : (clsR (q.drop 1)).1 ≥ (q.drop 1).length
            · have hc : pc1 q = none := by unfold pc1; rw [if_neg c1, if_neg c2, if_neg c3, if_pos c4, if_pos c5]
              rw [if_pos c5, pieces_none h0 hc]
              rfl
            · have hc : pc1 q = some (.cl (clsNot (q.drop 1)) (clsR (q.drop 1)).2, 1 + ((clsR (q.drop 1)).1 + 1)) := by unfold pc1; rw [if_neg c1, if_neg c2, if_neg c3, if_pos c4, if_neg c5]
              have := pc1_pos hc (by omega)
              rw [if_neg c5]
              simp only
              rw [show (((((clsR (q.drop 1)).1 + 1 : Nat) : Int)) == (0 : Int)) = false from by rw [beq_eq_false_iff_ne]; omega]
              simp only [cond_false, Option.bind_some, if_pos (gl _), joinC_inl]
              have := fin (IntKind.wrap IntKind.i64 ((1 : Int) + (((clsR (q.drop 1)).1 + 1 : Nat) : Int))) _ _ _ (by rw [wr _ (by omega)]; omega) rfl hc
              simp only [Int.toNat_natCast, List.take_length] at this
              exact this
          by_cases c5 : by8 q 0 = 92
          · simp only [decide_eq_false c2, decide_eq_false c3, decide_eq_false c4, cond_false, decide_eq_true c5, cond_true]
            by_cases c6 : q.length < 2
            · have hc : pc1 q = none := by unfold pc1; rw [if_neg c1, if_neg c2, if_neg c3, if_neg c4, if_pos c5, if_pos c6]
              rw [pieces_none h0 hc, decide_eq_true (show (q.length : Int) < 2 by omega)]
              rfl
            · have hc : pc1 q = some (.byte (by8 q 1), 2) := by unfold pc1; rw [if_neg c1, if_neg c2, if_neg c3, if_neg c4, if_pos c5, if_neg c6]
              rw [decide_eq_false (show ¬(q.length : Int) < 2 by omega)]
              simp only [cond_false]
              rw [if_pos (show (0 : Int) ≤ 1 ∧ (1 : Int) < (q.length : Int) by omega), one_eq, Option.bind_some]
              simp only [if_pos (gl _), joinC_inl]
              exact fin _ _ _ _ rfl rfl hc
          · have hc : pc1 q = some (.byte (by8 q 0), 1) := by unfold pc1; rw [if_neg c1, if_neg c2, if_neg c3, if_neg c4, if_neg c5]
            simp only [decide_eq_false c2, decide_eq_false c3, decide_eq_false c4, decide_eq_false c5, cond_false, one_eq, Option.bind_some, if_pos (gl _), joinC_inl]
            exact fin _ _ _ _ rfl rfl hc
    · exact ⟨p, [], rfl, by omega, by show 0 + _ ≤ _; omega, rfl⟩
    · show p.length < p.length + 0 + 300; omega
    · cases pieces p <;> simp [nilOf]
  · rw [decide_eq_false (by omega), if_neg hp]; rfl
end Go.AM
set_option linter.unusedVariables false
set_option linter.unusedSimpArgs false
namespace Go.AM
open Go
theorem spec_pieces_eq (p : List UInt8) : m_spec_l08Pieces p = some (if 1 ≤ p.length ∧ p.length ≤ 60 then (match pieces p with | none => ([], false, ()) | some l => (l.map Pc.S, true, ())) else ([], false, ()), ()) := by
  unfold m_spec_l08Pieces
  rw [l01In_eq, Option.bind_some]
  by_cases hp : 1 ≤ p.length ∧ p.length ≤ 60
  · rw [decide_eq_true (show (p.length : Int) ≥ 1 ∧ (p.length : Int) ≤ 60 by omega), if_pos hp]
    simp only [Bool.not_true, cond_false]
    refine (loopC_inv _
      (fun n s => ∃ (q : List UInt8) (out : List (Int × Int × Bool × List Bool)), s = ((q, (), ()), out, ()) ∧ q.length ≤ 60 ∧ out.length + q.length ≤ 60 ∧ n = q.length)
      (fun s => some (match pieces s.1.1 with | none => ([], false, ()) | some l => (s.2.1 ++ l.map Pc.S, true, ()), ())) ?_ _ p.length _ ?_ ?_).trans ?_
    · rintro n s k ⟨q, out, rfl, hq, ho, rfl⟩ hk
      dsimp only
      by_cases h0 : q.length = 0
      · have : q = [] := List.eq_nil_of_length_eq_zero h0
        subst this
        rw [pieces_nil]
        exact congrArg (fun l => some ((l, true, ()), ())) (List.append_nil out).symm
      · have g0 : (0 : Int) ≤ 0 ∧ (0 : Int) < (q.length : Int) := by omega
        rw [decide_eq_true (show (q.length : Int) > 0 by omega), cond_true, if_pos g0]
        have hk' : ∀ (m : Nat) (c : Pc), pc1 q = some (c, m) → k ((List.drop m (List.take q.length q), (), ()), out ++ [c.S], ()) = some (match pieces q with | none => ([], false, ()) | some l => (out ++ l.map Pc.S, true, ()), ()) := by
          intro m c hc
          have := pc1_pos hc (by omega)
          rw [hk (q.drop m).length _ (by rw [List.length_drop]; omega) ⟨q.drop m, out ++ [c.S], by rw [List.take_length], by rw [List.length_drop]; omega, by rw [List.length_append, List.length_drop]; show out.length + 1 + _ ≤ _; omega, rfl⟩]
          rw [pieces_some h0 hc, List.take_length]
          cases pieces (q.drop m) with
          | none => rfl
          | some l => simp
        have gk : ∀ m c, pc1 q = some (c, m) → ((0 : Int) ≤ (m : Int) ∧ (m : Int) ≤ (q.length : Int) ∧ (q.length : Int) ≤ (q.length : Int)) := by
          intro m c hc; have := pc1_pos hc (by omega); omega
        have gl : ∀ x : Int × Int × Bool × List Bool, (out.length + List.length [x]) * 40 ≤ 140737488355328 := by
          intro x; show (out.length + 1) * 40 ≤ _; omega
        have fin : ∀ (mi : Int) (m : Nat) (c : Pc) (x : Int × Int × Bool × List Bool), mi = (m : Int) → x = c.S → pc1 q = some (c, m) →
            (if (0 : Int) ≤ mi ∧ mi ≤ (q.length : Int) ∧ (q.length : Int) ≤ (q.length : Int) then k ((List.drop (Int.toNat mi) (List.take (Int.toNat (q.length : Int)) q), (), ()), out ++ [x], ()) else none) = some (match pieces q with | none => ([], false, ()) | some l => (out ++ l.map Pc.S, true, ()), ()) := by
          intro mi m c x e1 e2 hc
          subst e1 e2
          rw [if_pos (gk _ _ hc), Int.toNat_natCast, Int.toNat_natCast]
          exact hk' m c hc
        have e42 : ((((q.getD 0 0).toNat : Nat) : Int) == (42 : Int)) = decide (by8 q 0 = 42) := eqI q 0 42
        have e63 : ((((q.getD 0 0).toNat : Nat) : Int) == (63 : Int)) = decide (by8 q 0 = 63) := eqI q 0 63
        have e91 : ((((q.getD 0 0).toNat : Nat) : Int) == (91 : Int)) = decide (by8 q 0 = 91) := eqI q 0 91
        have e92 : ((((q.getD 0 0).toNat : Nat) : Int) == (92 : Int)) = decide (by8 q 0 = 92) := eqI q 0 92
        have tz : Int.toNat (0 : Int) = 0 := rfl
        have t1 : Int.toNat (1 : Int) = 1 := rfl
        have t2 : Int.toNat (2 : Int) = 2 := rfl
        have es : ∀ X : Int × Int × Bool × Unit × Unit, (bif decide ((q.length : Int) > 1) then
            if (0 : Int) ≤ (0 : Int) ∧ (0 : Int) ≤ (2 : Int) ∧ (2 : Int) ≤ (q.length : Int) then
              some ((q, (), (1 : Int), (), List.take 2 q == [(42 : UInt8), (42 : UInt8)], ()), out, X, ())
            else none
          else some ((q, (), (1 : Int), (), false, ()), out, X, ()) : Option ((List UInt8 × Unit × Int × Unit × Bool × Unit) × List (Int × Int × Bool × List Bool) × (Int × Int × Bool × Unit × Unit) × Unit))
          = some ((q, (), (1 : Int), (), (decide (2 ≤ q.length) && (q.take 2 == [42, 42])), ()), out, X, ()) := by
          intro X
          by_cases h : 2 ≤ q.length
          · rw [decide_eq_true (show (q.length : Int) > 1 by omega), cond_true, if_pos (by omega), decide_eq_true h, Bool.true_and]
          · rw [decide_eq_false (show ¬(q.length : Int) > 1 by omega), decide_eq_false h]; rfl
        simp only [tz, t2, List.drop_zero]
        rw [es, Option.bind_some]
        simp only [tz]
        by_cases c1 : (decide (2 ≤ q.length) && (q.take 2 == [42, 42])) = true
        · have hc : pc1 q = some (.stars (by8 q 0), 2) := by unfold pc1; rw [if_pos c1]
          rw [c1]
          simp only [cond_true, joinC_inl, if_pos (gl _)]
          exact fin _ _ _ _ rfl rfl hc
        · rw [eq_false_of_ne_true c1]
          simp only [cond_false, if_pos g0, tz, t1, e42, e63, e91, e92]
          by_cases c2 : by8 q 0 = 42
          · have hc : pc1 q = some (.star (by8 q 0), 1) := by unfold pc1; rw [if_neg c1, if_pos c2]
            simp only [decide_eq_true c2, cond_true, if_pos (gl _), joinC_inl]
            exact fin _ _ _ _ rfl rfl hc
          by_cases c3 : by8 q 0 = 63
          · have hc : pc1 q = some (.any (by8 q 0), 1) := by unfold pc1; rw [if_neg c1, if_neg c2, if_pos c3]
            simp only [decide_eq_false c2, cond_false, decide_eq_true c3, cond_true, if_pos (gl _), joinC_inl]
            exact fin _ _ _ _ rfl rfl hc
          by_cases c4 : by8 q 0 = 91
          · have g1 : (0 : Int) ≤ 1 ∧ (1 : Int) ≤ (q.length : Int) ∧ (q.length : Int) ≤ (q.length : Int) := by omega
            simp only [decide_eq_false c2, decide_eq_false c3, cond_false, decide_eq_true c4, cond_true, if_pos g1, Int.toNat_natCast, List.take_length]
            have hl : (q.drop 1).length ≤ 60 := by rw [List.length_drop]; omega
            rw [spec_class_eq _ hl, Option.bind_some]
            by_cases c5 : (clsR (q.drop 1)).1 ≥ (q.drop 1).length
            · have hc : pc1 q = none := by unfold pc1; rw [if_neg c1, if_neg c2, if_neg c3, if_pos c4, if_pos c5]
              rw [if_pos c5, pieces_none h0 hc]
              rfl
            · have hc : pc1 q = some (.cl (clsNot (q.drop 1)) (clsR (q.drop 1)).2, 1 + ((clsR (q.drop 1)).1 + 1)) := by unfold pc1; rw [if_neg c1, if_neg c2, if_neg c3, if_pos c4, if_neg c5]
              have := pc1_pos hc (by omega)
              rw [if_neg c5]
              simp only
              rw [show (((((clsR (q.drop 1)).1 + 1 : Nat) : Int)) == (0 : Int)) = false from by rw [beq_eq_false_iff_ne]; omega]
              simp only [cond_false, Option.bind_some, if_pos (gl _), joinC_inl]
              have := fin (IntKind.wrap IntKind.i64 ((1 : Int) + (((clsR (q.drop 1)).1 + 1 : Nat) : Int))) _ _ _ (by rw [wr _ (by omega)]; omega) rfl hc
              simp only [Int.toNat_natCast, List.take_length] at this
              exact this
          by_cases c5 : by8 q 0 = 92
          · simp only [decide_eq_false c2, decide_eq_false c3, decide_eq_false c4, cond_false, decide_eq_true c5, cond_true]
            by_cases c6 : q.length < 2
            · have hc : pc1 q = none := by unfold pc1; rw [if_neg c1, if_neg c2, if_neg c3, if_neg c4, if_pos c5, if_pos c6]
              have : ((q.length : Int) == (1 : Int)) = true := by rw [beq_iff_eq]; omega
              rw [pieces_none h0 hc, this]
              rfl
            · have hc : pc1 q = some (.byte (by8 q 1), 2) := by unfold pc1; rw [if_neg c1, if_neg c2, if_neg c3, if_neg c4, if_pos c5, if_neg c6]
              have : ((q.length : Int) == (1 : Int)) = false := by rw [beq_eq_false_iff_ne]; omega
              rw [this]
              simp only [cond_false]
              rw [if_pos (show (0 : Int) ≤ 1 ∧ (1 : Int) < (q.length : Int) by omega)]
              simp only [if_pos (gl _), joinC_inl]
              exact fin _ _ _ _ rfl rfl hc
          · have hc : pc1 q = some (.byte (by8 q 0), 1) := by unfold pc1; rw [if_neg c1, if_neg c2, if_neg c3, if_neg c4, if_neg c5]
            simp only [decide_eq_false c2, decide_eq_false c3, decide_eq_false c4, decide_eq_false c5, cond_false, if_pos (gl _), joinC_inl]
            exact fin _ _ _ _ rfl rfl hc
    · exact ⟨p, [], rfl, by omega, by show 0 + _ ≤ _; omega, rfl⟩
    · show p.length < p.length + 0 + 300; omega
    · cases pieces p <;> simp [nilOf]
  · rw [decide_eq_false (by omega), if_neg hp]; rfl
end Go.AM
set_option linter.unusedVariables false
set_option linter.unusedSimpArgs false
namespace Go.AM
open Go
/-! ### rows that are measured, copied, compared -/
section
variable {α : Type}
def szSG (f : α → Int → Option (Int × Unit)) (d : α) (l : List α) (n : Int) : Option (Int × Unit) :=
  bif decide (IntKind.wrap IntKind.i64 (n - (l.length : Int)) < 0) then some (-1, ())
  else joinC (loopC (l.length + Int.toNat (IntKind.wrap IntKind.i64 (n - (l.length : Int))) + Int.toNat (0 : Int) + 300)
    (fun (s : (List α × Int × Int × Unit) × Unit) (k : (List α × Int × Int × Unit) × Unit → Option ((Int × Unit) × Unit ⊕ Int × Unit)) =>
      bif decide (s.fst.snd.snd.fst < (↑(List.length s.fst.fst) : Int)) then
        if (0 : Int) ≤ s.fst.snd.snd.fst ∧ s.fst.snd.snd.fst < (↑(List.length s.fst.fst) : Int) then
          Option.bind (f (List.getD s.fst.fst (Int.toNat s.fst.snd.snd.fst) d) s.fst.snd.fst) fun (r : Int × Unit) =>
            bif decide (r.fst < (0 : Int)) then some (Sum.inr ((-1 : Int), ()))
            else k ((s.fst.fst, r.fst, IntKind.wrap IntKind.i64 (s.fst.snd.snd.fst + (1 : Int)), ()), ())
        else none
      else some (Sum.inl ((s.fst.snd.fst, ()), ())))
    ((l, IntKind.wrap IntKind.i64 (n - (l.length : Int)), (0 : Int), ()), ()))
    fun (s : (Int × Unit) × Unit) => some s.fst
theorem getD_mem {l : List α} {i : Nat} (d : α) (h : i < l.length) : l.getD i d ∈ l := by
  rw [List.getD_eq_getElem?_getD, List.getElem?_eq_getElem h]; exact List.getElem_mem h
theorem drop_getD {l : List α} {i : Nat} (d : α) (h : i < l.length) : l.drop i = l.getD i d :: l.drop (i + 1) := by
  rw [List.drop_eq_getElem_cons h, List.getD_eq_getElem?_getD, List.getElem?_eq_getElem h]; rfl
theorem szS_eq (f : α → Int → Option (Int × Unit)) (d : α) (H B : α → Prop) (hf : ∀ x n, H x → 0 ≤ n → n ≤ 1048576 → ∃ m, f x n = some (m, ()) ∧ (0 ≤ m → m ≤ n ∧ B x))
    (l : List α) (hl : ∀ x ∈ l, H x) (hl2 : l.length ≤ 9223372036854775807) (n : Int) (hn : 0 ≤ n ∧ n ≤ 1048576) : ∃ m, szSG f d l n = some (m, ()) ∧ (0 ≤ m → m ≤ n - l.length ∧ ∀ x ∈ l, B x) := by
  unfold szSG
  rw [wr (n - _) (by omega)]
  by_cases q : n - (l.length : Int) < 0
  · rw [decide_eq_true q]; exact ⟨_, rfl, fun h => by omega⟩
  · rw [decide_eq_false q, cond_false]
    have key := loopC_some' (fun (s : (List α × Int × Int × Unit) × Unit) (k : (List α × Int × Int × Unit) × Unit → Option ((Int × Unit) × Unit ⊕ Int × Unit)) =>
      bif decide (s.fst.snd.snd.fst < (↑(List.length s.fst.fst) : Int)) then
        if (0 : Int) ≤ s.fst.snd.snd.fst ∧ s.fst.snd.snd.fst < (↑(List.length s.fst.fst) : Int) then
          Option.bind (f (List.getD s.fst.fst (Int.toNat s.fst.snd.snd.fst) d) s.fst.snd.fst) fun (r : Int × Unit) =>
            bif decide (r.fst < (0 : Int)) then some (Sum.inr ((-1 : Int), ()))
            else k ((s.fst.fst, r.fst, IntKind.wrap IntKind.i64 (s.fst.snd.snd.fst + (1 : Int)), ()), ())
        else none
      else some (Sum.inl ((s.fst.snd.fst, ()), ())))
      (fun c t => ∃ (m : Int) (i : Nat), t = ((l, m, (i : Int), ()), ()) ∧ i ≤ l.length ∧ 0 ≤ m ∧ m ≤ n - l.length ∧ (∀ x ∈ l.take i, B x) ∧ c = l.length - i)
      (fun r => r = .inr (-1, ()) ∨ ∃ m, r = .inl ((m, ()), ()) ∧ m ≤ n - l.length ∧ ∀ x ∈ l, B x)
      (by
        rintro c t k ⟨m, i, rfl, hi, h0, h1, h2, rfl⟩ hk
        dsimp only
        by_cases hlt : i < l.length
        · rw [decide_eq_true (by omega), cond_true, if_pos (by omega), Int.toNat_natCast]
          obtain ⟨m', e, hm⟩ := hf (l.getD i d) m (hl _ (getD_mem d hlt)) h0 (by omega)
          rw [e, Option.bind_some]
          dsimp only
          by_cases q' : m' < 0
          · rw [decide_eq_true q']; exact ⟨_, rfl, .inl rfl⟩
          · rw [decide_eq_false q', cond_false, wr1 i (by omega)]
            obtain ⟨g1, g2⟩ := hm (by omega)
            refine hk (l.length - (i + 1)) _ (by omega) ⟨m', i + 1, rfl, by omega, by omega, by omega, fun x hx => ?_, rfl⟩
            rw [List.take_add_one, List.mem_append] at hx
            rcases hx with hx | hx
            · exact h2 x hx
            · rw [List.getElem?_eq_getElem hlt] at hx
              rw [List.getD_eq_getElem?_getD, List.getElem?_eq_getElem hlt] at g2
              simp at hx; subst hx; exact g2
        · rw [decide_eq_false (by omega), cond_false]
          refine ⟨_, rfl, .inr ⟨m, rfl, h1, ?_⟩⟩
          rw [List.take_of_length_le (by omega)] at h2; exact h2)
      (l.length + Int.toNat (n - (l.length : Int)) + Int.toNat (0 : Int) + 300) l.length ((l, n - (l.length : Int), 0, ()), ()) ⟨n - l.length, 0, rfl, by omega, by omega, by omega, by simp, rfl⟩ (by omega)
    obtain ⟨r, hr, hq⟩ := key
    rw [hr]
    rcases hq with rfl | ⟨m, rfl, g1, g2⟩
    · exact ⟨-1, rfl, fun h => by omega⟩
    · exact ⟨m, rfl, fun _ => ⟨g1, g2⟩⟩
def toSG (f : α → Option (α × Unit)) (d : α) (b : Nat) (l : List α) : Option (List α × Unit) :=
  if (0 : Int) ≤ (↑(List.length l) : Int) ∧ (↑(List.length l) : Int) ≤ (↑(List.length l) : Int) ∧ (↑b : Int) * (↑(List.length l) : Int) ≤ (140737488355328 : Int) ∧ (↑(List.length l) : Int) < (2 : Int) ^ (62 : Nat) then
    Option.bind (loopC (l.length + Int.toNat (0 : Int) + List.length (List.replicate (Int.toNat (↑(List.length l) : Int)) d) + 300)
      (fun (s : (List α × Unit × Int × Unit) × List α × Unit) (k : (List α × Unit × Int × Unit) × List α × Unit → Option ((Unit × Unit) × List α × Unit)) =>
        bif decide (s.fst.snd.snd.fst < (↑(List.length s.fst.fst) : Int)) then
          if (0 : Int) ≤ s.fst.snd.snd.fst ∧ s.fst.snd.snd.fst < (↑(List.length s.fst.fst) : Int) then
            Option.bind (f (List.getD s.fst.fst (Int.toNat s.fst.snd.snd.fst) d)) fun (r : α × Unit) =>
              if (0 : Int) ≤ s.fst.snd.snd.fst ∧ s.fst.snd.snd.fst < (↑(List.length s.snd.fst) : Int) then
                if Int.toNat s.fst.snd.snd.fst < List.length s.snd.fst then
                  k ((s.fst.fst, (), IntKind.wrap IntKind.i64 (s.fst.snd.snd.fst + (1 : Int)), ()), List.set s.snd.fst (Int.toNat s.fst.snd.snd.fst) r.fst, ())
                else none
              else none
          else none
        else some (((), ()), s.snd))
      ((l, (), (0 : Int), ()), List.replicate (Int.toNat (↑(List.length l) : Int)) d, ()))
      fun (s : (Unit × Unit) × List α × Unit) => some s.snd
  else none
theorem toS_eq (f : α → Option (α × Unit)) (d : α) (b : Nat) (hf : ∀ x, f x = some (x, ())) (l : List α) (hl : l.length ≤ 1048576) (hb : b ≤ 134217728) : toSG f d b l = some (l, ()) := by
  unfold toSG
  have h2 : (b : Int) * (l.length : Int) ≤ 140737488355328 := by
    have h3 : (b : Int) * (l.length : Int) ≤ 134217728 * 1048576 := Int.mul_le_mul (by omega) (by omega) (by omega) (by omega)
    omega
  rw [if_pos ⟨by omega, by omega, h2, by show (l.length : Int) < 4611686018427387904; omega⟩]
  refine bind_ex (loopC_some' _ (fun n t => ∃ (i : Nat) (o : List α), t = ((l, (), (i : Int), ()), o, ()) ∧ i ≤ l.length ∧ o.length = l.length ∧ o.take i = l.take i ∧ n = l.length - i)
    (fun t => t = (((), ()), l, ())) ?_ _ l.length _ ⟨0, _, rfl, by omega, by simp, by simp, rfl⟩ (by omega)) ?_
  · rintro n t k ⟨i, o, rfl, hi, ho, he, rfl⟩ hk
    dsimp only
    by_cases hlt : i < l.length
    · rw [decide_eq_true (by omega), cond_true, if_pos (by omega), Int.toNat_natCast, hf, Option.bind_some, if_pos (by omega), if_pos (by omega), wr1 i (by omega)]
      refine hk (l.length - (i + 1)) _ (by omega) ⟨i + 1, _, rfl, by omega, by rw [List.length_set]; exact ho, ?_, rfl⟩
      rw [List.take_add_one, List.take_add_one, List.take_set_of_le (by omega), he, List.getElem?_set_self (by omega), List.getElem?_eq_getElem hlt, List.getD_eq_getElem?_getD, List.getElem?_eq_getElem hlt]
      rfl
    · rw [decide_eq_false (by omega), cond_false]
      refine ⟨_, rfl, ?_⟩
      rw [List.take_of_length_le (by omega), List.take_of_length_le (by omega)] at he
      rw [he]
  · rintro t rfl; rfl
def eqSG (f : α → α → Option (Bool × Unit)) (d : α) (a b : List α) : Option (Bool × Unit) :=
  bif (↑(List.length a) : Int) != (↑(List.length b) : Int) then some (false, ())
  else joinC (loopC (a.length + b.length + Int.toNat (0 : Int) + 300)
    (fun (s : (List α × List α × Int × Unit) × Unit) (k : (List α × List α × Int × Unit) × Unit → Option (Unit × Unit ⊕ Bool × Unit)) =>
      bif decide (s.fst.snd.snd.fst < (↑(List.length s.fst.fst) : Int)) then
        if (0 : Int) ≤ s.fst.snd.snd.fst ∧ s.fst.snd.snd.fst < (↑(List.length s.fst.fst) : Int) then
          if (0 : Int) ≤ s.fst.snd.snd.fst ∧ s.fst.snd.snd.fst < (↑(List.length s.fst.snd.fst) : Int) then
            Option.bind (f (List.getD s.fst.fst (Int.toNat s.fst.snd.snd.fst) d) (List.getD s.fst.snd.fst (Int.toNat s.fst.snd.snd.fst) d)) fun (r : Bool × Unit) =>
              bif !r.fst then some (Sum.inr (false, ()))
              else k ((s.fst.fst, s.fst.snd.fst, IntKind.wrap IntKind.i64 (s.fst.snd.snd.fst + (1 : Int)), ()), ())
          else none
        else none
      else some (Sum.inl ((), ())))
    ((a, b, (0 : Int), ()), ()))
    fun (s : Unit × Unit) => some (true, ())
theorem eqS_eq (f : α → α → Option (Bool × Unit)) (d : α) (hf : ∀ x, f x x = some (true, ())) (l : List α) (hl : l.length ≤ 1099511627776) : eqSG f d l l = some (true, ()) := by
  unfold eqSG
  rw [show ((l.length : Int) != (l.length : Int)) = false by simp, cond_false]
  refine joinC_ex (loopC_some' _ (fun n t => ∃ i : Nat, t = ((l, l, (i : Int), ()), ()) ∧ i ≤ l.length ∧ n = l.length - i) (fun t => t = .inl ((), ())) ?_ _ l.length _ ⟨0, rfl, by omega, rfl⟩ (by omega)) ?_
  · rintro n t k ⟨i, rfl, hi, rfl⟩ hk
    dsimp only
    by_cases hlt : i < l.length
    · rw [decide_eq_true (by omega), cond_true, if_pos (by omega), if_pos (by omega), hf, Option.bind_some]
      show ∃ r, k _ = some r ∧ _
      rw [wr1 i (by omega)]
      exact hk (l.length - (i + 1)) _ (by omega) ⟨i + 1, rfl, by omega, rfl⟩
    · rw [decide_eq_false (by omega)]; exact ⟨_, rfl, rfl⟩
  · rintro t rfl; rfl
/-- A walk along a row that stops at the first that is not right. -/
theorem allLoop {S R : Type} (F : S → (S → Option R) → Option R) (st : Nat → S) (len : Nat) (ok : Nat → Bool) (yes no : R)
    (hstep : ∀ i k, i < len → F (st i) k = cond (ok i) (k (st (i + 1))) (some no)) (hend : ∀ k, F (st len) k = some yes) (fuel : Nat) (hf : len < fuel) :
    loopC fuel F (st 0) = some (cond ((List.range len).all ok) yes no) := by
  have key := loopC_inv F (fun n s => ∃ i, i ≤ len ∧ s = st i ∧ n = len - i ∧ ∀ j, j < i → ok j = true) (fun _ => some (cond ((List.range len).all ok) yes no)) (by
    rintro n s k ⟨i, hi, rfl, rfl, hj⟩ hk
    by_cases hlt : i < len
    · rw [hstep i k hlt]
      cases ho : ok i with
      | false =>
        have : (List.range len).all ok = false := by
          rw [List.all_eq_false]; exact ⟨i, List.mem_range.2 hlt, by simp [ho]⟩
        rw [this]; rfl
      | true =>
        rw [cond_true]
        refine hk (len - (i + 1)) _ (by omega) ⟨i + 1, by omega, rfl, rfl, fun j hj' => ?_⟩
        by_cases h : j = i
        · subst h; exact ho
        · exact hj j (by omega)
    · have : i = len := by omega
      subst this
      rw [hend]
      have : (List.range i).all ok = true := by rw [List.all_eq_true]; exact fun j hj' => hj j (List.mem_range.1 hj')
      rw [this]; rfl)
  exact key fuel len _ ⟨0, by omega, rfl, by omega, fun j hj => by omega⟩ hf
end
end Go.AM
set_option linter.unusedVariables false
set_option linter.unusedSimpArgs false
namespace Go.AM
open Go
/-! ### marks -/
def mkT (k : Int) : List UInt8 := ((m_laws_markText k).getD ([], ())).1
theorem markText_some (k : Int) (h : k ≤ 1099511627776) : ∃ v, m_laws_markText k = some (v, ()) := by
  suffices hh : ∃ t, m_laws_markText k = some t ∧ True by
    obtain ⟨⟨v, u⟩, hv, _⟩ := hh
    exact ⟨v, hv⟩
  unfold m_laws_markText
  by_cases h0 : k ≤ 0
  · rw [decide_eq_true h0]; exact ⟨_, rfl, trivial⟩
  · rw [decide_eq_false h0, cond_false]
    refine bind_some' (Q := fun t : (List UInt8 × Unit) × Unit => t.1.1.length ≤ 1099511627776) (loopC_some' _ (fun n t => ∃ (x : Nat) (o : List UInt8), t = (((x : Int), o, ()), ()) ∧ o.length + x ≤ 1099511627776 ∧ n = x) _ ?_ _ k.toNat _ ⟨k.toNat, [], by rw [Int.toNat_of_nonneg (by omega)], by simp only [List.length_nil]; omega, rfl⟩ (by omega)) ?_
    · rintro n t kk ⟨x, o, rfl, hx, rfl⟩ hk
      dsimp only
      by_cases hp : (n : Int) > 0
      · rw [decide_eq_true hp, cond_true, if_pos (by omega), if_pos (by
          show _ + o.length < 9223372036854775808
          simp only [List.length_map, List.length_cons, List.length_nil]; omega), if_pos (by omega)]
        have hd : Int.tdiv (n : Int) 10 = ((n / 10 : Nat) : Int) := rfl
        rw [hd, wr _ (by omega)]
        refine hk (n / 10) _ (by omega) ⟨n / 10, _, rfl, ?_, rfl⟩
        simp only [List.length_append, List.length_map, List.length_cons, List.length_nil]; omega
      · rw [decide_eq_false hp, cond_false]
        exact ⟨_, rfl, by dsimp only; omega⟩
    · rintro ⟨⟨o, u⟩, u'⟩ ho
      dsimp only at ho ⊢
      rw [if_pos (by show _ < 9223372036854775808; simp only [List.length_cons, List.length_nil]; omega)]
      exact ⟨_, rfl, trivial⟩
theorem markText_eq (k : Int) (h : k ≤ 1099511627776) : m_laws_markText k = some (mkT k, ()) := by
  obtain ⟨v, hv⟩ := markText_some k h
  unfold mkT
  rw [hv]; rfl
end Go.AM
set_option linter.unusedVariables false
set_option linter.unusedSimpArgs false
namespace Go.AM
open Go
/-! ### rules -/
abbrev RuleT := Int × (Bool × (Bool × List UInt8))
def dR : RuleT := (Int.ofNat (nat_lit 0), false, false, nilOf UInt8)
section
variable {α β : Type}
theorem list_range (l : List α) (d : α) : l = (List.range l.length).map (fun i => l.getD i d) := by
  refine List.ext_getElem (by simp) (fun i h1 h2 => ?_)
  simp [List.getElem?_eq_getElem h1]
theorem range_all (l : List α) (d : α) (f : α → Bool) : (List.range l.length).all (fun i => f (l.getD i d)) = l.all f := by
  have h : ((List.range l.length).map (fun i => l.getD i d)).all f = l.all f := by rw [← list_range l d]
  rw [← h, List.all_map]; rfl
theorem range_find (l : List α) (d : α) (g : α → Option β) : (List.range l.length).findSome? (fun i => g (l.getD i d)) = l.findSome? g := by
  have h : ((List.range l.length).map (fun i => l.getD i d)).findSome? g = l.findSome? g := by rw [← list_range l d]
  rw [← h, List.findSome?_map]; rfl
end
theorem findLoop {S R : Type} (F : S → (S → Option R) → Option R) (st : Nat → S) (len : Nat) (hit : Nat → Option R) (fin : R)
    (hstep : ∀ i k, i < len → F (st i) k = (match hit i with | some r => some r | none => k (st (i + 1)))) (hend : ∀ k, F (st len) k = some fin) (fuel : Nat) (hf : len < fuel) :
    loopC fuel F (st 0) = some (((List.range len).findSome? hit).getD fin) := by
  have key := loopC_inv F (fun n s => ∃ i, i ≤ len ∧ s = st i ∧ n = len - i ∧ ∀ j, j < i → hit j = none) (fun _ => some (((List.range len).findSome? hit).getD fin)) (by
    rintro n s k ⟨i, hi, rfl, rfl, hj⟩ hk
    by_cases hlt : i < len
    · rw [hstep i k hlt]
      cases ho : hit i with
      | some r =>
        have : (List.range len).findSome? hit = some r := by
          rw [List.findSome?_eq_some_iff]
          refine ⟨List.range i, i, (List.range (len - (i + 1))).map (fun x => x + (i + 1)), ?_, ho, fun x hx => hj x (List.mem_range.1 hx)⟩
          refine List.ext_getElem (by simp; omega) (fun n h1 h2 => ?_)
          rw [List.getElem_range, List.getElem_append]
          split
          · simp
          · rename_i h
            simp at h
            rcases Nat.lt_or_ge i n with h' | h'
            · obtain ⟨m, rfl⟩ : ∃ m, n = i + 1 + m := ⟨n - (i + 1), by omega⟩
              simp only [List.length_range]
              rw [List.getElem_cons, dif_neg (by omega)]
              simp; omega
            · have : n = i := by omega
              subst this; simp
        rw [this]; rfl
      | none =>
        refine hk (len - (i + 1)) _ (by omega) ⟨i + 1, by omega, rfl, rfl, fun j hj' => ?_⟩
        by_cases h : j = i
        · subst h; exact ho
        · exact hj j (by omega)
    · have : i = len := by omega
      subst this
      rw [hend]
      have : (List.range i).findSome? hit = none := by rw [List.findSome?_eq_none_iff]; exact fun j hj' => hj j (List.mem_range.1 hj')
      rw [this]; rfl)
  exact key fuel len _ ⟨0, by omega, rfl, by omega, fun j hj => by omega⟩ hf
def patB (p : List UInt8) : Bool := decide (1 ≤ p.length ∧ p.length ≤ 60) && (pieces p).isSome
theorem impl_patOk (p : List UInt8) : m_impl_PatternOk p = some (patB p, ()) := by
  unfold m_impl_PatternOk patB
  rw [impl_pieces_eq, Option.bind_some]
  by_cases h : 1 ≤ p.length ∧ p.length ≤ 60
  · rw [if_pos h, decide_eq_true h]; cases pieces p <;> rfl
  · rw [if_neg h, decide_eq_false h]; rfl
theorem spec_patOk (p : List UInt8) : m_spec_PatternOk p = some (patB p, ()) := by
  unfold m_spec_PatternOk patB
  rw [spec_pieces_eq, Option.bind_some]
  by_cases h : 1 ≤ p.length ∧ p.length ≤ 60
  · rw [if_pos h, decide_eq_true h]; cases pieces p <;> rfl
  · rw [if_neg h, decide_eq_false h]; rfl
def edge (p : List UInt8) (i : Nat) : Bool := ((p.getD i 0).toNat : Int) == 47
theorem edge_iff (p : List UInt8) (i : Nat) : edge p i = (p.getD i 0 == 47) := by
  unfold edge
  rw [Bool.eq_iff_iff, beq_iff_eq, beq_iff_eq, ← UInt8.toNat_inj]
  exact ⟨fun h => by simpa using (by omega : (p.getD i 0).toNat = 47), fun h => by have h : (p.getD i 0).toNat = 47 := h; omega⟩
def ruleOk (r : RuleT) : Bool := cond (r.1 == 4) (!r.2.1 && (!r.2.2.1 && r.2.2.2 == [])) (decide (r.1 ≥ 0 ∧ r.1 ≤ 3) && (patB r.2.2.2 && (!edge r.2.2.2 0 && (!edge r.2.2.2 (r.2.2.2.length - 1) && r.2.2.2.all (fun b => !(b == 32))))))
theorem patB_len {p : List UInt8} (h : patB p = true) : 1 ≤ p.length ∧ p.length ≤ 60 := by
  unfold patB at h; rw [Bool.and_eq_true, decide_eq_true_eq] at h; exact h.1
theorem eqB (b : UInt8) (n : Nat) (hn : n < 256) : (((b.toNat : Nat) : Int) == (n : Int)) = (b == UInt8.ofNat n) := by
  rw [Bool.eq_iff_iff, beq_iff_eq, beq_iff_eq, ← UInt8.toNat_inj]
  simp only [UInt8.toNat_ofNat']
  rw [Nat.mod_eq_of_lt (by omega)]
  omega
theorem spec_ruleOk (r : RuleT) (h10 : (10 : UInt8) ∉ r.2.2.2) : m_spec_RuleOk r = some (ruleOk r, ()) := by
  obtain ⟨kd, rt, di, p⟩ := r
  dsimp only at h10
  unfold m_spec_RuleOk ruleOk
  dsimp only
  cases kd == 4 with
  | true =>
    simp only [cond_true]
    cases rt <;> cases di <;> rfl
  | false =>
    simp only [cond_false]
    refine bind_eq (x := (((), !(decide (kd ≥ 0 ∧ kd ≤ 3) && (patB p && (!edge p 0 && !edge p (p.length - 1)))), ()), (kd, rt, di, p, ()), ())) ?_ ?_
    · rw [l01In_eq, Option.bind_some]
      cases decide (kd ≥ 0 ∧ kd ≤ 3) with
      | false => rfl
      | true =>
        simp only [Bool.not_true, cond_false, Bool.true_and]
        rw [spec_patOk, Option.bind_some]
        cases hp : patB p with
        | false => rfl
        | true =>
          obtain ⟨h1, h2⟩ := patB_len hp
          simp only [Bool.not_true, cond_false, Bool.true_and]
          rw [if_pos (by omega)]
          show (bif edge p 0 then _ else _) = _
          cases edge p 0 with
          | true => rfl
          | false =>
            simp only [cond_false, Bool.not_false, Bool.true_and]
            rw [wr _ (by omega), if_pos (by omega), show Int.toNat ((p.length : Int) - 1) = p.length - 1 by omega, Bool.not_not]
            rfl
    · dsimp only
      cases hc : (decide (kd ≥ 0 ∧ kd ≤ 3) && (patB p && (!edge p 0 && !edge p (p.length - 1)))) with
      | false =>
        simp only [Bool.not_false, cond_true]
        have : (decide (kd ≥ 0 ∧ kd ≤ 3) && (patB p && (!edge p 0 && (!edge p (p.length - 1) && p.all fun b => !b == 32)))) = false := by
          revert hc; cases decide (kd ≥ 0 ∧ kd ≤ 3) <;> cases patB p <;> cases edge p 0 <;> cases edge p (p.length - 1) <;> simp
        rw [this]
      | true =>
        simp only [Bool.not_true, cond_false]
        have hpl : p.length ≤ 60 := by
          have : patB p = true := by
            cases h : patB p with
            | true => rfl
            | false => rw [h] at hc; simp at hc
          exact (patB_len this).2
        have hr : (decide (kd ≥ 0 ∧ kd ≤ 3) && (patB p && (!edge p 0 && (!edge p (p.length - 1) && p.all fun b => !b == 32)))) = (p.all fun b => !b == 32) := by
          revert hc; cases decide (kd ≥ 0 ∧ kd ≤ 3) <;> cases patB p <;> cases edge p 0 <;> cases edge p (p.length - 1) <;> simp
        rw [hr]
        refine joinC_of (allLoop _ (fun i => (((), (i : Int), ()), (kd, rt, di, p, ()), ())) p.length (fun i => !(p.getD i 0 == 32)) (.inl ((), ())) (.inr (false, ())) ?_ ?_ _ (by omega)) ?_
        · intro i k hi
          dsimp only
          rw [decide_eq_true (by omega), cond_true, if_pos (by omega)]
          rw [Int.toNat_natCast]
          have e32 : (((p.getD i 0).toNat : Int) == 32) = (p.getD i 0 == 32) := eqB _ 32 (by omega)
          have e10 : (((p.getD i 0).toNat : Int) == 10) = false := by
            have := eqB (p.getD i 0) 10 (by omega)
            rw [show ((10 : Nat) : Int) = 10 from rfl] at this
            rw [this, beq_eq_false_iff_ne]
            intro h
            exact h10 (by rw [show (10 : UInt8) = UInt8.ofNat 10 from rfl, ← h]; exact getD_mem 0 hi)
          rw [e32, e10, if_pos (by omega)]
          cases p.getD i 0 == 32 with
          | true => rfl
          | false => simp only [cond_false, Option.bind_some, Bool.not_false, cond_true]; rw [wr1 i (by omega)]
        · intro k; dsimp only; rw [decide_eq_false (by omega)]; rfl
        · rw [range_all p 0 (fun b => !(b == 32))]
          cases p.all fun b => !(b == 32) <;> rfl
theorem hasSuffix_eq (p : List UInt8) (h : 1 ≤ p.length ∧ p.length ≤ 60) : m_strings_HasSuffix p [47] = some (edge p (p.length - 1), ()) := by
  unfold m_strings_HasSuffix m_stringslite_HasSuffix
  simp only [List.length_cons, List.length_nil]
  rw [decide_eq_true (by omega), cond_true, wr _ (by omega), if_pos (by omega)]
  simp only [Option.bind_some]
  rw [show Int.toNat ((p.length : Int) - ((0 + 1 : Nat) : Int)) = p.length - 1 by omega, show Int.toNat (p.length : Int) = p.length by omega, List.take_length, edge_iff]
  have hlt : p.length - 1 < p.length := by omega
  rw [drop_getD 0 hlt, show p.length - 1 + 1 = p.length by omega, List.drop_length]
  congr 2
  rw [Bool.eq_iff_iff]; simp
theorem index_neg (s : List UInt8) (c : UInt8) : decide (Go.Lib.indexByte s c ≥ 0) = !(s.all (fun b => !(b == c))) := by
  induction s with
  | nil => rfl
  | cons b r ih =>
    unfold Go.Lib.indexByte
    have hge := Go.Lib.indexByte_ge r c
    by_cases hb : b = c
    · simp [hb]
    · have hb' : (b == c) = false := by simp [hb]
      rw [List.all_cons, hb']
      simp only [Bool.false_eq_true, if_false, Bool.not_false, Bool.true_and]
      rw [← ih]
      by_cases h1 : Go.Lib.indexByte r c = -1
      · rw [h1]; rfl
      · rw [if_neg (by simpa using h1), decide_eq_true (by omega), decide_eq_true (by omega)]
theorem contains_eq (p : List UInt8) : m_strings_Contains p = some (!(p.all (fun b => !(b == 32))), ()) := by
  unfold m_strings_Contains m_strings_Index_3 m_stringslite_Index_2
  by_cases h : p = [32]
  · subst h; rfl
  · rw [show (([32] : List UInt8) == p) = false by rw [beq_eq_false_iff_ne]; exact fun h' => h h'.symm]
    simp only [cond_false]
    rw [if_pos (by decide)]
    show some (decide (Go.Lib.indexByte p 32 ≥ 0), ()) = _
    rw [index_neg]
theorem impl_ruleOk (r : RuleT) : m_impl_RuleOk r = some (ruleOk r, ()) := by
  obtain ⟨kd, rt, di, p⟩ := r
  unfold m_impl_RuleOk ruleOk
  dsimp only
  cases hk : kd == 4 with
  | true =>
    simp only [cond_true]
    cases rt <;> cases di <;> simp
  | false =>
    simp only [cond_false]
    rw [within_eq, Option.bind_some]
    cases decide (kd ≥ 0 ∧ kd ≤ 3) with
    | false => rfl
    | true =>
      simp only [cond_true, Bool.true_and]
      rw [impl_patOk, Option.bind_some]
      cases hp : patB p with
      | false => rfl
      | true =>
        have hl := patB_len hp
        simp only [cond_true, Bool.true_and]
        rw [contains_eq, Option.bind_some, Bool.not_not]
        cases p.all fun b => !(b == 32) with
        | false => simp
        | true =>
          simp only [cond_true, Bool.and_true]
          rw [hasPrefix_eq, Option.bind_some]
          have h0 : (decide (([47] : List UInt8).length ≤ p.length) && (p.take ([47] : List UInt8).length == [47])) = edge p 0 := by
            rw [take1 p 47 47 rfl, edge_iff, decide_eq_true hl.1, Bool.true_and]
            show (by8 p 0 == 47) = _
            unfold by8
            rw [Bool.eq_iff_iff, beq_iff_eq, beq_iff_eq, ← UInt8.toNat_inj]; rfl
          simp only [h0]
          cases edge p 0 with
          | true => rfl
          | false =>
            simp only [Bool.not_false, cond_true, Bool.true_and]
            rw [hasSuffix_eq p hl, Option.bind_some]
            rfl
end Go.AM
set_option linter.unusedVariables false
set_option linter.unusedSimpArgs false
namespace Go.AM
open Go
/-! ### rules and their lines -/
def sl (b : Bool) : List UInt8 := cond b [47] []
def sgn (k : Int) : UInt8 := if k = 0 then 45 else if k = 1 then 43 else if k = 2 then 80 else 82
def showR (r : RuleT) : List UInt8 := cond (ruleOk r) (cond (r.1 == 4) [33] (sgn r.1 :: 32 :: (sl r.2.1 ++ (r.2.2.2 ++ sl r.2.2.1)))) []
def hd (s : List UInt8) : Bool := s.getD 0 0 == 47
def tl (s : List UInt8) : Bool := s.getD (s.length - 1) 0 == 47
def unroot (s : List UInt8) : List UInt8 := cond (hd s) (s.drop 1) s
def undir (s : List UInt8) : List UInt8 := cond (tl s) (s.take (s.length - 1)) s
def cutI (s : List UInt8) : List UInt8 × List UInt8 := if 0 ≤ Go.Lib.indexByte s 32 then (s.take (Go.Lib.indexByte s 32).toNat, s.drop ((Go.Lib.indexByte s 32).toNat + 1)) else (s, [])
def signs : List UInt8 := [45, 43, 80, 82, 33]
def rule0 (line : List UInt8) : RuleT := cond (Go.Lib.index signs (cutI line).1 == 4) (4, false, false, [])
  (Go.Lib.index signs (cutI line).1, hd (cutI line).2, tl (unroot (cutI line).2), undir (unroot (cutI line).2))
def ok0 (line : List UInt8) : Bool := decide ((cutI line).1.length = 1) && (ruleOk (rule0 line) && showR (rule0 line) == line)
def ruleOf (line : List UInt8) : Option RuleT := cond (ok0 line) (some (rule0 line)) none
theorem ruleOk_clear {r : RuleT} (h : ruleOk r = true) (h4 : r.1 = 4) : r = (4, false, false, []) := by
  obtain ⟨k, a, b, p⟩ := r
  dsimp only at h4
  subst h4
  have h' : (!a && (!b && p == [])) = true := h
  cases a <;> cases b <;> simp at h'
  rw [h']
theorem ruleOk_plain {r : RuleT} (h : ruleOk r = true) (h4 : r.1 ≠ 4) : 0 ≤ r.1 ∧ r.1 ≤ 3 ∧ 1 ≤ r.2.2.2.length ∧ hd r.2.2.2 = false ∧ tl r.2.2.2 = false := by
  unfold ruleOk at h
  rw [show (r.1 == 4) = false by rw [beq_eq_false_iff_ne]; exact h4] at h
  simp only [cond_false, Bool.and_eq_true, decide_eq_true_eq, Bool.not_eq_true', edge_iff] at h
  obtain ⟨⟨h1, h2⟩, h3, h5, h6, _⟩ := h
  exact ⟨h1, h2, (patB_len h3).1, h5, h6⟩
theorem hd_app (b : Bool) (p q : List UInt8) (hl : 1 ≤ p.length) (hp : hd p = false) : hd (sl b ++ (p ++ q)) = b := by
  cases p with
  | nil => simp at hl
  | cons x r =>
    cases b with
    | false => simpa [sl, hd] using hp
    | true => simp [sl, hd]
theorem tl_app (p : List UInt8) (b : Bool) (hl : 1 ≤ p.length) (hp : tl p = false) : tl (p ++ sl b) = b := by
  cases b with
  | false => simpa [sl] using hp
  | true =>
    unfold tl sl
    simp
theorem unroot_app (b : Bool) (p q : List UInt8) (hl : 1 ≤ p.length) (hp : hd p = false) : unroot (sl b ++ (p ++ q)) = p ++ q := by
  unfold unroot
  rw [hd_app b p q hl hp]
  cases b <;> rfl
theorem undir_app (p : List UInt8) (b : Bool) (hl : 1 ≤ p.length) (hp : tl p = false) : undir (p ++ sl b) = p := by
  unfold undir
  rw [tl_app p b hl hp]
  cases b with
  | false => simp [sl]
  | true => simp [sl]
theorem sgn_index {k : Int} (h0 : 0 ≤ k) (h3 : k ≤ 3) : Go.Lib.index signs [sgn k] = k := by
  have : k = 0 ∨ k = 1 ∨ k = 2 ∨ k = 3 := by omega
  rw [Go.Lib.index_one]
  rcases this with rfl | rfl | rfl | rfl <;> rfl
theorem sgn_ne (k : Int) : sgn k ≠ 32 := by
  unfold sgn
  split
  · decide
  · split
    · decide
    · split <;> decide
theorem cut_two (c : UInt8) (h : c ≠ 32) (r : List UInt8) : cutI (c :: 32 :: r) = ([c], r) := by
  unfold cutI
  have : Go.Lib.indexByte (c :: 32 :: r) 32 = 1 := by
    unfold Go.Lib.indexByte
    rw [show (c == 32) = false by rw [beq_eq_false_iff_ne]; exact h]
    rfl
  rw [this]
  rfl
theorem rule0_show {r : RuleT} (h : ruleOk r = true) : (cutI (showR r)).1.length = 1 ∧ rule0 (showR r) = r := by
  by_cases h4 : r.1 = 4
  · rw [ruleOk_clear h h4]; exact ⟨rfl, rfl⟩
  · obtain ⟨h0, h3, hl, hh, ht⟩ := ruleOk_plain h h4
    have hs : showR r = sgn r.1 :: 32 :: (sl r.2.1 ++ (r.2.2.2 ++ sl r.2.2.1)) := by
      unfold showR; rw [h, show (r.1 == 4) = false by rw [beq_eq_false_iff_ne]; exact h4]; rfl
    unfold rule0
    rw [hs, cut_two _ (sgn_ne _)]
    dsimp only
    rw [sgn_index h0 h3, show (r.1 == 4) = false by rw [beq_eq_false_iff_ne]; exact h4, hd_app _ _ _ hl hh, unroot_app _ _ _ hl hh, tl_app _ _ hl ht, undir_app _ _ hl ht]
    exact ⟨rfl, rfl⟩
theorem parse_show {r : RuleT} (h : ruleOk r = true) : ruleOf (showR r) = some r := by
  obtain ⟨h1, h2⟩ := rule0_show h
  unfold ruleOf ok0
  rw [h2, h1, h]
  simp
theorem parse_some {l : List UInt8} {r : RuleT} (h : ruleOf l = some r) : ruleOk r = true ∧ showR r = l := by
  unfold ruleOf at h
  cases ho : ok0 l with
  | false => rw [ho] at h; cases h
  | true =>
    rw [ho] at h
    simp only [cond_true, Option.some.injEq] at h
    subst h
    unfold ok0 at ho
    simp only [Bool.and_eq_true, beq_iff_eq] at ho
    exact ⟨ho.2.1, ho.2.2⟩
theorem showR_ne {r : RuleT} (h : showR r ≠ []) : ruleOk r = true := by
  unfold showR at h
  cases hr : ruleOk r with
  | true => rfl
  | false => rw [hr] at h; exact absurd rfl h
theorem showR_nil {r : RuleT} : showR r = [] ↔ ruleOk r = false := by
  unfold showR
  cases hr : ruleOk r with
  | false => simp
  | true => cases hk : (r.1 == 4) <;> simp
/-- How the reference tries: kinds and flags in order. -/
def cand (l : List UInt8) (k f : Nat) : Option RuleT :=
  cond (decide (f / 2 = 1) && decide ((cond (decide (f % 2 = 1)) ((l.drop 2).drop 1) (l.drop 2)).length = 0)) none
    (some ((k : Int), decide (f % 2 = 1), decide (f / 2 = 1), cond (decide (f / 2 = 1)) ((cond (decide (f % 2 = 1)) ((l.drop 2).drop 1) (l.drop 2)).take ((cond (decide (f % 2 = 1)) ((l.drop 2).drop 1) (l.drop 2)).length - 1)) (cond (decide (f % 2 = 1)) ((l.drop 2).drop 1) (l.drop 2))))
def hitF (l : List UInt8) (k f : Nat) : Option RuleT := match cand l k f with
  | none => none
  | some r => cond (showR r == l) (some r) none
def hitK (l : List UInt8) (k : Nat) : Option RuleT := (List.range 4).findSome? (hitF l k)
def ruleOfS (l : List UInt8) : Option RuleT := cond (l == [33]) (some (4, false, false, [])) (cond (decide (l.length < 3) || !(l.getD 1 0 == 32)) none ((List.range 4).findSome? (hitK l)))
theorem hitF_some {l : List UInt8} {k f : Nat} {r : RuleT} (h : hitF l k f = some r) : showR r = l := by
  unfold hitF at h
  cases hc : cand l k f with
  | none => rw [hc] at h; cases h
  | some x =>
    rw [hc] at h
    dsimp only at h
    cases hs : (showR x == l) with
    | false => rw [hs] at h; cases h
    | true =>
      rw [hs] at h
      simp only [cond_true, Option.some.injEq] at h
      subst h
      simpa using hs
theorem hits_some {l : List UInt8} {r : RuleT} (h : (List.range 4).findSome? (hitK l) = some r) : showR r = l := by
  obtain ⟨k, _, h1⟩ := List.exists_of_findSome?_eq_some h
  obtain ⟨f, _, h2⟩ := List.exists_of_findSome?_eq_some h1
  exact hitF_some h2
theorem cand_show (k : Nat) (hk : k ≤ 3) (a b : Bool) (p : List UInt8) (hl : 1 ≤ p.length) : cand (sgn (k : Int) :: 32 :: (sl a ++ (p ++ sl b))) k ((cond a 1 0) + (cond b 2 0)) = some ((k : Int), a, b, p) := by
  unfold cand
  cases a <;> cases b <;> simp [sl]
theorem ruleOfS_eq (l : List UInt8) : ruleOfS l = ruleOf l := by
  cases hp : ruleOf l with
  | some r =>
    obtain ⟨h1, h2⟩ := parse_some hp
    subst h2
    by_cases h4 : r.1 = 4
    · rw [ruleOk_clear h1 h4]; rfl
    · obtain ⟨h0, h3, hl, hh, ht⟩ := ruleOk_plain h1 h4
      have hs : showR r = sgn r.1 :: 32 :: (sl r.2.1 ++ (r.2.2.2 ++ sl r.2.2.1)) := by
        unfold showR; rw [h1, show (r.1 == 4) = false by rw [beq_eq_false_iff_ne]; exact h4]; rfl
      unfold ruleOfS
      rw [show (showR r == [33]) = false by rw [hs, beq_eq_false_iff_ne]; simp, show (decide ((showR r).length < 3) || !((showR r).getD 1 0 == 32)) = false by
        rw [hs]; simp; omega]
      simp only [cond_false]
      cases hf : (List.range 4).findSome? (hitK (showR r)) with
      | some r' =>
        have h5 := hits_some hf
        have h6 := showR_ne (r := r') (by rw [h5, hs]; simp)
        have h7 := (rule0_show h6).2
        rw [h5, (rule0_show h1).2] at h7
        rw [h7]
      | none =>
        exfalso
        rw [List.findSome?_eq_none_iff] at hf
        have h5 := hf r.1.toNat (List.mem_range.2 (by omega))
        unfold hitK at h5
        rw [List.findSome?_eq_none_iff] at h5
        have h6 := h5 ((cond r.2.1 1 0) + (cond r.2.2.1 2 0)) (List.mem_range.2 (by cases r.2.1 <;> cases r.2.2.1 <;> decide))
        unfold hitF at h6
        have hc := cand_show r.1.toNat (by omega) r.2.1 r.2.2.1 r.2.2.2 hl
        rw [show ((r.1.toNat : Nat) : Int) = r.1 by omega, ← hs] at hc
        rw [hc] at h6
        simp at h6
  | none =>
    unfold ruleOfS
    cases h33 : (l == [33]) with
    | true =>
      have : l = [33] := by simpa using h33
      subst this
      exact absurd hp (by decide)
    | false =>
      simp only [cond_false]
      cases hc : (decide (l.length < 3) || !(l.getD 1 0 == 32)) with
      | true => rfl
      | false =>
        simp only [cond_false]
        cases hf : (List.range 4).findSome? (hitK l) with
        | none => rfl
        | some r' =>
          exfalso
          have h5 := hits_some hf
          have hne : l ≠ [] := by rintro rfl; simp at hc
          have h6 := showR_ne (r := r') (by rw [h5]; exact hne)
          have h7 := parse_show h6
          rw [h5, hp] at h7
          cases h7
end Go.AM
set_option linter.unusedVariables false
set_option linter.unusedSimpArgs false
namespace Go.AM
open Go
/-! ### lines -/
def splitN : List UInt8 → List (List UInt8)
  | [] => [[]]
  | c :: r => if c = 10 then [] :: splitN r else match splitN r with
    | [] => [[c]]
    | h :: t => (c :: h) :: t
def prepN (x : List UInt8) : List (List UInt8) → List (List UInt8)
  | [] => [x]
  | h :: t => (x ++ h) :: t
theorem splitN_ne (s : List UInt8) : splitN s ≠ [] := by
  cases s with
  | nil => simp [splitN]
  | cons c r => unfold splitN; split; simp; split <;> simp
theorem splitN_nl {c : UInt8} {r : List UInt8} (h : c = 10) : splitN (c :: r) = [] :: splitN r := by rw [splitN, if_pos h]
theorem splitN_other {c : UInt8} {r : List UInt8} (h : c ≠ 10) : splitN (c :: r) = prepN [c] (splitN r) := by
  rw [splitN, if_neg h]; unfold prepN; rcases splitN r with _ | ⟨h, t⟩ <;> rfl
theorem prepN_prepN (x y : List UInt8) (l : List (List UInt8)) (h : l ≠ []) : prepN x (prepN y l) = prepN (x ++ y) l := by
  cases l with
  | nil => exact absurd rfl h
  | cons a t => simp [prepN]
theorem splitN_len : ∀ s : List UInt8, (splitN s).length ≤ s.length + 1
  | [] => by simp [splitN]
  | c :: r => by
    have := splitN_len r
    by_cases h : c = 10
    · rw [splitN_nl h]; simp; omega
    · rw [splitN_other h]; unfold prepN; split <;> simp_all; omega
theorem getD_consN {s : List UInt8} {i : Nat} (h : i < s.length) : s.drop i = s.getD i 0 :: s.drop (i + 1) := by
  rw [List.drop_eq_getElem_cons h, List.getD_eq_getElem?_getD, List.getElem?_eq_getElem h]; rfl
theorem take_snocN {s : List UInt8} {i f : Nat} (h : i < s.length) (hf : f ≤ i) : (s.take (i + 1)).drop f = (s.take i).drop f ++ [s.getD i 0] := by
  rw [List.take_add_one, List.drop_append_of_le_length (by simp; omega), List.getD_eq_getElem?_getD, List.getElem?_eq_getElem h]; rfl
theorem index_nl (s : List UInt8) : (Go.Lib.indexByte s 10 = -1 ∧ splitN s = [s]) ∨ ∃ k : Nat, k < s.length ∧ Go.Lib.indexByte s 10 = k ∧ splitN s = s.take k :: splitN (s.drop (k + 1)) ∧ s.count 10 = (s.drop (k + 1)).count 10 + 1 := by
  induction s with
  | nil => exact .inl ⟨rfl, rfl⟩
  | cons c r ih =>
    by_cases hc : c = 10
    · refine .inr ⟨0, by simp, ?_, ?_, ?_⟩
      · rw [hc]; rfl
      · rw [splitN_nl hc]; rfl
      · rw [hc]; simp
    · have hb : (c == 10) = false := by simp [hc]
      rcases ih with ⟨h1, h2⟩ | ⟨k, hk, h1, h2, h3⟩
      · refine .inl ⟨?_, ?_⟩
        · unfold Go.Lib.indexByte; rw [hb, h1]; rfl
        · rw [splitN_other hc, h2]; rfl
      · refine .inr ⟨k + 1, by simp; omega, ?_, ?_, ?_⟩
        · unfold Go.Lib.indexByte; rw [hb, h1]
          have : ((k : Int) == -1) = false := by rw [beq_eq_false_iff_ne]; omega
          simp [this]
        · rw [splitN_other hc, h2]; rfl
        · rw [List.count_cons, hb, h3]; simp
theorem count_nl (s : List UInt8) : (splitN s).length = s.count 10 + 1 := by
  induction s with
  | nil => rfl
  | cons c r ih =>
    by_cases hc : c = 10
    · rw [splitN_nl hc, hc]; simp [ih]
    · rw [splitN_other hc, List.count_cons]
      have hb : (c == 10) = false := by simp [hc]
      unfold prepN
      rcases hsp : splitN r with _ | ⟨a, b⟩
      · exact absurd hsp (splitN_ne _)
      · rw [hsp] at ih; simp [hb] at ih ⊢; omega
theorem index_eqN (s : List UInt8) : m_strings_Index s = some (Go.Lib.indexByte s 10, ()) := by
  unfold m_strings_Index m_stringslite_Index
  by_cases h : s = [10]
  · subst h; rfl
  · rw [show (([10] : List UInt8) == s) = false by rw [beq_eq_false_iff_ne]; exact fun h' => h h'.symm]
    rfl
theorem genSplit_eqN (s : List UInt8) (hs : s.length ≤ 8796093022206) : m_strings_genSplit s = some (splitN s, ()) := by
  unfold m_strings_genSplit
  refine bind_eq (x := (((s.count 10 : Nat) : Int), ())) rfl ?_
  have hcl : s.count 10 ≤ s.length := List.count_le_length
  dsimp only
  rw [wr ((s.length : Int) + 1) (by omega), wr (((s.count 10 : Nat) : Int) + 1) (by omega), if_neg (show ¬((s.length : Int) + 1 < ((s.count 10 : Nat) : Int) + 1) by omega), if_pos (by omega), wr (((s.count 10 : Nat) : Int) + 1 - 1) (by omega)]
  have hn : (((s.count 10 : Nat) : Int) + 1).toNat = s.count 10 + 1 := by omega
  rw [hn]
  refine bind_ex (loopC_some' _ (fun n t => ∃ (r : List UInt8) (i : Nat) (a : List (List UInt8)), t = ((r, (), (), ((s.count 10 : Nat) : Int) + 1 - 1, (), (i : Int), ()), a, ()) ∧ i + r.count 10 = s.count 10 ∧ r.length ≤ s.length ∧ a.length = s.count 10 + 1 ∧ a.take i ++ splitN r = splitN s ∧ n = r.length)
    (fun t => ∃ (r : List UInt8) (i : Nat) (a : List (List UInt8)), t = ((r, (), (i : Int), ()), a, ()) ∧ i ≤ s.count 10 ∧ a.length = s.count 10 + 1 ∧ a.take i ++ [r] = splitN s) ?_ _ s.length _ ⟨s, 0, _, rfl, by omega, by omega, by simp, rfl, rfl⟩ (by omega)) ?_
  · rintro n t k ⟨r, i, a, rfl, h1, h2, h3, h4, rfl⟩ hk
    dsimp only
    by_cases hl : i < s.count 10
    · rw [decide_eq_true (by omega), cond_true, index_eqN, Option.bind_some]
      dsimp only
      rcases index_nl r with ⟨g1, g2⟩ | ⟨m, hm, g1, g2, g3⟩
      · rw [g1, decide_eq_true (by omega), cond_true]
        exact ⟨_, rfl, r, i, a, rfl, by omega, h3, by rw [g2] at h4; exact h4⟩
      · rw [g1, decide_eq_false (by omega), cond_false, wr ((m : Int) + 0) (by omega)]
        simp only [List.length_cons, List.length_nil]
        rw [show ((0 + 1 : Nat) : Int) = 1 from rfl, wr1 m (by omega), if_pos (by omega), if_pos (by omega), if_pos (by omega), if_pos (by omega), wr1 i (by omega)]
        refine hk (r.drop (m + 1)).length _ (by rw [List.length_drop]; omega) ⟨r.drop (m + 1), i + 1, a.set i (r.take m), ?_, by omega, by rw [List.length_drop]; omega, ?_, ?_, rfl⟩
        · simp only [Int.toNat_natCast, List.take_length, Int.add_zero]; rfl
        · rw [List.length_set]; exact h3
        · rw [List.take_add_one, List.take_set_of_le (by omega), ← h4, g2]
          rw [List.getElem?_set_self (by omega)]
          simp
    · rw [decide_eq_false (by omega), cond_false]
      refine ⟨_, rfl, r, i, a, rfl, by omega, h3, ?_⟩
      rcases index_nl r with ⟨g1, g2⟩ | ⟨m, hm, g1, g2, g3⟩
      · rw [g2] at h4; exact h4
      · omega
  · rintro t ⟨r, i, a, rfl, h1, h2, h3⟩
    dsimp only
    rw [if_pos (by omega), if_pos (by omega), wr1 i (by omega), if_pos (by rw [List.length_set]; omega)]
    rw [Int.toNat_natCast, Int.toNat_natCast, List.take_add_one, List.take_set_of_le (by omega), List.getElem?_set_self (by omega)]
    show some (a.take i ++ [r], ()) = _
    rw [h3]
theorem split_eqN (s : List UInt8) (hs : s.length ≤ 8796093022206) : m_strings_Split s = some (splitN s, ()) := by
  unfold m_strings_Split; rw [genSplit_eqN s hs]; rfl
theorem splitN_mem : ∀ (s : List UInt8), ∀ x ∈ splitN s, (10 : UInt8) ∉ x ∧ x.length ≤ s.length
  | [] => by intro x hx; simp [splitN] at hx; subst hx; simp
  | c :: r => by
    intro x hx
    have ih := splitN_mem r
    by_cases hc : c = 10
    · rw [splitN_nl hc] at hx
      rcases List.mem_cons.1 hx with rfl | hx
      · simp
      · have := ih x hx; simp only [List.length_cons]; exact ⟨this.1, by omega⟩
    · rw [splitN_other hc] at hx
      rcases hsp : splitN r with _ | ⟨a, b⟩
      · exact absurd hsp (splitN_ne r)
      · rw [hsp] at hx ih
        simp only [prepN, List.mem_cons] at hx
        rcases hx with rfl | hx
        · have := ih a (by simp)
          refine ⟨?_, by simp; omega⟩
          intro h
          simp only [List.cons_append, List.nil_append, List.mem_cons] at h
          rcases h with h | h
          · exact hc h.symm
          · exact this.1 h
        · have := ih x (by simp [hx]); simp only [List.length_cons]; exact ⟨this.1, by omega⟩
def bad1 (s : List UInt8) : Bool := decide ((s.length : Int) > 20000) || (decide ((s.length : Int) > 0) && !(s.getD (s.length - 1) 0 == 10))
def linesV (s : List UInt8) : List (List UInt8) × Bool := cond (bad1 s || decide (s.count 10 > 600)) ([], false) ((splitN s).dropLast, true)
theorem linesV_mem {s : List UInt8} (h : s.length ≤ 1048576) : ∀ x ∈ (linesV s).1, (10 : UInt8) ∉ x ∧ x.length ≤ 1048576 := by
  unfold linesV
  cases bad1 s || decide (s.count 10 > 600) with
  | true => intro x hx; simp at hx
  | false =>
    intro x hx
    have := splitN_mem s x (List.dropLast_subset _ hx)
    exact ⟨this.1, by omega⟩
theorem linesV_len {s : List UInt8} (h : s.length ≤ 1048576) : (linesV s).1.length ≤ 1048576 := by
  unfold linesV
  cases bad1 s || decide (s.count 10 > 600) with
  | true => simp
  | false => have := splitN_len s; simp; omega
theorem eqB10 (b : UInt8) : (((b.toNat : Nat) : Int) == 10) = (b == 10) := by
  rw [Bool.eq_iff_iff, beq_iff_eq, beq_iff_eq, ← UInt8.toNat_inj]
  show ((b.toNat : Nat) : Int) = 10 ↔ b.toNat = 10
  omega
theorem spec_lines (s : List UInt8) (hs : s.length ≤ 1048576) : m_spec_l01Lines s = some (((linesV s).1, (linesV s).2, ()), ()) := by
  unfold m_spec_l01Lines linesV
  refine bind_eq (x := ((s, bad1 s, ()), ())) ?_ ?_
  · unfold bad1
    cases decide ((s.length : Int) > 20000) with
    | true => rfl
    | false =>
      by_cases h0 : (s.length : Int) > 0
      · rw [decide_eq_true h0, cond_false, cond_true, wr _ (by omega), if_pos (by omega), show Int.toNat ((s.length : Int) - 1) = s.length - 1 by omega, Bool.false_or, Bool.true_and]
        show some ((s, !(((s.getD (s.length - 1) 0).toNat : Int) == 10), ()), ()) = _
        rw [eqB10]
      · rw [decide_eq_false h0]; rfl
  · dsimp only
    cases hb : bad1 s with
    | true => rfl
    | false =>
      simp only [cond_false, Bool.false_or]
      refine bind_eq (x := (((), ()), (splitN s).dropLast, ())) (loopC_inv _ (fun n t => ∃ (f i : Nat) (o : List (List UInt8)), t = ((s, (), (f : Int), (i : Int), ()), o, ()) ∧ f ≤ i ∧ i ≤ s.length ∧ o.length ≤ i ∧ o ++ prepN ((s.take i).drop f) (splitN (s.drop i)) = splitN s ∧ n = s.length - i)
        (fun _ => some (((), ()), (splitN s).dropLast, ())) ?_ _ s.length _ ⟨0, 0, [], rfl, by omega, by omega, by simp, ?_, rfl⟩ (by omega)) ?_
      · rintro n t k ⟨f, i, o, rfl, hf, hi, ho, he, rfl⟩ hk
        dsimp only
        by_cases hl : i < s.length
        · have hx : 0 ≤ (i : Int) ∧ (i : Int) < (s.length : Int) := by omega
          rw [decide_eq_true (by omega), cond_true, if_pos hx]
          simp only [Int.toNat_natCast]
          have hd := getD_consN hl
          rw [hd] at he
          rw [eqB10]
          by_cases hc : s.getD i 0 = 10
          · rw [show (s.getD i 0 == 10) = true by rw [hc]; rfl, cond_true, if_pos (by omega), if_pos (by simp only [List.length_cons, List.length_nil]; omega), Option.bind_some]
            dsimp only
            rw [wr1 i (by omega)]
            refine hk (s.length - (i + 1)) _ (by omega) ⟨i + 1, i + 1, _, rfl, by omega, by omega, by simp; omega, ?_, rfl⟩
            rw [splitN_nl hc] at he
            rw [← he, List.append_assoc, show (s.take (i + 1)).drop (i + 1) = [] from List.drop_eq_nil_of_le (by rw [List.length_take]; omega)]
            unfold prepN
            rcases hsp : splitN (s.drop (i + 1)) with _ | ⟨a, b⟩
            · exact absurd hsp (splitN_ne _)
            · simp
          · rw [show (s.getD i 0 == 10) = false by rw [beq_eq_false_iff_ne]; exact hc, cond_false, Option.bind_some]
            dsimp only
            rw [wr1 i (by omega)]
            refine hk (s.length - (i + 1)) _ (by omega) ⟨f, i + 1, _, rfl, by omega, by omega, by omega, ?_, rfl⟩
            rw [splitN_other hc, prepN_prepN _ _ _ (splitN_ne _)] at he
            rw [take_snocN hl hf]
            exact he
        · rw [decide_eq_false (by omega), cond_false]
          rw [← he, List.drop_eq_nil_of_le (by omega : s.length ≤ i), List.take_of_length_le (by omega)]
          simp [splitN, prepN]
      · simp only [List.drop_zero, List.nil_append, List.take_zero, List.drop_nil]
        rcases hsp : splitN s with _ | ⟨a, b⟩
        · exact absurd hsp (splitN_ne _)
        · rfl
      · dsimp only
        have hc := count_nl s
        have h6 : decide (((splitN s).dropLast.length : Int) > 600) = decide (s.count 10 > 600) := decide_eq_decide.2 (by rw [List.length_dropLast, hc]; omega)
        rw [h6]
        cases decide (s.count 10 > 600) <;> rfl
theorem hasSufN (s : List UInt8) (c : UInt8) (hs : s.length ≤ 1048576) : m_strings_HasSuffix s [c] = some (decide (1 ≤ s.length) && (s.getD (s.length - 1) 0 == c), ()) := by
  unfold m_strings_HasSuffix m_stringslite_HasSuffix
  simp only [List.length_cons, List.length_nil]
  by_cases h : 1 ≤ s.length
  · rw [decide_eq_true (show (s.length : Int) ≥ ((0 + 1 : Nat) : Int) by omega), decide_eq_true h, cond_true, wr _ (by omega), if_pos (by omega)]
    simp only [Option.bind_some, Bool.true_and]
    rw [show Int.toNat ((s.length : Int) - ((0 + 1 : Nat) : Int)) = s.length - 1 by omega, show Int.toNat (s.length : Int) = s.length by omega, List.take_length]
    have hlt : s.length - 1 < s.length := by omega
    rw [getD_consN hlt, show s.length - 1 + 1 = s.length by omega, List.drop_length]
    congr 2
    rw [Bool.eq_iff_iff]; simp
  · rw [decide_eq_false (show ¬((s.length : Int) ≥ ((0 + 1 : Nat) : Int)) by omega), decide_eq_false h]; rfl
theorem impl_lines (s : List UInt8) (hs : s.length ≤ 1048576) : m_impl_linesOf s = some (((linesV s).1, (linesV s).2, ()), ()) := by
  unfold m_impl_linesOf linesV
  refine bind_eq (x := ((s, bad1 s || decide (s.count 10 > 600), ()), ())) ?_ ?_
  · unfold bad1
    have hcnt : m_strings_Count s = some (((s.count 10 : Nat) : Int), ()) := rfl
    have h6 : decide (((s.count 10 : Nat) : Int) > 600) = decide (s.count 10 > 600) := decide_eq_decide.2 (by omega)
    rw [hcnt, hasSufN s 10 hs]
    simp only [Option.bind_some, h6]
    cases decide ((s.length : Int) > 20000) with
    | true => rfl
    | false =>
      by_cases h0 : (s.length : Int) > 0
      · have hne : (s == []) = false := by rw [beq_eq_false_iff_ne]; rintro rfl; simp at h0
        rw [hne, decide_eq_true h0, decide_eq_true (show 1 ≤ s.length by omega)]
        cases s.getD (s.length - 1) 0 == 10 <;> rfl
      · have : s = [] := List.length_eq_zero_iff.1 (by omega)
        subst this
        rfl
  · dsimp only
    cases hb : (bad1 s || decide (s.count 10 > 600)) with
    | true => rfl
    | false =>
      simp only [cond_false]
      rw [split_eqN s (by omega), Option.bind_some]
      have hne := splitN_ne s
      have hl : 1 ≤ (splitN s).length := by
        rcases hsp : splitN s with _ | ⟨a, b⟩
        · exact absurd hsp hne
        · simp
      have hl2 := splitN_len s
      dsimp only
      rw [wr _ (by omega), if_pos (by omega), show Int.toNat (((splitN s).length : Int) - 1) = (splitN s).length - 1 by omega, ← List.dropLast_eq_take]
      rfl
end Go.AM
set_option linter.unusedVariables false
set_option linter.unusedSimpArgs false
namespace Go.AM
open Go
theorem slash_eq (b : Bool) : m_impl_slash b = some (sl b, ()) := by cases b <;> rfl
theorem kinds {k : Int} (h0 : 0 ≤ k) (h3 : k ≤ 3) : k = 0 ∨ k = 1 ∨ k = 2 ∨ k = 3 := by omega
theorem ruleOk_pat {r : RuleT} (h : ruleOk r = true) (h4 : r.1 ≠ 4) : r.2.2.2.length ≤ 60 := by
  unfold ruleOk at h
  rw [show (r.1 == 4) = false by rw [beq_eq_false_iff_ne]; exact h4] at h
  simp only [cond_false, Bool.and_eq_true] at h
  exact (patB_len h.2.1).2
theorem sl_len (b : Bool) : (sl b).length ≤ 1 := by cases b <;> decide
theorem impl_show (r : RuleT) : m_impl_ShowRule r = some (showR r, ()) := by
  unfold m_impl_ShowRule showR
  rw [impl_ruleOk, Option.bind_some]
  dsimp only
  cases hr : ruleOk r with
  | false => rfl
  | true =>
    simp only [Bool.not_true, cond_false, cond_true]
    by_cases h4 : r.1 = 4
    · rw [show (r.1 == 4) = true by simpa using h4]; rfl
    · rw [show (r.1 == 4) = false by rw [beq_eq_false_iff_ne]; exact h4]
      obtain ⟨h0, h3, _, _, _⟩ := ruleOk_plain hr h4
      have hp := ruleOk_pat hr h4
      obtain ⟨k, a, b, p⟩ := r
      dsimp only at h0 h3 hp ⊢
      have ha := sl_len a
      have hb := sl_len b
      rw [slash_eq, slash_eq]
      simp only [Option.bind_some, cond_false]
      rcases kinds h0 h3 with rfl | rfl | rfl | rfl
      all_goals
        rw [wr _ (by omega), if_pos (by decide), if_pos (by decide)]
        rw [if_pos, if_pos, if_pos]
        · simp only [List.append_assoc]; rfl
        · simp only [List.length_append, List.length_take, List.length_drop, List.length_cons, List.length_nil]; omega
        · simp only [List.length_append, List.length_take, List.length_drop, List.length_cons, List.length_nil]; omega
        · simp only [List.length_append, List.length_take, List.length_drop, List.length_cons, List.length_nil]; omega
theorem spec_show (r : RuleT) (h10 : (10 : UInt8) ∉ r.2.2.2) : m_spec_ShowRule r = some (showR r, ()) := by
  unfold m_spec_ShowRule showR
  rw [spec_ruleOk r h10, Option.bind_some]
  dsimp only
  cases hr : ruleOk r with
  | false => rfl
  | true =>
    simp only [Bool.not_true, cond_false, cond_true]
    by_cases h4 : r.1 = 4
    · rw [show (r.1 == 4) = true by simpa using h4]; rfl
    · rw [show (r.1 == 4) = false by rw [beq_eq_false_iff_ne]; exact h4]
      obtain ⟨h0, h3, _, _, _⟩ := ruleOk_plain hr h4
      have hp := ruleOk_pat hr h4
      obtain ⟨k, a, b, p⟩ := r
      dsimp only at h0 h3 hp ⊢
      simp only [cond_false]
      rcases kinds h0 h3 with rfl | rfl | rfl | rfl
      all_goals
        rw [wr _ (by omega), if_pos (by decide), if_pos (by decide)]
        cases a <;> cases b
        all_goals
          simp only [cond_false, cond_true, Option.bind_some]
          first | rw [if_pos (by decide), Option.bind_some] | skip
          rw [if_pos (by simp only [List.length_append, List.length_take, List.length_drop, List.length_cons, List.length_nil]; omega)]
          first | rw [if_pos (by simp only [List.length_append, List.length_take, List.length_drop, List.length_cons, List.length_nil]; omega)] | skip
          simp only [Option.bind_some, sl, cond_true, cond_false, List.append_nil, List.nil_append, List.append_assoc]
          rfl
theorem idx_cases (s : List UInt8) (c : UInt8) : Go.Lib.indexByte s c = -1 ∨ ∃ k : Nat, k < s.length ∧ Go.Lib.indexByte s c = k := by
  induction s with
  | nil => exact .inl rfl
  | cons b r ih =>
    unfold Go.Lib.indexByte
    by_cases hb : b = c
    · exact .inr ⟨0, by simp, by simp [hb]⟩
    · rw [show (b == c) = false by simp [hb]]
      rcases ih with h | ⟨k, hk, h⟩
      · rw [h]; exact .inl rfl
      · rw [h]
        refine .inr ⟨k + 1, by simp; omega, ?_⟩
        rw [show ((k : Int) == -1) = false by rw [beq_eq_false_iff_ne]; omega]
        simp
theorem index32 (s : List UInt8) : m_stringslite_Index_2 s = some (Go.Lib.indexByte s 32, ()) := by
  unfold m_stringslite_Index_2
  by_cases h : s = [32]
  · subst h; rfl
  · rw [show (([32] : List UInt8) == s) = false by rw [beq_eq_false_iff_ne]; exact fun h' => h h'.symm]
    rfl
theorem cut_eq (s : List UInt8) (hs : s.length ≤ 1048576) : m_strings_Cut s = some (((cutI s).1, (cutI s).2, decide (Go.Lib.indexByte s 32 ≥ 0), ()), ()) := by
  unfold m_strings_Cut m_stringslite_Cut cutI
  rw [index32, Option.bind_some]
  dsimp only
  rcases idx_cases s 32 with h | ⟨k, hk, h⟩
  · rw [h]; rfl
  · have e : IntKind.wrap .i64 ((k : Int) + (([32] : List UInt8).length : Int)) = ((k + 1 : Nat) : Int) := wr1 k (by omega)
    rw [h, decide_eq_true (show (k : Int) ≥ 0 by omega), cond_true, e, if_pos (by omega), if_pos (by omega), if_pos (by omega), Option.bind_some]
    simp only [Int.toNat_natCast, List.take_length]
    rfl
theorem cutPre (s : List UInt8) : m_strings_CutPrefix s [47] = some ((unroot s, hd s, ()), ()) := by
  unfold m_strings_CutPrefix m_stringslite_CutPrefix m_stringslite_HasPrefix unroot hd
  simp only [List.length_cons, List.length_nil]
  cases s with
  | nil => rfl
  | cons b r =>
    rw [decide_eq_true (show ((b :: r).length : Int) ≥ ((0 + 1 : Nat) : Int) by simp only [List.length_cons]; omega), cond_true, if_pos (by simp only [List.length_cons]; omega)]
    simp only [Option.bind_some]
    have e : (List.drop (Int.toNat 0) (List.take (Int.toNat ((0 + 1 : Nat) : Int)) (b :: r)) == [47]) = (b == 47) := by
      show ([b] == [47]) = _
      rw [Bool.eq_iff_iff]; simp
    rw [e]
    show _ = some ((cond (b == 47) r (b :: r), b == 47, ()), ())
    cases b == 47 with
    | false => rfl
    | true =>
      simp only [Bool.not_true, cond_false, cond_true]
      rw [if_pos (by simp only [List.length_cons]; omega), Option.bind_some]
      simp
theorem cutSuf (s : List UInt8) (hs : s.length ≤ 1048576) : m_strings_CutSuffix s [47] = some ((undir s, tl s, ()), ()) := by
  unfold m_strings_CutSuffix m_stringslite_CutSuffix
  have h := hasSufN s 47 hs
  unfold m_strings_HasSuffix at h
  have h' : m_stringslite_HasSuffix s [47] = some (decide (1 ≤ s.length) && (s.getD (s.length - 1) 0 == 47), ()) := by
    cases hm : m_stringslite_HasSuffix s [47] with
    | none => rw [hm] at h; cases h
    | some v => rw [hm] at h; exact h
  rw [h', Option.bind_some]
  unfold undir tl
  by_cases h1 : 1 ≤ s.length
  · rw [decide_eq_true h1, Bool.true_and]
    dsimp only
    cases s.getD (s.length - 1) 0 == 47 with
    | false => rfl
    | true =>
      simp only [Bool.not_true, cond_false, cond_true, List.length_cons, List.length_nil]
      rw [show (s.length : Int) - ((0 + 1 : Nat) : Int) = (s.length : Int) - 1 from rfl, wr _ (by omega), if_pos (by omega), Option.bind_some, show Int.toNat ((s.length : Int) - 1) = s.length - 1 by omega]
      rfl
  · have : s = [] := List.length_eq_zero_iff.1 (by omega)
    subst this; rfl
def outR : Option RuleT → (RuleT × Bool × Unit) × Unit
  | some r => ((r, true, ()), ())
  | none => (((0, false, false, []), false, ()), ())
theorem impl_parse (l : List UInt8) (hl : l.length ≤ 1048576) : m_impl_ParseRule l = some (outR (ruleOf l)) := by
  unfold m_impl_ParseRule
  rw [cut_eq l hl]
  simp only [Option.bind_some]
  have hc2 : (cutI l).2.length ≤ 1048576 := by
    unfold cutI; split
    · simp only [List.length_drop]; omega
    · simp
  have hu : (unroot (cutI l).2).length ≤ 1048576 := by
    unfold unroot
    cases hd (cutI l).2
    · exact hc2
    · simp only [cond_true, List.length_drop]; omega
  have hidx : m_strings_Index_2 [45, 43, 80, 82, 33] (cutI l).1 = some (Go.Lib.index signs (cutI l).1, ()) := rfl
  rw [hidx]
  simp only [Option.bind_some]
  refine bind_eq (x := ((l, (), (cutI l).1, (), ()), (0, false, false, [], ()), ((rule0 l).1, (rule0 l).2.1, (rule0 l).2.2.1, (rule0 l).2.2.2, ()), ())) ?_ ?_
  · unfold rule0
    by_cases h4 : Go.Lib.index signs (cutI l).1 = 4
    · rw [h4]; rfl
    · rw [show (Go.Lib.index signs (cutI l).1 != 4) = true by rw [bne_iff_ne]; exact h4, show (Go.Lib.index signs (cutI l).1 == 4) = false by rw [beq_eq_false_iff_ne]; exact h4]
      rw [cond_true, cutPre]
      simp only [Option.bind_some]
      rw [cutSuf _ hu]
      rfl
  · dsimp only
    rw [show ((rule0 l).1, (rule0 l).2.1, (rule0 l).2.2.1, (rule0 l).2.2.2) = rule0 l from rfl]
    refine bind_eq (x := (((), (), !ok0 l, ()), (0, false, false, [], ()), ((rule0 l).1, (rule0 l).2.1, (rule0 l).2.2.1, (rule0 l).2.2.2, ()), ())) ?_ ?_
    · unfold ok0
      by_cases h1 : (cutI l).1.length = 1
      · rw [show (((cutI l).1.length : Int) != 1) = false by simp [h1], decide_eq_true h1, cond_false, impl_ruleOk, Option.bind_some]
        dsimp only
        cases ruleOk (rule0 l) with
        | false => rfl
        | true =>
          rw [impl_show]
          rfl
      · rw [show (((cutI l).1.length : Int) != 1) = true by rw [bne_iff_ne]; omega, decide_eq_false h1]; rfl
    · dsimp only
      unfold ruleOf
      cases ok0 l <;> rfl
end Go.AM
set_option linter.unusedVariables false
set_option linter.unusedSimpArgs false
namespace Go.AM
open Go
theorem map_find {α β γ : Type} (l : List α) (h : α → Option β) (g : β → γ) : l.findSome? (fun a => (h a).map g) = (l.findSome? h).map g := by
  induction l with
  | nil => rfl
  | cons a r ih =>
    rw [List.findSome?_cons, List.findSome?_cons]
    cases h a with
    | none => exact ih
    | some b => rfl
theorem four {f : Nat} (h : f < 4) : f = 0 ∨ f = 1 ∨ f = 2 ∨ f = 3 := by omega
theorem spec_parse (l : List UInt8) (h10 : (10 : UInt8) ∉ l) (hl : l.length ≤ 1048576) : m_spec_ParseRule l = some (outR (ruleOf l)) := by
  rw [← ruleOfS_eq]
  unfold m_spec_ParseRule ruleOfS
  cases h33 : l == [33] with
  | true => rfl
  | false =>
    simp only [cond_false]
    refine bind_eq (x := ((l, (), decide (l.length < 3) || !(l.getD 1 0 == 32), ()), (0, false, false, [], ()), ())) ?_ ?_
    · by_cases h3 : l.length < 3
      · rw [decide_eq_true h3, decide_eq_true (by omega)]; rfl
      · rw [decide_eq_false h3, decide_eq_false (by omega), cond_false, if_pos (by omega), Bool.false_or]
        have := eqB (l.getD 1 0) 32 (by omega)
        show some ((l, (), !(((l.getD 1 0).toNat : Int) == ((32 : Nat) : Int)), ()), _, ()) = _
        rw [this]
        rfl
    · dsimp only
      cases hc : (decide (l.length < 3) || !(l.getD 1 0 == 32)) with
      | true => rfl
      | false =>
        simp only [cond_false]
        have hl3 : 3 ≤ l.length := by
          simp only [Bool.or_eq_false_iff, decide_eq_false_iff_not] at hc; omega
        refine joinC_of (findLoop _ (fun k => ((l, (), (k : Int), ()), ((0 : Int), false, false, ([] : List UInt8), ()), ())) 4 (fun k => (hitK l k).map (fun r => Sum.inr ((r, true, ()), ()))) (Sum.inl (((), ()), (0, false, false, [], ()), ())) ?_ ?_ _ (by omega)) ?_
        · intro k kk hk
          dsimp only
          rw [decide_eq_true (by omega), cond_true]
          refine joinC_of (findLoop _ (fun f => ((l, (), (k : Int), (f : Int), ()), ((0 : Int), false, false, ([] : List UInt8), ()), ())) 4 (fun f => (hitF l k f).map (fun r => Sum.inr (Sum.inr ((r, true, ()), ())))) (Sum.inl ((l, (), (k : Int), ()), (0, false, false, [], ()), ())) ?_ ?_ _ (by omega)) ?_
          · intro f kf hf
            dsimp only
            rw [decide_eq_true (by omega), cond_true]
            have hA : (Int.tmod (f : Int) 2 == 1) = decide (f % 2 = 1) := by rcases four hf with rfl | rfl | rfl | rfl <;> rfl
            have hB : (IntKind.wrap .i64 (Int.tdiv (f : Int) 2) == 1) = decide (f / 2 = 1) := by rcases four hf with rfl | rfl | rfl | rfl <;> rfl
            have hd : (l.drop 2).length = l.length - 2 := List.length_drop
            have hdn : (10 : UInt8) ∉ l.drop 2 := fun h => h10 (List.mem_of_mem_drop h)
            rw [if_pos (by decide), if_pos (by decide), if_pos (by omega), hA, hB]
            simp only [Int.toNat_natCast, List.take_length]
            rw [show Int.toNat 2 = 2 from rfl, show Int.toNat 1 = 1 from rfl]
            unfold hitF cand
            generalize hp1 : cond (decide (f % 2 = 1)) ((l.drop 2).drop 1) (l.drop 2) = p1
            have hp1n : (10 : UInt8) ∉ p1 := by
              rw [← hp1]
              cases decide (f % 2 = 1)
              · exact hdn
              · exact fun h => hdn (List.mem_of_mem_drop h)
            have hp1l : p1.length ≤ 1048576 := by
              rw [← hp1]
              cases decide (f % 2 = 1)
              · simp only [cond_false]; omega
              · simp only [cond_true, List.length_drop]; omega
            generalize decide (f / 2 = 1) = b
            refine joinC_of (bind_of (x := some ((l, (), (k : Int), (f : Int), (), p1, ()), ((0 : Int), false, false, ([] : List UInt8), ()), ((k : Int), decide (f % 2 = 1), b, ([] : List UInt8), ()), ())) ?_ rfl) ?_
            · rw [← hp1]
              cases decide (f % 2 = 1) with
              | false => rfl
              | true => rw [cond_true, if_pos (by omega)]; rfl
            simp only [Option.bind_some]
            cases b with
            | false =>
              simp only [cond_false, Bool.false_and]
              rw [joinC_inl' rfl]
              dsimp only
              rw [spec_show (((k : Int), decide (f % 2 = 1), false, p1) : RuleT) hp1n]
              simp only [Option.bind_some]
              cases showR (((k : Int), decide (f % 2 = 1), false, p1) : RuleT) == l with
              | true => rfl
              | false => simp only [cond_false]; rw [joinC_inl' rfl]; dsimp only [Option.map]; rw [wr1 f (by omega)]
            | true =>
              by_cases h0 : p1.length = 0
              · rw [decide_eq_true h0]
                have : ((p1.length : Int) == 0) = true := by simp [h0]
                simp only [this, cond_true, Bool.and_true]
                rw [joinC_inr' rfl, joinC_inl' rfl]
                dsimp only [Option.map]
                rw [wr1 f (by omega)]
              · rw [decide_eq_false h0]
                have : ((p1.length : Int) == 0) = false := by rw [beq_eq_false_iff_ne]; omega
                simp only [this, cond_true, cond_false, Bool.and_false]
                rw [wr _ (by omega), if_pos (by omega), joinC_inl' rfl, show Int.toNat ((p1.length : Int) - 1) = p1.length - 1 by omega]
                dsimp only
                rw [show List.drop (Int.toNat 0) (p1.take (p1.length - 1)) = p1.take (p1.length - 1) from rfl]
                rw [spec_show (((k : Int), decide (f % 2 = 1), true, p1.take (p1.length - 1)) : RuleT) (fun h => hp1n (List.mem_of_mem_take h))]
                simp only [Option.bind_some]
                cases showR (((k : Int), decide (f % 2 = 1), true, p1.take (p1.length - 1)) : RuleT) == l with
                | true => rfl
                | false => simp only [cond_false]; rw [joinC_inl' rfl]; dsimp only [Option.map]; rw [wr1 f (by omega)]
          · intro kf; dsimp only; rfl
          · rw [map_find (List.range 4) (hitF l k)]
            show joinC (some (((hitK l k).map _).getD _)) _ = _
            cases hitK l k with
            | some r => rfl
            | none => dsimp only [Option.map, Option.getD]; rw [joinC_inl' rfl]; dsimp only; rw [wr1 k (by omega)]
        · intro kk; rfl
        · rw [map_find (List.range 4) (hitK l)]
          cases (List.range 4).findSome? (hitK l) <;> rfl
end Go.AM
set_option linter.unusedVariables false
set_option linter.unusedSimpArgs false
namespace Go.AM
open Go
/-! ### many rules -/
def rulesV : List (List UInt8) → Nat → List RuleT → List RuleT × Int × Bool
  | [], _, acc => (acc, 0, true)
  | l :: r, i, acc => match ruleOf l with
    | none => ([], ((i + 1 : Nat) : Int), false)
    | some x => cond (x.1 == 4) (rulesV r (i + 1) []) (cond (decide (acc.length = 100)) ([], ((i + 1 : Nat) : Int), false) (rulesV r (i + 1) (acc ++ [x])))
theorem rulesV_len : ∀ (ls : List (List UInt8)) (i : Nat) (acc : List RuleT), acc.length ≤ 100 → (rulesV ls i acc).1.length ≤ 100
  | [], _, acc, h => h
  | l :: r, i, acc, h => by
    rw [rulesV]
    cases ruleOf l with
    | none => simp
    | some x =>
      dsimp only
      cases x.1 == 4 with
      | true => exact rulesV_len r (i + 1) [] (by simp)
      | false =>
        by_cases h1 : acc.length = 100
        · rw [decide_eq_true h1]; simp
        · rw [decide_eq_false h1]; exact rulesV_len r (i + 1) _ (by simp; omega)
theorem rulesV_num : ∀ (ls : List (List UInt8)) (i : Nat) (acc : List RuleT), (rulesV ls i acc).2.2 = true → (rulesV ls i acc).2.1 = 0
  | [], _, acc, _ => rfl
  | l :: r, i, acc, h => by
    rw [rulesV] at h ⊢
    cases hr : ruleOf l with
    | none => rw [hr] at h; cases h
    | some x =>
      rw [hr] at h
      dsimp only at h ⊢
      cases h4 : x.1 == 4 with
      | true => rw [h4] at h; exact rulesV_num r (i + 1) [] h
      | false =>
        rw [h4] at h
        by_cases h1 : acc.length = 100
        · rw [decide_eq_true h1] at h; cases h
        · rw [decide_eq_false h1] at h ⊢; exact rulesV_num r (i + 1) _ h
def prV (s : List UInt8) : List RuleT × Int × Bool := cond (linesV s).2 (rulesV (linesV s).1 0 []) ([], 0, false)
theorem prV_len (s : List UInt8) : (prV s).1.length ≤ 100 := by
  unfold prV
  cases (linesV s).2
  · simp
  · exact rulesV_len _ _ _ (by simp)
theorem getD_consL {ls : List (List UInt8)} {i : Nat} (h : i < ls.length) : ls.drop i = ls.getD i [] :: ls.drop (i + 1) := by
  rw [List.drop_eq_getElem_cons h, List.getD_eq_getElem?_getD, List.getElem?_eq_getElem h]; rfl
theorem spec_parseRules (s : List UInt8) (hs : s.length ≤ 1048576) : m_spec_ParseRules s = some (((prV s).1, (prV s).2.1, (prV s).2.2, ()), ()) := by
  unfold m_spec_ParseRules prV
  rw [spec_lines s hs]
  have hm := linesV_mem hs
  have hl := linesV_len hs
  generalize linesV s = L at hm hl
  obtain ⟨ls, ok⟩ := L
  dsimp only at hm hl ⊢
  rw [Option.bind_some]
  cases ok with
  | false => rfl
  | true =>
    simp only [Bool.not_true, cond_false, cond_true]
    generalize hR : rulesV ls 0 [] = R
    refine joinC_of (loopC_inv _ (fun n t => ∃ (i : Nat) (acc : List RuleT), t = ((ls, (), (i : Int), ()), acc, ()) ∧ i ≤ ls.length ∧ acc.length ≤ 100 ∧ rulesV (ls.drop i) i acc = R ∧ n = ls.length - i)
      (fun _ => some (cond R.2.2 (Sum.inl (((), ()), R.1, ())) (Sum.inr ((R.1, R.2.1, R.2.2, ()), ())))) ?_ _ ls.length _ ⟨0, [], rfl, by omega, by simp, hR, rfl⟩ (by omega)) ?_
    · rintro n t k ⟨i, acc, rfl, hi, ha, he, rfl⟩ hk
      dsimp only
      by_cases hlt : i < ls.length
      · rw [decide_eq_true (by omega), cond_true]
        have hx : 0 ≤ (i : Int) ∧ (i : Int) < (ls.length : Int) := by omega
        rw [if_pos hx, Int.toNat_natCast]
        have hmem := hm (ls.getD i []) (getD_mem [] hlt)
        have hp := spec_parse (ls.getD i []) hmem.1 hmem.2
        rw [getD_consL hlt, rulesV] at he
        rw [show m_spec_ParseRule (List.getD ls i (nilOf UInt8)) = some (outR (ruleOf (ls.getD i []))) from hp]
        rw [Option.bind_some]
        cases hr : ruleOf (ls.getD i []) with
        | none =>
          rw [hr] at he
          dsimp only at he
          subst he
          dsimp only [outR]
          rw [Bool.not_false, cond_true, joinC_inr' rfl, wr1 i (by omega)]
          rfl
        | some x =>
          rw [hr] at he
          dsimp only at he
          dsimp only [outR]
          rw [Bool.not_true, cond_false]
          cases h4 : x.1 == 4 with
          | true =>
            rw [h4, cond_true] at he
            rw [cond_true, joinC_inl' rfl]
            dsimp only
            rw [wr1 i (by omega)]
            exact hk (ls.length - (i + 1)) _ (by omega) ⟨i + 1, [], rfl, by omega, by simp, he, rfl⟩
          | false =>
            rw [h4, cond_false] at he
            rw [cond_false]
            by_cases h1 : acc.length = 100
            · rw [decide_eq_true h1, cond_true] at he
              rw [show ((acc.length : Int) == 100) = true by simp [h1], cond_true, joinC_inr' rfl, wr1 i (by omega), ← he]
              rfl
            · rw [decide_eq_false h1, cond_false] at he
              rw [show ((acc.length : Int) == 100) = false by rw [beq_eq_false_iff_ne]; omega, cond_false, if_pos (by simp only [List.length_cons, List.length_nil]; omega), joinC_inl' rfl]
              dsimp only
              rw [wr1 i (by omega)]
              exact hk (ls.length - (i + 1)) _ (by omega) ⟨i + 1, acc ++ [x], rfl, by omega, by simp; omega, he, rfl⟩
      · rw [decide_eq_false (by omega), cond_false]
        rw [List.drop_eq_nil_of_le (by omega)] at he
        rw [← he]; rfl
    · have hn := rulesV_num ls 0 []
      rw [hR] at hn
      obtain ⟨r1, r2, r3⟩ := R
      cases r3 with
      | false => rfl
      | true =>
        have : r2 = 0 := hn rfl
        subst this; rfl
theorem impl_parseRules (s : List UInt8) (hs : s.length ≤ 1048576) : m_impl_ParseRules s = some (((), (prV s).2.1, (prV s).2.2, ()), (prV s).1, ()) := by
  unfold m_impl_ParseRules prV
  rw [impl_lines s hs]
  have hm := linesV_mem hs
  have hl := linesV_len hs
  generalize linesV s = L at hm hl
  obtain ⟨ls, ok⟩ := L
  dsimp only at hm hl ⊢
  rw [Option.bind_some]
  cases ok with
  | false => rfl
  | true =>
    simp only [Bool.not_true, cond_false, cond_true]
    generalize hR : rulesV ls 0 [] = R
    refine joinC_of (loopC_inv _ (fun n t => ∃ (i : Nat) (acc : List RuleT), t = (((), ls, (ls.length : Int), (i : Int), ()), acc, ()) ∧ i ≤ ls.length ∧ acc.length ≤ 100 ∧ rulesV (ls.drop i) i acc = R ∧ n = ls.length - i)
      (fun _ => some (cond R.2.2 (Sum.inl (((), ()), R.1, ())) (Sum.inr (((), R.2.1, R.2.2, ()), R.1, ())))) ?_ _ ls.length _ ⟨0, [], rfl, by omega, by simp, hR, rfl⟩ (by omega)) ?_
    · rintro n t k ⟨i, acc, rfl, hi, ha, he, rfl⟩ hk
      dsimp only
      by_cases hlt : i < ls.length
      · rw [decide_eq_true (by omega), cond_true]
        have hx : 0 ≤ (i : Int) ∧ (i : Int) < (ls.length : Int) := by omega
        rw [if_pos hx, Int.toNat_natCast]
        have hmem := hm (ls.getD i []) (getD_mem [] hlt)
        have hp := impl_parse (ls.getD i []) hmem.2
        rw [getD_consL hlt, rulesV] at he
        rw [show m_impl_ParseRule (List.getD ls i (nilOf UInt8)) = some (outR (ruleOf (ls.getD i []))) from hp]
        rw [Option.bind_some]
        cases hr : ruleOf (ls.getD i []) with
        | none =>
          rw [hr] at he
          dsimp only at he
          subst he
          dsimp only [outR]
          rw [Bool.not_false, cond_true, joinC_inr' rfl, wr1 i (by omega)]
          rfl
        | some x =>
          rw [hr] at he
          dsimp only at he
          dsimp only [outR]
          rw [Bool.not_true, cond_false]
          cases h4 : x.1 == 4 with
          | true =>
            rw [h4, cond_true] at he
            rw [cond_true, joinC_inl' rfl]
            dsimp only
            rw [wr1 i (by omega)]
            exact hk (ls.length - (i + 1)) _ (by omega) ⟨i + 1, [], rfl, by omega, by simp, he, rfl⟩
          | false =>
            rw [h4, cond_false] at he
            rw [cond_false]
            by_cases h1 : acc.length = 100
            · rw [decide_eq_true h1, cond_true] at he
              rw [show ((acc.length : Int) == 100) = true by simp [h1], cond_true, joinC_inr' rfl, wr1 i (by omega), ← he]
              rfl
            · rw [decide_eq_false h1, cond_false] at he
              rw [show ((acc.length : Int) == 100) = false by rw [beq_eq_false_iff_ne]; omega, cond_false, if_pos (by simp only [List.length_cons, List.length_nil]; omega), joinC_inl' rfl]
              dsimp only
              rw [wr1 i (by omega)]
              exact hk (ls.length - (i + 1)) _ (by omega) ⟨i + 1, acc ++ [x], rfl, by omega, by simp; omega, he, rfl⟩
      · rw [decide_eq_false (by omega), cond_false]
        rw [List.drop_eq_nil_of_le (by omega)] at he
        rw [← he]; rfl
    · have hn := rulesV_num ls 0 []
      rw [hR] at hn
      obtain ⟨r1, r2, r3⟩ := R
      cases r3 with
      | false => rfl
      | true =>
        have : r2 = 0 := hn rfl
        subst this; rfl
end Go.AM
set_option linter.unusedVariables false
set_option linter.unusedSimpArgs false
namespace Go.AM
open Go
/-! ### rules: compared, marked -/
theorem hdR : ((Int.ofNat (nat_lit 0), false, false, nilOf UInt8) : RuleT) = dR := rfl
theorem eqRule_eq (e : RuleT) : m_laws_eqRule e e = some (true, ()) := by unfold m_laws_eqRule; simp
theorem eqRuleS_eq (l : List RuleT) (hl : l.length ≤ 1048576) : m_laws_eqRuleS l l = some (true, ()) := eqS_eq m_laws_eqRule dR eqRule_eq l (by omega)
def mkR (i : Nat) : RuleT := (((1 + 4 * i : Nat) : Int), Int.tmod ((1 + 4 * i + 1 : Nat) : Int) 3 == 0, Int.tmod ((1 + 4 * i + 2 : Nat) : Int) 3 == 0, mkT ((1 + 4 * i + 3 : Nat) : Int))
def mkRL (n : Nat) : List RuleT := (List.range n).map mkR
theorem mkRL_len (n : Nat) : (mkRL n).length = n := by unfold mkRL; simp
theorem set_getR (o : List RuleT) {i : Nat} (h : i < o.length) (P : RuleT) (f : RuleT → RuleT) : (o.set i P).set i (f ((o.set i P).getD i dR)) = o.set i (f P) := by
  rw [List.set_set, List.getD_eq_getElem?_getD, List.getElem?_set_self h]; rfl
theorem markRuleS_eq (xs : List RuleT) (hl : xs.length ≤ 1048576) : m_laws_markRuleS 1 xs = some (((1 + 4 * xs.length : Nat) : Int), mkRL xs.length, ()) := by
  unfold m_laws_markRuleS
  refine bind_eq (loopC_inv _ (fun n t => ∃ (i : Nat) (o : List RuleT), t = (((), ((1 + 4 * i : Nat) : Int), (i : Int), ()), o, ()) ∧ o.length = xs.length ∧ i ≤ xs.length ∧ o.take i = mkRL i ∧ n = xs.length - i)
    (fun _ => some ((((1 + 4 * xs.length : Nat) : Int), ()), mkRL xs.length, ())) ?_ _ xs.length _ ⟨0, xs, rfl, rfl, by omega, rfl, rfl⟩ (by omega)) rfl
  rintro n t k ⟨i, o, rfl, ho, hi, he, rfl⟩ hk
  dsimp only
  by_cases hlt : i < xs.length
  · have e1 : IntKind.wrap .i64 (((1 + 4 * i : Nat) : Int) + 1) = ((1 + 4 * i + 1 : Nat) : Int) := wr1 _ (by omega)
    have e2 : IntKind.wrap .i64 (((1 + 4 * i + 1 : Nat) : Int) + 1) = ((1 + 4 * i + 2 : Nat) : Int) := wr1 _ (by omega)
    have e3 : IntKind.wrap .i64 (((1 + 4 * i + 2 : Nat) : Int) + 1) = ((1 + 4 * i + 3 : Nat) : Int) := wr1 _ (by omega)
    have h3 : (3 : Int) ≠ 0 := by decide
    rw [decide_eq_true (by omega), cond_true]
    refine bind_eq (x := (((), ((1 + 4 * i : Nat) : Int), (i : Int), ()), o.set i ((((1 + 4 * i : Nat) : Int), (o.getD i dR).2) : RuleT), ())) ?_ ?_
    · rw [if_pos (by rw [ho]; omega), if_pos (by rw [Int.toNat_natCast]; omega), Int.toNat_natCast]
      rfl
    dsimp only
    refine bind_eq (x := (((), ((1 + 4 * i + 1 : Nat) : Int), (i : Int), ()), o.set i ((((1 + 4 * i : Nat) : Int), Int.tmod ((1 + 4 * i + 1 : Nat) : Int) 3 == 0, (o.getD i dR).2.2) : RuleT), ())) ?_ ?_
    · rw [e1, if_pos h3]
      rw [if_pos (by rw [List.length_set]; omega), if_pos (by rw [List.length_set, Int.toNat_natCast]; omega), Int.toNat_natCast]
      exact congrArg (fun z => some (((), ((1 + 4 * i + 1 : Nat) : Int), (i : Int), ()), z, ())) (set_getR o (show i < o.length by omega) ((((1 + 4 * i : Nat) : Int), (o.getD i dR).2) : RuleT) (fun n => (n.1, Int.tmod ((1 + 4 * i + 1 : Nat) : Int) 3 == 0, n.2.2)))
    dsimp only
    refine bind_eq (x := (((), ((1 + 4 * i + 2 : Nat) : Int), (i : Int), ()), o.set i ((((1 + 4 * i : Nat) : Int), Int.tmod ((1 + 4 * i + 1 : Nat) : Int) 3 == 0, Int.tmod ((1 + 4 * i + 2 : Nat) : Int) 3 == 0, (o.getD i dR).2.2.2) : RuleT), ())) ?_ ?_
    · rw [e2, if_pos h3]
      rw [if_pos (by rw [List.length_set]; omega), if_pos (by rw [List.length_set, Int.toNat_natCast]; omega), Int.toNat_natCast]
      exact congrArg (fun z => some (((), ((1 + 4 * i + 2 : Nat) : Int), (i : Int), ()), z, ())) (set_getR o (show i < o.length by omega) ((((1 + 4 * i : Nat) : Int), Int.tmod ((1 + 4 * i + 1 : Nat) : Int) 3 == 0, (o.getD i dR).2.2) : RuleT) (fun n => (n.1, n.2.1, Int.tmod ((1 + 4 * i + 2 : Nat) : Int) 3 == 0, n.2.2.2)))
    dsimp only
    refine bind_eq (x := (((), ((1 + 4 * i + 3 : Nat) : Int), (i : Int), ()), o.set i (mkR i : RuleT), ())) ?_ ?_
    · rw [e3]
      rw [markText_eq _ (by omega), Option.bind_some]
      dsimp only
      rw [if_pos (by rw [List.length_set]; omega), if_pos (by rw [List.length_set, Int.toNat_natCast]; omega), Int.toNat_natCast]
      exact congrArg (fun z => some (((), ((1 + 4 * i + 3 : Nat) : Int), (i : Int), ()), z, ())) (set_getR o (show i < o.length by omega) ((((1 + 4 * i : Nat) : Int), Int.tmod ((1 + 4 * i + 1 : Nat) : Int) 3 == 0, Int.tmod ((1 + 4 * i + 2 : Nat) : Int) 3 == 0, (o.getD i dR).2.2.2) : RuleT) (fun n => (n.1, n.2.1, n.2.2.1, mkT ((1 + 4 * i + 3 : Nat) : Int))))
    dsimp only
    have e7 : IntKind.wrap .i64 (((1 + 4 * i + 3 : Nat) : Int) + 1) = ((1 + 4 * (i + 1) : Nat) : Int) := wr1 _ (by omega)
    rw [e7, wr1 i (by omega)]
    refine hk (xs.length - (i + 1)) _ (by omega) ⟨i + 1, _, rfl, by rw [List.length_set]; exact ho, by omega, ?_, rfl⟩
    rw [List.take_add_one, List.take_set_of_le (by omega), he, List.getElem?_set_self (by omega)]
    unfold mkRL
    rw [List.range_succ, List.map_append]
    rfl
  · have : i = xs.length := by omega
    subst this
    rw [decide_eq_false (by omega), cond_false]
    rw [List.take_of_length_le (by omega)] at he
    rw [he]
theorem heldRuleS_eq (n : Nat) (hn : n ≤ 1048576) : m_laws_heldRuleS (mkRL n) 1 = some (((1 + 4 * n : Nat) : Int), ()) := by
  unfold m_laws_heldRuleS
  have hl := mkRL_len n
  refine joinC_of (loopC_inv _ (fun m t => ∃ (i : Nat), t = ((mkRL n, ((1 + 4 * i : Nat) : Int), (i : Int), ()), ()) ∧ i ≤ n ∧ m = n - i)
    (fun _ => some (.inl ((((1 + 4 * n : Nat) : Int), ()), ()))) ?_ _ n _ ⟨0, rfl, by omega, rfl⟩ (by omega)) rfl
  rintro m t kk ⟨i, rfl, hi, rfl⟩ hkk
  dsimp only
  by_cases hlt : i < n
  · have hb : (0 : Int) ≤ (i : Int) ∧ (i : Int) < ((mkRL n).length : Int) := by omega
    have hg : (mkRL n).getD i dR = mkR i := by
      unfold mkRL
      rw [List.getD_eq_getElem?_getD, List.getElem?_map, List.getElem?_range hlt]; rfl
    have e1 : IntKind.wrap .i64 (((1 + 4 * i : Nat) : Int) + 1) = ((1 + 4 * i + 1 : Nat) : Int) := wr1 _ (by omega)
    have e2 : IntKind.wrap .i64 (((1 + 4 * i + 1 : Nat) : Int) + 1) = ((1 + 4 * i + 2 : Nat) : Int) := wr1 _ (by omega)
    have e3 : IntKind.wrap .i64 (((1 + 4 * i + 2 : Nat) : Int) + 1) = ((1 + 4 * i + 3 : Nat) : Int) := wr1 _ (by omega)
    have e4 : IntKind.wrap .i64 (((1 + 4 * i + 3 : Nat) : Int) + 1) = ((1 + 4 * (i + 1) : Nat) : Int) := wr1 _ (by omega)
    have h3 : (3 : Int) ≠ 0 := by decide
    rw [decide_eq_true (by omega), cond_true]
    simp only [if_pos hb, if_pos h3]
    rw [Int.toNat_natCast, hdR, hg, e1, e2, e3, e4]
    rw [show ((mkR i).1 != ((1 + 4 * i : Nat) : Int)) = false by simp [mkR], cond_false]
    rw [show (!(mkR i).2.1 == (Int.tmod ((1 + 4 * i + 1 : Nat) : Int) 3 == 0)) = false by simp [mkR], cond_false]
    rw [show (!(mkR i).2.2.1 == (Int.tmod ((1 + 4 * i + 2 : Nat) : Int) 3 == 0)) = false by simp [mkR], cond_false]
    rw [markText_eq _ (by omega), Option.bind_some]
    dsimp only
    rw [show (!(mkR i).2.2.2 == mkT ((1 + 4 * i + 3 : Nat) : Int)) = false by simp [mkR], cond_false, wr1 i (by omega)]
    exact hkk (n - (i + 1)) _ (by omega) ⟨i + 1, rfl, by omega, rfl⟩
  · have : i = n := by omega
    subst this
    rw [decide_eq_false (by omega)]; rfl
theorem law_ParseRules (s : List UInt8) : m_laws_FnExactParseRules s = some (true, ()) := by
  unfold m_laws_FnExactParseRules
  by_cases hb : (s.length : Int) > 1048576
  · rw [decide_eq_true hb]; rfl
  rw [decide_eq_false hb, cond_false]
  have hs : s.length ≤ 1048576 := by omega
  have e1 := spec_parseRules s hs
  have e2 := impl_parseRules s hs
  have hl := prV_len s
  generalize prV s = V at e1 e2 hl
  obtain ⟨R, n, b⟩ := V
  dsimp only at e1 e2 hl
  have k2 := markRuleS_eq R (by omega)
  have hd := heldRuleS_eq R.length (by omega)
  rw [e1]
  simp only [Option.bind_some]
  rw [e2]
  simp only [Option.bind_some]
  rw [eqRuleS_eq R (by omega)]
  have hnn : (n != n) = false := by simp
  have hbb : (!b == b) = false := by simp
  simp only [Option.bind_some, Bool.not_true, cond_false, hnn, hbb]
  rw [k2]
  simp only [Option.bind_some]
  rw [hd]
  simp only [Option.bind_some]
  rw [decide_eq_false (show ¬(((1 + 4 * R.length : Nat) : Int)) < 0 by omega), cond_false, show ((((1 + 4 * R.length : Nat) : Int)) != (((1 + 4 * R.length : Nat) : Int))) = false by simp, cond_false]
  rw [e2]
  simp only [Option.bind_some]
  rw [eqRuleS_eq R (by omega)]
  simp only [Option.bind_some, Bool.not_true, cond_false, hnn, hbb, hd]
  rw [decide_eq_false (show ¬(((1 + 4 * R.length : Nat) : Int)) < 0 by omega), cond_false, show ((((1 + 4 * R.length : Nat) : Int)) != (((1 + 4 * R.length : Nat) : Int))) = false by simp, cond_false]
end Go.AM
