/- The plain law: the model of the law answers true. -/
import Derived.Test.YtbpbnhgkdfhdcaaDoorMoFnRuleLines
set_option linter.unusedVariables false
set_option linter.unusedSimpArgs false
namespace Go.AM
open Go
/- The plain law: the model of the law answers true. -/
theorem loopC_inv {S α : Type} (F : S → (S → Option α) → Option α) (I : Nat → S → Prop) (g : S → Option α)
    (h : ∀ n s k, I n s → (∀ m s', m < n → I m s' → k s' = g s') → F s k = g s) : ∀ fuel n s, I n s → n < fuel → loopC fuel F s = g s := by
  intro fuel
  induction fuel with
  | zero => intro n s _ h0; omega
  | succ f ih => intro n s hI hn; exact h n s _ hI (fun m s' hm hI' => ih m s' hI' (by omega))
theorem wr (x : Int) (h : -9223372036854775808 ≤ x ∧ x ≤ 9223372036854775807) : IntKind.wrap .i64 x = x := by
  simp [IntKind.wrap, IntKind.signed, IntKind.bits]; omega
/-- A loop ends in some result with Q. -/
theorem loopC_some' {S α : Type} (F : S → (S → Option α) → Option α) (I : Nat → S → Prop) (Q : α → Prop)
    (h : ∀ n s k, I n s → (∀ m s', m < n → I m s' → ∃ r, k s' = some r ∧ Q r) → ∃ r, F s k = some r ∧ Q r) : ∀ fuel n s, I n s → n < fuel → ∃ r, loopC fuel F s = some r ∧ Q r := by
  intro fuel
  induction fuel with
  | zero => intro n s _ h0; omega
  | succ f ih => intro n s hI hn; exact h n s _ hI (fun m s' hm hI' => ih m s' hI' (by omega))
theorem bind_some' {α β : Type} {o : Option α} {f : α → Option β} {Q : α → Prop} {R : β → Prop} (h : ∃ r, o = some r ∧ Q r) (h2 : ∀ r, Q r → ∃ t, f r = some t ∧ R t) : ∃ t, Option.bind o f = some t ∧ R t := by
  obtain ⟨r, rfl, hq⟩ := h
  exact h2 r hq
theorem bind_eq {α β : Type} {o : Option α} {f : α → Option β} {x : α} {r : Option β} (h : o = some x) (h2 : f x = r) : Option.bind o f = r := by rw [h]; exact h2
theorem bind_of {α β : Type} {o x : Option α} {f : α → Option β} {r : Option β} (h : o = x) (h2 : Option.bind x f = r) : Option.bind o f = r := by rw [h]; exact h2
theorem bind_ex {α β : Type} {o : Option α} {f : α → Option β} {Q : α → Prop} {r : Option β} (h : ∃ x, o = some x ∧ Q x) (h2 : ∀ x, Q x → f x = r) : Option.bind o f = r := by obtain ⟨x, rfl, hq⟩ := h; exact h2 x hq
theorem joinC_of {S α : Type} {o x : Option (S ⊕ α)} {k : S → Option α} {r : Option α} (h : o = x) (h2 : joinC x k = r) : joinC o k = r := by rw [h]; exact h2
theorem joinC_ex {S α : Type} {o : Option (S ⊕ α)} {k : S → Option α} {Q : S ⊕ α → Prop} {r : Option α} (h : ∃ x, o = some x ∧ Q x) (h2 : ∀ x, Q x → joinC (some x) k = r) : joinC o k = r := by obtain ⟨x, rfl, hq⟩ := h; exact h2 x hq
theorem wr1 (i : Nat) (h : i ≤ 4611686018427387904) : IntKind.wrap .i64 ((i : Int) + 1) = ((i + 1 : Nat) : Int) := by rw [wr _ (by omega)]; rfl
theorem joinC_inl' {S α : Type} {o : Option (S ⊕ α)} {k : S → Option α} {s : S} (h : o = some (.inl s)) : joinC o k = k s := by rw [h]; rfl
theorem joinC_inr' {S α : Type} {o : Option (S ⊕ α)} {k : S → Option α} {a : α} (h : o = some (.inr a)) : joinC o k = some a := by rw [h]; rfl
def fillN : Nat → Nat → List Bool → List Bool
  | 0, _, s => s
  | n + 1, i, s => fillN n (i + 1) (s.set i true)
theorem fillN_length : ∀ n i s, (fillN n i s).length = s.length
  | 0, _, _ => rfl
  | n + 1, i, s => by rw [fillN, fillN_length n]; simp
def by8 (p : List UInt8) (i : Nat) : Nat := (p.getD i 0).toNat
theorem by8_lt (p i) : by8 p i < 256 := (p.getD i 0).toNat_lt
def cls (p : List UInt8) (i : Nat) (first : Bool) (s : List Bool) : Nat × List Bool :=
  if i < p.length ∧ (first = true ∨ by8 p i ≠ 93) then
    if i + 2 < p.length ∧ by8 p (i + 1) = 45 ∧ by8 p (i + 2) ≠ 93 then cls p (i + 3) false (fillN (by8 p (i + 2) + 1 - by8 p i) (by8 p i) s)
    else cls p (i + 1) false (s.set (by8 p i) true)
  else (i, s)
termination_by p.length - i
theorem hasPrefix_eq (a b : List UInt8) : m_strings_HasPrefix a b = some (decide (b.length ≤ a.length) && (a.take b.length == b), ()) := by
  unfold m_strings_HasPrefix m_stringslite_HasPrefix
  by_cases h : b.length ≤ a.length
  · have h1 : (a.length : Int) ≥ (b.length : Int) := by omega
    have h2 : (0 : Int) ≤ 0 ∧ (0 : Int) ≤ (b.length : Int) ∧ (b.length : Int) ≤ (a.length : Int) := by omega
    rw [decide_eq_true h1, if_pos h2]
    simp only [h, cond_true, Option.bind_some, Int.toNat_natCast, Int.toNat_zero, List.drop_zero, decide_true, Bool.true_and]
  · have h1 : ¬ (a.length : Int) ≥ (b.length : Int) := by omega
    rw [decide_eq_false h1]
    simp only [h, cond_false, Option.bind_some, decide_false, Bool.false_and]
def clsNot (p : List UInt8) : Bool := decide (1 ≤ p.length) && (by8 p 0 == 33)
def clsR (p : List UInt8) : Nat × List Bool := cls p (if clsNot p = true then 1 else 0) true (List.replicate 256 false)
theorem take1 (p : List UInt8) (x : UInt8) (n : Nat) (hx : x.toNat = n) : (decide ([x].length ≤ p.length) && (p.take [x].length == [x])) = (decide (1 ≤ p.length) && (by8 p 0 == n)) := by
  subst hx
  cases p with
  | nil => rfl
  | cons a l =>
    simp only [List.length_cons, List.length_nil, List.take_succ_cons, List.take_zero, by8, List.getD_cons_zero]
    by_cases h : a = x
    · subst h; simp
    · have : a.toNat ≠ x.toNat := fun e => h (UInt8.toNat_inj.mp e)
      rw [beq_eq_false_iff_ne.mpr this, show (([a] : List UInt8) == [x]) = false from beq_eq_false_iff_ne.mpr (fun e => h (List.cons.inj e).1)]
def clsF (p : List UInt8) (i : Nat) (first : Bool) (s : List Bool) : Nat × List Bool := cls p i first s
theorem cls_len (p : List UInt8) : ∀ n i first s, p.length - i ≤ n → (cls p i first s).2.length = s.length := by
  intro n
  induction n with
  | zero => intro i f s h; rw [cls, if_neg (by omega)]
  | succ n ih =>
    intro i f s h
    rw [cls]
    split
    · split
      · rw [ih _ _ _ (by omega), fillN_length]
      · rw [ih _ _ _ (by omega)]; simp
    · rfl
theorem cls_stop {p i first s} (h : ¬(i < p.length ∧ (first = true ∨ by8 p i ≠ 93))) : cls p i first s = (i, s) := by rw [cls, if_neg h]
theorem cls_range {p i first s} (h : i < p.length ∧ (first = true ∨ by8 p i ≠ 93)) (h2 : i + 2 < p.length ∧ by8 p (i + 1) = 45 ∧ by8 p (i + 2) ≠ 93) :
    cls p i first s = cls p (i + 3) false (fillN (by8 p (i + 2) + 1 - by8 p i) (by8 p i) s) := by rw [cls, if_pos h, if_pos h2]
theorem cls_one {p i first s} (h : i < p.length ∧ (first = true ∨ by8 p i ≠ 93)) (h2 : ¬(i + 2 < p.length ∧ by8 p (i + 1) = 45 ∧ by8 p (i + 2) ≠ 93)) :
    cls p i first s = cls p (i + 1) false (s.set (by8 p i) true) := by rw [cls, if_pos h, if_neg h2]
theorem impl_class_eq (p : List UInt8) (hp : p.length ≤ 60) : m_impl_class p = some (if (clsR p).1 ≥ p.length then (none, 0, ()) else (some (4, clsNot p, (clsR p).2), (((clsR p).1 + 1 : Nat) : Int), ()), ()) := by
  unfold m_impl_class
  rw [hasPrefix_eq, take1 p 33 33 rfl]
  show Option.bind (some (clsNot p, ())) _ = _
  rw [Option.bind_some]
  have key : ∀ (nt : Bool) (i : Nat) (hi : i ≤ p.length + 1) (st : (List UInt8 × Unit × Int × Unit) × (Int × Bool × List Bool) × Unit), st = ((p, (), (i : Int), ()), (4, nt, List.replicate 256 false), ()) → ∀ R, R = cls p i true (List.replicate 256 false) → True := fun _ _ _ _ _ _ _ => trivial
  rw [show (bif clsNot p then some ((p, (), IntKind.wrap IntKind.i64 ((0 : Int) + (1 : Int)), ()), ((4 : Int), true, List.replicate (256 : Nat) false), ()) else some ((p, (), (0 : Int), ()), ((4 : Int), false, List.replicate (256 : Nat) false), ()) : Option ((List UInt8 × Unit × Int × Unit) × (Int × Bool × List Bool) × Unit)) = some ((p, (), (((if clsNot p = true then 1 else 0) : Nat) : Int), ()), (4, clsNot p, List.replicate 256 false), ()) from by cases clsNot p <;> rfl]
  rw [Option.bind_some]
  have hcl : ∀ (r : Nat × List Bool), clsR p = r → True := fun _ _ => trivial
  generalize hi0 : (if clsNot p = true then 1 else 0 : Nat) = i0
  have hR : clsR p = cls p i0 true (List.replicate 256 false) := by rw [← hi0]; rfl
  rw [hR]
  have hi0' : i0 ≤ 1 := by rw [← hi0]; split <;> omega
  refine (loopC_inv _
    (fun n s => ∃ i first set, s = ((p, (), ((i : Nat) : Int), first, ()), (4, clsNot p, set), ()) ∧ set.length = 256 ∧ i ≤ 64 ∧ n = p.length - i)
    (fun s => some (if (cls p s.1.2.2.1.toNat s.1.2.2.2.1 s.2.1.2.2).1 ≥ p.length then (none, 0, ()) else (some (4, clsNot p, (cls p s.1.2.2.1.toNat s.1.2.2.2.1 s.2.1.2.2).2), (((cls p s.1.2.2.1.toNat s.1.2.2.2.1 s.2.1.2.2).1 + 1 : Nat) : Int), ()), ())) ?_ _ (p.length - i0) _ ?_ ?_).trans ?_
  · rintro n s k ⟨i, first, set, rfl, hs, hi, rfl⟩ hk
    dsimp only
    rw [Int.toNat_natCast]
    have w1 : IntKind.wrap IntKind.i64 ((i : Int) + 1) = ((i + 1 : Nat) : Int) := by rw [wr _ (by omega)]; omega
    have w2 : IntKind.wrap IntKind.i64 (((i + 1 : Nat) : Int) + 1) = ((i + 2 : Nat) : Int) := by rw [wr _ (by omega)]; omega
    have w3 : IntKind.wrap IntKind.i64 (((i + 1 : Nat) : Int) + 2) = ((i + 3 : Nat) : Int) := by rw [wr _ (by omega)]; omega
    have wb : ∀ j : Nat, IntKind.wrap IntKind.i64 (((UInt8.toNat (p.getD j 0)) : Nat) : Int) = (by8 p j : Int) := by
      intro j; have := by8_lt p j; unfold by8 at *; rw [wr _ (by omega)]
    have wb' : ∀ j : Nat, (((UInt8.toNat (p.getD j 0)) : Nat) : Int) = (by8 p j : Int) := fun j => rfl
    have wv : ∀ j : Nat, IntKind.wrap IntKind.i64 (by8 p j : Int) = (by8 p j : Int) := wb
    have ne93 : ∀ j : Nat, (((by8 p j : Nat) : Int) != 93) = decide (by8 p j ≠ 93) := by
      intro j; by_cases h : by8 p j = 93
      · rw [h]; rfl
      · rw [decide_eq_true h, bne_iff_ne]; omega
    have eq45 : ∀ j : Nat, (((by8 p j : Nat) : Int) == 45) = decide (by8 p j = 45) := by
      intro j; by_cases h : by8 p j = 45
      · rw [h]; rfl
      · rw [decide_eq_false h, beq_eq_false_iff_ne]; omega
    simp only [w1, w2, Int.toNat_natCast, wb, wb', wv, ne93, eq45]
    by_cases hc : i < p.length ∧ (first = true ∨ by8 p i ≠ 93)
    · obtain ⟨hl, hf⟩ := hc
      have hg : (0 : Int) ≤ (i : Int) ∧ (i : Int) < (p.length : Int) := by omega
      have hd : decide ((i : Int) < (p.length : Int)) = true := decide_eq_true hg.2
      have step1 : (bif first then some ((p, (), (i : Int), true, ()), ((4 : Int), clsNot p, set), ()) else some ((p, (), (i : Int), decide (by8 p i ≠ 93), ()), ((4 : Int), clsNot p, set), ()) : Option ((List UInt8 × Unit × Int × Bool × Unit) × (Int × Bool × List Bool) × Unit)) = some ((p, (), (i : Int), true, ()), (4, clsNot p, set), ()) := by
        rcases hf with rfl | h
        · rfl
        · rw [decide_eq_true h]; cases first <;> rfl
      rw [hd]
      simp only [cond_true, if_pos hg, step1, Option.bind_some, w1, w2, Int.toNat_natCast, wb, wb', wv, ne93, eq45]
      by_cases hr : i + 2 < p.length ∧ by8 p (i + 1) = 45 ∧ by8 p (i + 2) ≠ 93
      · rw [cls_range ⟨hl, hf⟩ hr]
        have d1 : decide (((i + 2 : Nat) : Int) < (p.length : Int)) = true := decide_eq_true (by omega)
        have g1 : (0 : Int) ≤ ((i + 1 : Nat) : Int) ∧ ((i + 1 : Nat) : Int) < (p.length : Int) := by omega
        have g2 : (0 : Int) ≤ ((i + 2 : Nat) : Int) ∧ ((i + 2 : Nat) : Int) < (p.length : Int) := by omega
        rw [d1]
        simp only [cond_true, if_pos g1, if_pos g2, decide_eq_true hr.2.1, decide_eq_true hr.2.2, Option.bind_some, w2, w3, Int.toNat_natCast, wb]
        refine (loopC_inv _
          (fun n s => ∃ (lo : Nat) (set' : List Bool), s = ((p, (), ((i + 3 : Nat) : Int), (by8 p (i + 2) : Int), (lo : Int), ()), (4, clsNot p, set'), ()) ∧ set'.length = 256 ∧ lo ≤ 257 ∧ n = by8 p (i + 2) + 1 - lo)
          (fun s => k ((p, (), ((i + 3 : Nat) : Int), false, ()), (4, clsNot p, fillN (by8 p (i + 2) + 1 - s.1.2.2.2.2.1.toNat) s.1.2.2.2.2.1.toNat s.2.1.2.2), ())) ?_ _ (by8 p (i + 2) + 1 - by8 p i) _ ?_ ?_).trans ?_
        · rintro n s k1 ⟨lo, set', rfl, hs', hlo, rfl⟩ hk1
          dsimp only
          have wlo : IntKind.wrap IntKind.i64 ((lo : Int) + 1) = ((lo + 1 : Nat) : Int) := by rw [wr _ (by omega)]; omega
          by_cases hle : lo ≤ by8 p (i + 2)
          · have hlt : by8 p (i + 2) < 256 := by8_lt _ _
            have c1 : (0 : Int) ≤ (lo : Int) ∧ (lo : Int) < ((256 : Nat) : Int) ∧ (lo : Int) < (set'.length : Int) := by omega
            have c2 : lo < set'.length := by omega
            rw [decide_eq_true (show ((lo : Int) ≤ (by8 p (i + 2) : Int)) by omega), cond_true, if_pos c1]
            simp only [Int.toNat_natCast, if_pos c2, wlo]
            rw [hk1 (by8 p (i + 2) + 1 - (lo + 1)) _ (by omega) ⟨lo + 1, _, rfl, by rw [List.length_set]; exact hs', by omega, rfl⟩]
            simp only [Int.toNat_natCast]
            rw [show by8 p (i + 2) + 1 - lo = (by8 p (i + 2) + 1 - (lo + 1)) + 1 by omega, fillN]
          · rw [decide_eq_false (show ¬((lo : Int) ≤ (by8 p (i + 2) : Int)) by omega), cond_false]
            simp only [Int.toNat_natCast]
            rw [show by8 p (i + 2) + 1 - lo = 0 by omega, fillN]
        · exact ⟨by8 p i, set, rfl, hs, by have := by8_lt p i; omega, rfl⟩
        · have := by8_lt p i; have := by8_lt p (i + 2); try simp only [Int.toNat_natCast]
          omega
        · simp only [Int.toNat_natCast]
          rw [hk (p.length - (i + 3)) _ (by omega) ⟨i + 3, false, _, rfl, by rw [fillN_length]; exact hs, by omega, rfl⟩]
          simp only [Int.toNat_natCast]
      · rw [cls_one ⟨hl, hf⟩ hr]
        rw [show (bif decide (((i + 2 : Nat) : Int) < (p.length : Int)) then
            if (0 : Int) ≤ ((i + 1 : Nat) : Int) ∧ ((i + 1 : Nat) : Int) < (p.length : Int) then
              bif decide (by8 p (i + 1) = 45) then
                if (0 : Int) ≤ ((i + 2 : Nat) : Int) ∧ ((i + 2 : Nat) : Int) < (p.length : Int) then
                  some ((p, (), ((i + 1 : Nat) : Int), (by8 p i : Int), (by8 p i : Int), decide (by8 p (i + 2) ≠ 93), ()), ((4 : Int), clsNot p, set), ())
                else none
              else some ((p, (), ((i + 1 : Nat) : Int), (by8 p i : Int), (by8 p i : Int), false, ()), ((4 : Int), clsNot p, set), ())
            else none
          else some ((p, (), ((i + 1 : Nat) : Int), (by8 p i : Int), (by8 p i : Int), false, ()), ((4 : Int), clsNot p, set), ()) : Option ((List UInt8 × Unit × Int × Int × Int × Bool × Unit) × (Int × Bool × List Bool) × Unit)) = some ((p, (), ((i + 1 : Nat) : Int), (by8 p i : Int), (by8 p i : Int), false, ()), ((4 : Int), clsNot p, set), ()) from by
          by_cases a1 : i + 2 < p.length
          · have d1 : decide (((i + 2 : Nat) : Int) < (p.length : Int)) = true := decide_eq_true (by omega)
            have g1 : (0 : Int) ≤ ((i + 1 : Nat) : Int) ∧ ((i + 1 : Nat) : Int) < (p.length : Int) := by omega
            have g2 : (0 : Int) ≤ ((i + 2 : Nat) : Int) ∧ ((i + 2 : Nat) : Int) < (p.length : Int) := by omega
            rw [d1]; simp only [cond_true, if_pos g1, if_pos g2]
            by_cases a2 : by8 p (i + 1) = 45
            · have a3 : ¬ by8 p (i + 2) ≠ 93 := fun h => hr ⟨a1, a2, h⟩
              rw [decide_eq_true a2, decide_eq_false a3]; rfl
            · rw [decide_eq_false a2]; rfl
          · have d1 : decide (((i + 2 : Nat) : Int) < (p.length : Int)) = false := decide_eq_false (by omega)
            rw [d1]; rfl]
        simp only [Option.bind_some, cond_false]
        refine (loopC_inv _
          (fun n s => ∃ (lo : Nat) (set' : List Bool), s = ((p, (), ((i + 1 : Nat) : Int), (by8 p (i) : Int), (lo : Int), ()), (4, clsNot p, set'), ()) ∧ set'.length = 256 ∧ lo ≤ 257 ∧ n = by8 p (i) + 1 - lo)
          (fun s => k ((p, (), ((i + 1 : Nat) : Int), false, ()), (4, clsNot p, fillN (by8 p (i) + 1 - s.1.2.2.2.2.1.toNat) s.1.2.2.2.2.1.toNat s.2.1.2.2), ())) ?_ _ (by8 p (i) + 1 - by8 p i) _ ?_ ?_).trans ?_
        · rintro n s k1 ⟨lo, set', rfl, hs', hlo, rfl⟩ hk1
          dsimp only
          have wlo : IntKind.wrap IntKind.i64 ((lo : Int) + 1) = ((lo + 1 : Nat) : Int) := by rw [wr _ (by omega)]; omega
          by_cases hle : lo ≤ by8 p (i)
          · have hlt : by8 p (i) < 256 := by8_lt _ _
            have c1 : (0 : Int) ≤ (lo : Int) ∧ (lo : Int) < ((256 : Nat) : Int) ∧ (lo : Int) < (set'.length : Int) := by omega
            have c2 : lo < set'.length := by omega
            rw [decide_eq_true (show ((lo : Int) ≤ (by8 p (i) : Int)) by omega), cond_true, if_pos c1]
            simp only [Int.toNat_natCast, if_pos c2, wlo]
            rw [hk1 (by8 p (i) + 1 - (lo + 1)) _ (by omega) ⟨lo + 1, _, rfl, by rw [List.length_set]; exact hs', by omega, rfl⟩]
            simp only [Int.toNat_natCast]
            rw [show by8 p (i) + 1 - lo = (by8 p (i) + 1 - (lo + 1)) + 1 by omega, fillN]
          · rw [decide_eq_false (show ¬((lo : Int) ≤ (by8 p (i) : Int)) by omega), cond_false]
            simp only [Int.toNat_natCast]
            rw [show by8 p (i) + 1 - lo = 0 by omega, fillN]
        · exact ⟨by8 p i, set, rfl, hs, by have := by8_lt p i; omega, rfl⟩
        · have := by8_lt p i; have := by8_lt p (i); try simp only [Int.toNat_natCast]
          omega
        · simp only [Int.toNat_natCast]
          rw [show by8 p i + 1 - by8 p i = 0 + 1 by omega, fillN, fillN]
          rw [hk (p.length - (i + 1)) _ (by omega) ⟨i + 1, false, _, rfl, by rw [List.length_set]; exact hs, by omega, rfl⟩]
          simp only [Int.toNat_natCast]
    · rw [cls_stop hc]
      have step1 : (bif decide ((i : Int) < (p.length : Int)) then bif first then some ((p, (), (i : Int), true, ()), ((4 : Int), clsNot p, set), ()) else if (0 : Int) ≤ (i : Int) ∧ (i : Int) < (p.length : Int) then some ((p, (), (i : Int), decide (by8 p i ≠ 93), ()), ((4 : Int), clsNot p, set), ()) else none else some ((p, (), (i : Int), false, ()), ((4 : Int), clsNot p, set), ()) : Option ((List UInt8 × Unit × Int × Bool × Unit) × (Int × Bool × List Bool) × Unit)) = some ((p, (), (i : Int), false, ()), (4, clsNot p, set), ()) := by
        by_cases hl : i < p.length
        · rw [decide_eq_true (show ((i : Int) < (p.length : Int)) by omega), cond_true, if_pos (show (0 : Int) ≤ (i : Int) ∧ (i : Int) < (p.length : Int) by omega)]
          have hf : first = false := by cases first; rfl; exact absurd ⟨hl, Or.inl rfl⟩ hc
          have h9 : ¬ by8 p i ≠ 93 := fun h => hc ⟨hl, Or.inr h⟩
          rw [hf, decide_eq_false h9]; rfl
        · rw [decide_eq_false (show ¬((i : Int) < (p.length : Int)) by omega)]; rfl
      rw [step1]
      simp only [Option.bind_some, cond_false]
      by_cases hl : i ≥ p.length
      · rw [decide_eq_true (show (i : Int) ≥ (p.length : Int) by omega), if_pos hl]; rfl
      · rw [decide_eq_false (show ¬((i : Int) ≥ (p.length : Int)) by omega), if_neg hl, cond_false, w1]
  · exact ⟨i0, true, _, rfl, List.length_replicate .., by omega, rfl⟩
  · simp only []; omega
  · simp only [Int.toNat_natCast]
theorem spec_class_eq (p : List UInt8) (hp : p.length ≤ 60) : m_spec_l08Class p = some (if (clsR p).1 ≥ p.length then ((0, 0, false, []), 0, ()) else ((2, 0, clsNot p, (clsR p).2), (((clsR p).1 + 1 : Nat) : Int), ()), ()) := by
  unfold m_spec_l08Class
  have wb : ∀ j : Nat, IntKind.wrap IntKind.i64 (((UInt8.toNat (p.getD j 0)) : Nat) : Int) = (by8 p j : Int) := by
    intro j; have := by8_lt p j; unfold by8 at *; rw [wr _ (by omega)]
  have wb' : ∀ j : Nat, (((UInt8.toNat (p.getD j 0)) : Nat) : Int) = (by8 p j : Int) := fun j => rfl
  have wv : ∀ j : Nat, IntKind.wrap IntKind.i64 (by8 p j : Int) = (by8 p j : Int) := wb
  have ne93 : ∀ j : Nat, (((by8 p j : Nat) : Int) != 93) = decide (by8 p j ≠ 93) := by
    intro j; by_cases h : by8 p j = 93
    · rw [h]; rfl
    · rw [decide_eq_true h, bne_iff_ne]; omega
  have eq45 : ∀ j : Nat, (((by8 p j : Nat) : Int) == 45) = decide (by8 p j = 45) := by
    intro j; by_cases h : by8 p j = 45
    · rw [h]; rfl
    · rw [decide_eq_false h, beq_eq_false_iff_ne]; omega
  have eq33 : ∀ j : Nat, (((by8 p j : Nat) : Int) == 33) = (by8 p j == 33) := by
    intro j; by_cases h : by8 p j = 33
    · rw [h]; rfl
    · rw [beq_eq_false_iff_ne.mpr h, beq_eq_false_iff_ne]; omega
  refine (loopC_inv _
    (fun n s => ∃ (i : Nat), s = ((p, (), (), (i : Int), ()), (0, 0, false, (), ()), (2, 0, false, (), ()), List.replicate i false, ()) ∧ i ≤ 256 ∧ n = 256 - i)
    (fun _ => some (if (clsR p).1 ≥ p.length then ((0, 0, false, []), 0, ()) else ((2, 0, clsNot p, (clsR p).2), (((clsR p).1 + 1 : Nat) : Int), ()), ())) ?_ _ 256 _ ?_ ?_).trans rfl
  · rintro n s k ⟨i, rfl, hi, rfl⟩ hk
    dsimp only
    by_cases hlt : i < 256
    · rw [decide_eq_true (show (i : Int) < 256 by omega), cond_true, if_pos (by rw [List.length_replicate]; show (i + 1) * 1 ≤ _; omega)]
      rw [wr _ (by omega)]
      rw [hk (256 - (i + 1)) _ (by omega) ⟨i + 1, by rw [List.replicate_succ']; rfl, by omega, rfl⟩]
    · have : i = 256 := by omega
      subst this
      rw [decide_eq_false (by omega), cond_false]
      have e1 : (bif decide ((0 : Int) < (p.length : Int)) then
            if (0 : Int) ≤ (0 : Int) ∧ (0 : Int) < (p.length : Int) then
              some ((p, (), (), (0 : Int), (((by8 p 0 : Nat) : Int) == 33), ()), ((0 : Int), (0 : Int), false, (), ()), ((2 : Int), (0 : Int), false, (), ()), List.replicate 256 false, ())
            else none
          else some ((p, (), (), (0 : Int), false, ()), ((0 : Int), (0 : Int), false, (), ()), ((2 : Int), (0 : Int), false, (), ()), List.replicate 256 false, ()) : Option ((List UInt8 × Unit × Unit × Int × Bool × Unit) × (Int × Int × Bool × Unit × Unit) × (Int × Int × Bool × Unit × Unit) × List Bool × Unit))
          = some ((p, (), (), (0 : Int), clsNot p, ()), ((0 : Int), (0 : Int), false, (), ()), ((2 : Int), (0 : Int), false, (), ()), List.replicate 256 false, ()) := by
        unfold clsNot
        by_cases h : 1 ≤ p.length
        · rw [decide_eq_true (show (0 : Int) < (p.length : Int) by omega), cond_true, if_pos (by omega), decide_eq_true h, eq33]; rfl
        · rw [decide_eq_false (show ¬(0 : Int) < (p.length : Int) by omega), decide_eq_false h]; rfl
      simp only [Int.toNat_zero, wb']
      rw [e1]
      simp only [Option.bind_some]
      rw [show (bif clsNot p then some ((p, (), (), IntKind.wrap IntKind.i64 ((0 : Int) + (1 : Int)), ()), ((0 : Int), (0 : Int), false, (), ()), ((2 : Int), (0 : Int), true, (), ()), List.replicate 256 false, ())
          else some ((p, (), (), (0 : Int), ()), ((0 : Int), (0 : Int), false, (), ()), ((2 : Int), (0 : Int), false, (), ()), List.replicate 256 false, ()) : Option ((List UInt8 × Unit × Unit × Int × Unit) × (Int × Int × Bool × Unit × Unit) × (Int × Int × Bool × Unit × Unit) × List Bool × Unit))
        = some ((p, (), (), (((if clsNot p = true then 1 else 0) : Nat) : Int), ()), ((0 : Int), (0 : Int), false, (), ()), ((2 : Int), (0 : Int), clsNot p, (), ()), List.replicate 256 false, ()) from by cases clsNot p <;> rfl]
      rw [Option.bind_some]
      generalize hi0 : (if clsNot p = true then 1 else 0 : Nat) = i0
      have hR : clsR p = cls p i0 true (List.replicate 256 false) := by rw [← hi0]; rfl
      rw [hR]
      have hi0' : i0 ≤ 1 := by rw [← hi0]; split <;> omega
      refine (loopC_inv _
        (fun n s => ∃ (i : Nat) (first : Bool) (set : List Bool), s = ((p, (), (), (i : Int), first, ()), (0, 0, false, (), ()), (2, 0, clsNot p, (), ()), set, ()) ∧ set.length = 256 ∧ i ≤ 64 ∧ n = p.length - i)
        (fun s => some (if (cls p s.1.2.2.2.1.toNat s.1.2.2.2.2.1 s.2.2.2.1).1 ≥ p.length then ((0, 0, false, []), 0, ()) else ((2, 0, clsNot p, (cls p s.1.2.2.2.1.toNat s.1.2.2.2.2.1 s.2.2.2.1).2), (((cls p s.1.2.2.2.1.toNat s.1.2.2.2.2.1 s.2.2.2.1).1 + 1 : Nat) : Int), ()), ())) ?_ _ (p.length - i0) _ ?_ ?_).trans ?_
      · clear hk e1
        rintro n s k ⟨i, first, set, rfl, hs, hi, rfl⟩ hk
        have w1 : IntKind.wrap IntKind.i64 ((i : Int) + 1) = ((i + 1 : Nat) : Int) := by rw [wr _ (by omega)]; omega
        have w2 : IntKind.wrap IntKind.i64 ((i : Int) + 2) = ((i + 2 : Nat) : Int) := by rw [wr _ (by omega)]; omega
        have w3 : IntKind.wrap IntKind.i64 ((i : Int) + 3) = ((i + 3 : Nat) : Int) := by rw [wr _ (by omega)]; omega
        dsimp only
        simp only [w1, w2, w3, Int.toNat_natCast, wb, wb', wv, ne93, eq45]
        by_cases hc : i < p.length ∧ (first = true ∨ by8 p i ≠ 93)
        · obtain ⟨hl, hf⟩ := hc
          have hg : (0 : Int) ≤ (i : Int) ∧ (i : Int) < (p.length : Int) := by omega
          have hd : decide ((i : Int) < (p.length : Int)) = true := decide_eq_true hg.2
          have step1 : (bif first then some ((p, (), (), (i : Int), true, ()), ((0 : Int), (0 : Int), false, (), ()), ((2 : Int), (0 : Int), clsNot p, (), ()), set, ()) else some ((p, (), (), (i : Int), decide (by8 p i ≠ 93), ()), ((0 : Int), (0 : Int), false, (), ()), ((2 : Int), (0 : Int), clsNot p, (), ()), set, ()) : Option ((List UInt8 × Unit × Unit × Int × Bool × Unit) × (Int × Int × Bool × Unit × Unit) × (Int × Int × Bool × Unit × Unit) × List Bool × Unit)) = some ((p, (), (), (i : Int), true, ()), ((0 : Int), (0 : Int), false, (), ()), ((2 : Int), (0 : Int), clsNot p, (), ()), set, ()) := by
            rcases hf with rfl | h
            · rfl
            · rw [decide_eq_true h]; cases first <;> rfl
          rw [hd]
          simp only [cond_true, if_pos hg, step1, Option.bind_some, w1, w2, w3, Int.toNat_natCast, wb, wb', wv, ne93, eq45]
          by_cases hr : i + 2 < p.length ∧ by8 p (i + 1) = 45 ∧ by8 p (i + 2) ≠ 93
          · rw [cls_range ⟨hl, hf⟩ hr]
            have d1 : decide (((i + 2 : Nat) : Int) < (p.length : Int)) = true := decide_eq_true (by omega)
            have g1 : (0 : Int) ≤ ((i + 1 : Nat) : Int) ∧ ((i + 1 : Nat) : Int) < (p.length : Int) := by omega
            have g2 : (0 : Int) ≤ ((i + 2 : Nat) : Int) ∧ ((i + 2 : Nat) : Int) < (p.length : Int) := by omega
            rw [d1]
            simp only [cond_true, if_pos g1, if_pos g2, if_pos hg, decide_eq_true hr.2.1, decide_eq_true hr.2.2, Option.bind_some, w1, w2, w3, Int.toNat_natCast, wb, wb', wv]
            refine (congrArg (fun o => Option.bind o _) ((loopC_inv _
              (fun n s => ∃ (lo : Nat) (set' : List Bool), s = ((p, (), (), ((i : Nat) : Int), false, (lo : Int), ()), (0, 0, false, (), ()), (2, 0, clsNot p, (), ()), set', ()) ∧ set'.length = 256 ∧ lo ≤ 257 ∧ n = by8 p (i + 2) + 1 - lo)
              (fun s => some ((p, (), (), ((i + 3 : Nat) : Int), false, ()), (0, 0, false, (), ()), (2, 0, clsNot p, (), ()), fillN (by8 p (i + 2) + 1 - s.1.2.2.2.2.2.1.toNat) s.1.2.2.2.2.2.1.toNat s.2.2.2.1, ())) ?_ _ (by8 p (i + 2) + 1 - by8 p i) _ ?_ ?_))).trans ?_
            · rintro n s k1 ⟨lo, set', rfl, hs', hlo, rfl⟩ hk1
              dsimp only
              have wlo : IntKind.wrap IntKind.i64 ((lo : Int) + 1) = ((lo + 1 : Nat) : Int) := by rw [wr _ (by omega)]; omega
              simp only [cond_true, if_pos g2, w2, w3, Int.toNat_natCast, wb, wb', wv, wlo]
              by_cases hle : lo ≤ by8 p (i + 2)
              · have hlt : by8 p (i + 2) < 256 := by8_lt _ _
                have c1 : (0 : Int) ≤ (lo : Int) ∧ (lo : Int) < (set'.length : Int) := by omega
                have c2 : lo < set'.length := by omega
                rw [decide_eq_true (show ((lo : Int) ≤ (by8 p (i + 2) : Int)) by omega), cond_true, if_pos c1]
                rw [if_pos c2]
                rw [hk1 (by8 p (i + 2) + 1 - (lo + 1)) _ (by omega) ⟨lo + 1, _, rfl, by rw [List.length_set]; exact hs', by omega, rfl⟩]
                simp only [Int.toNat_natCast]
                rw [show by8 p (i + 2) + 1 - lo = (by8 p (i + 2) + 1 - (lo + 1)) + 1 by omega, fillN]
              · rw [decide_eq_false (show ¬((lo : Int) ≤ (by8 p (i + 2) : Int)) by omega), cond_false]
                rw [show by8 p (i + 2) + 1 - lo = 0 by omega, fillN]
            · exact ⟨by8 p i, set, rfl, hs, by have := by8_lt p i; omega, rfl⟩
            · have := by8_lt p i; have := by8_lt p (i + 2); try simp only [Int.toNat_natCast]
              omega
            · simp only [Int.toNat_natCast, Option.bind_some]
              rw [hk (p.length - (i + 3)) _ (by omega) ⟨i + 3, false, _, rfl, by rw [fillN_length]; exact hs, by omega, rfl⟩]
              simp only [Int.toNat_natCast]
          · rw [cls_one ⟨hl, hf⟩ hr]
            have e3 : ∀ (T : Type) (A B : T), (bif decide (((i + 2 : Nat) : Int) < (p.length : Int)) then
                if (0 : Int) ≤ ((i + 1 : Nat) : Int) ∧ ((i + 1 : Nat) : Int) < (p.length : Int) then
                  bif decide (by8 p (i + 1) = 45) then
                    if (0 : Int) ≤ ((i + 2 : Nat) : Int) ∧ ((i + 2 : Nat) : Int) < (p.length : Int) then
                      some ((p, (), (), (i : Int), false, decide (by8 p (i + 2) ≠ 93), ()), ((0 : Int), (0 : Int), false, (), ()), ((2 : Int), (0 : Int), clsNot p, (), ()), set, ())
                    else none
                  else some ((p, (), (), (i : Int), false, false, ()), ((0 : Int), (0 : Int), false, (), ()), ((2 : Int), (0 : Int), clsNot p, (), ()), set, ())
                else none
              else some ((p, (), (), (i : Int), false, false, ()), ((0 : Int), (0 : Int), false, (), ()), ((2 : Int), (0 : Int), clsNot p, (), ()), set, ()) : Option ((List UInt8 × Unit × Unit × Int × Bool × Bool × Unit) × (Int × Int × Bool × Unit × Unit) × (Int × Int × Bool × Unit × Unit) × List Bool × Unit)) = some ((p, (), (), (i : Int), false, false, ()), ((0 : Int), (0 : Int), false, (), ()), ((2 : Int), (0 : Int), clsNot p, (), ()), set, ()) := by
              intro _ _ _
              by_cases a1 : i + 2 < p.length
              · have d1 : decide (((i + 2 : Nat) : Int) < (p.length : Int)) = true := decide_eq_true (by omega)
                have g1 : (0 : Int) ≤ ((i + 1 : Nat) : Int) ∧ ((i + 1 : Nat) : Int) < (p.length : Int) := by omega
                have g2 : (0 : Int) ≤ ((i + 2 : Nat) : Int) ∧ ((i + 2 : Nat) : Int) < (p.length : Int) := by omega
                rw [d1]; simp only [cond_true, if_pos g1, if_pos g2]
                by_cases a2 : by8 p (i + 1) = 45
                · have a3 : ¬ by8 p (i + 2) ≠ 93 := fun h => hr ⟨a1, a2, h⟩
                  rw [decide_eq_true a2, decide_eq_false a3]; rfl
                · rw [decide_eq_false a2]; rfl
              · have d1 : decide (((i + 2 : Nat) : Int) < (p.length : Int)) = false := decide_eq_false (by omega)
                rw [d1]; rfl
            rw [e3 Unit () ()]
            have c1 : (0 : Int) ≤ (by8 p i : Int) ∧ (by8 p i : Int) < (set.length : Int) := by have := by8_lt p i; omega
            have c2 : by8 p i < set.length := by omega
            simp only [Option.bind_some, cond_false, if_pos hg, Int.toNat_natCast, wb', if_pos c1, if_pos c2, w1]
            rw [if_pos (show (p.getD i 0).toNat < set.length from c2), Option.bind_some]
            refine (hk (p.length - (i + 1)) _ (by omega) ⟨i + 1, false, set.set (by8 p i) true, rfl, by rw [List.length_set]; exact hs, by omega, rfl⟩).trans ?_
            simp only [Int.toNat_natCast]
        · rw [cls_stop hc]
          have step1 : (bif decide ((i : Int) < (p.length : Int)) then bif first then some ((p, (), (), (i : Int), true, ()), ((0 : Int), (0 : Int), false, (), ()), ((2 : Int), (0 : Int), clsNot p, (), ()), set, ()) else if (0 : Int) ≤ (i : Int) ∧ (i : Int) < (p.length : Int) then some ((p, (), (), (i : Int), decide (by8 p i ≠ 93), ()), ((0 : Int), (0 : Int), false, (), ()), ((2 : Int), (0 : Int), clsNot p, (), ()), set, ()) else none else some ((p, (), (), (i : Int), false, ()), ((0 : Int), (0 : Int), false, (), ()), ((2 : Int), (0 : Int), clsNot p, (), ()), set, ()) : Option ((List UInt8 × Unit × Unit × Int × Bool × Unit) × (Int × Int × Bool × Unit × Unit) × (Int × Int × Bool × Unit × Unit) × List Bool × Unit)) = some ((p, (), (), (i : Int), false, ()), ((0 : Int), (0 : Int), false, (), ()), ((2 : Int), (0 : Int), clsNot p, (), ()), set, ()) := by
            by_cases hl : i < p.length
            · rw [decide_eq_true (show ((i : Int) < (p.length : Int)) by omega), cond_true, if_pos (show (0 : Int) ≤ (i : Int) ∧ (i : Int) < (p.length : Int) by omega)]
              have hf : first = false := by cases first; rfl; exact absurd ⟨hl, Or.inl rfl⟩ hc
              have h9 : ¬ by8 p i ≠ 93 := fun h => hc ⟨hl, Or.inr h⟩
              rw [hf, decide_eq_false h9]; rfl
            · rw [decide_eq_false (show ¬((i : Int) < (p.length : Int)) by omega)]; rfl
          rw [step1]
          simp only [Option.bind_some, cond_false]
          by_cases hl : i ≥ p.length
          · rw [decide_eq_true (show (i : Int) ≥ (p.length : Int) by omega), if_pos hl]; rfl
          · rw [decide_eq_false (show ¬((i : Int) ≥ (p.length : Int)) by omega), if_neg hl, cond_false, w1]
      · exact ⟨i0, true, _, rfl, List.length_replicate .., by omega, rfl⟩
      · try simp only []
        omega
      · simp only [Int.toNat_natCast]
  · exact ⟨0, rfl, by omega, rfl⟩
  · try simp only []
    omega
open Go
inductive Pc where
  | byte (b : Nat) | any (b : Nat) | star (b : Nat) | stars (b : Nat) | cl (nt : Bool) (s : List Bool)
def Pc.S : Pc → Int × Int × Bool × List Bool
  | .byte b => (0, b, false, [])
  | .any b => (1, b, false, [])
  | .star b => (3, b, false, [])
  | .stars b => (4, b, false, [])
  | .cl nt s => (2, 0, nt, s)
def Pc.I : Pc → Int × Bool × List Bool
  | .byte b => (0, false, (List.replicate 256 false).set b true)
  | .any _ => (1, false, List.replicate 256 false)
  | .star _ => (2, false, List.replicate 256 false)
  | .stars _ => (3, false, List.replicate 256 false)
  | .cl nt s => (4, nt, s)
def pc1 (p : List UInt8) : Option (Pc × Nat) :=
  if (decide (2 ≤ p.length) && (p.take 2 == [42, 42])) = true then some (.stars (by8 p 0), 2)
  else if by8 p 0 = 42 then some (.star (by8 p 0), 1)
  else if by8 p 0 = 63 then some (.any (by8 p 0), 1)
  else if by8 p 0 = 91 then (if (clsR (p.drop 1)).1 ≥ (p.drop 1).length then none else some (.cl (clsNot (p.drop 1)) (clsR (p.drop 1)).2, 1 + ((clsR (p.drop 1)).1 + 1)))
  else if by8 p 0 = 92 then (if p.length < 2 then none else some (.byte (by8 p 1), 2))
  else some (.byte (by8 p 0), 1)
def pcs : Nat → List UInt8 → Option (List Pc)
  | 0, _ => some []
  | n + 1, p => if p.length = 0 then some [] else
    match pc1 p with
    | none => none
    | some (c, m) => (pcs n (p.drop m)).map (c :: ·)
theorem pc1_pos {p c m} (h : pc1 p = some (c, m)) (hp : 0 < p.length) : 1 ≤ m ∧ m ≤ p.length := by
  unfold pc1 at h
  split at h
  · next h1 =>
    simp only [Bool.and_eq_true, decide_eq_true_eq] at h1
    cases h; omega
  split at h
  · cases h; omega
  split at h
  · cases h; omega
  split at h
  · split at h
    · cases h
    · next h2 => cases h; rw [List.length_drop] at h2; omega
  split at h
  · split at h
    · cases h
    · cases h; omega
  · cases h; omega
theorem pcs_more : ∀ n p m, p.length ≤ n → n ≤ m → pcs m p = pcs n p := by
  intro n
  induction n with
  | zero => intro p m h _; cases m with
    | zero => rfl
    | succ m => rw [show pcs 0 p = some [] from rfl, pcs, if_pos (by omega)]
  | succ n ih =>
    intro p m h hm
    obtain ⟨m, rfl⟩ : ∃ m', m = m' + 1 := ⟨m - 1, by omega⟩
    rw [pcs, pcs]
    split
    · rfl
    · next h0 =>
      cases hc : pc1 p with
      | none => rfl
      | some x =>
        obtain ⟨c, k⟩ := x
        have := pc1_pos hc (by omega)
        simp only
        rw [ih (p.drop k) m (by rw [List.length_drop]; omega) (by omega)]
def pieces (p : List UInt8) : Option (List Pc) := pcs p.length p
theorem pieces_nil : pieces [] = some [] := rfl
theorem pieces_none {p} (hp : p.length ≠ 0) (h : pc1 p = none) : pieces p = none := by
  unfold pieces
  obtain ⟨n, hn⟩ : ∃ n, p.length = n + 1 := ⟨p.length - 1, by omega⟩
  rw [hn, pcs, if_neg hp, h]
theorem pieces_some {p c m} (hp : p.length ≠ 0) (h : pc1 p = some (c, m)) : pieces p = (pieces (p.drop m)).map (c :: ·) := by
  have := pc1_pos h (by omega)
  unfold pieces
  obtain ⟨n, hn⟩ : ∃ n, p.length = n + 1 := ⟨p.length - 1, by omega⟩
  rw [hn, pcs, if_neg hp, h]
  simp only
  rw [pcs_more (p.drop m).length (p.drop m) n (by omega) (by rw [List.length_drop]; omega)]
theorem joinC_inl {S α : Type} (s : S) (k : S → Option α) : joinC (some (.inl s)) k = k s := rfl
theorem joinC_inr {S α : Type} (a : α) (k : S → Option α) : joinC (some (.inr a)) k = some a := rfl
theorem joinC_none {S α : Type} (k : S → Option α) : joinC (none) k = none := rfl
theorem l01In_eq (a b c : Int) : m_spec_l01In a b c = some (decide (a ≥ b ∧ a ≤ c), ()) := by
  unfold m_spec_l01In
  by_cases h : a ≥ b <;> by_cases h2 : a ≤ c <;> simp [h, h2]
theorem within_eq (a b c : Int) : m_impl_within a b c = some (decide (a ≥ b ∧ a ≤ c), ()) := by
  unfold m_impl_within
  by_cases h : a ≥ b <;> by_cases h2 : a ≤ c <;> simp [h, h2]
theorem one_eq (p : List UInt8) (j : Nat) : m_impl_one (((p.getD j 0).toNat : Nat) : Int) = some ((Pc.byte (by8 p j)).I, ()) := by
  unfold m_impl_one
  have h := by8_lt p j
  have h1 : (0 : Int) ≤ (((p.getD j 0).toNat : Nat) : Int) ∧ (((p.getD j 0).toNat : Nat) : Int) < ((256 : Nat) : Int) ∧ (((p.getD j 0).toNat : Nat) : Int) < (((List.replicate 256 false).length : Nat) : Int) := by
    unfold by8 at h; rw [List.length_replicate]; omega
  rw [if_pos h1, Int.toNat_natCast, if_pos (by rw [List.length_replicate]; exact h)]
  rfl
theorem eqI (p : List UInt8) (j n : Nat) : ((((p.getD j 0).toNat : Nat) : Int) == (n : Int)) = decide (by8 p j = n) := by
  by_cases h : by8 p j = n
  · rw [decide_eq_true h, beq_iff_eq]; unfold by8 at h; omega
  · rw [decide_eq_false h, beq_eq_false_iff_ne]; unfold by8 at h; omega
theorem impl_pieces_eq (p : List UInt8) : m_impl_pieces p = some (if 1 ≤ p.length ∧ p.length ≤ 60 then (match pieces p with | none => ([], false, ()) | some l => (l.map Pc.I, true, ())) else ([], false, ()), ()) := by
  unfold m_impl_pieces
  rw [within_eq, Option.bind_some]
  by_cases hp : 1 ≤ p.length ∧ p.length ≤ 60
  · rw [decide_eq_true (show (p.length : Int) ≥ 1 ∧ (p.length : Int) ≤ 60 by omega), if_pos hp]
    simp only [Bool.not_true, cond_false]
    refine (loopC_inv _
      (fun n s => ∃ (q : List UInt8) (out : List (Int × Bool × List Bool)), s = ((q, (), ()), out, ()) ∧ q.length ≤ 60 ∧ out.length + q.length ≤ 60 ∧ n = q.length)
      (fun s => some (match pieces s.1.1 with | none => ([], false, ()) | some l => (s.2.1 ++ l.map Pc.I, true, ()), ())) ?_ _ p.length _ ?_ ?_).trans ?_
    · rintro n s k ⟨q, out, rfl, hq, ho, rfl⟩ hk
      dsimp only
      by_cases h0 : q.length = 0
      · have : q = [] := List.eq_nil_of_length_eq_zero h0
        subst this
        rw [pieces_nil]
        exact congrArg (fun l => some ((l, true, ()), ())) (List.append_nil out).symm
      · have hne : (!q == nilOf UInt8) = true := by cases q with
          | nil => exact absurd rfl h0
          | cons => rfl
        rw [hne, cond_true, hasPrefix_eq, Option.bind_some]
        have g0 : (0 : Int) ≤ 0 ∧ (0 : Int) < (q.length : Int) := by omega
        have hk' : ∀ (m : Nat) (c : Pc), pc1 q = some (c, m) → k ((List.drop m (List.take q.length q), (), ()), out ++ [c.I], ()) = some (match pieces q with | none => ([], false, ()) | some l => (out ++ l.map Pc.I, true, ()), ()) := by
          intro m c hc
          have := pc1_pos hc (by omega)
          rw [hk (q.drop m).length _ (by rw [List.length_drop]; omega) ⟨q.drop m, out ++ [c.I], by rw [List.take_length], by rw [List.length_drop]; omega, by rw [List.length_append, List.length_drop]; show out.length + 1 + _ ≤ _; omega, rfl⟩]
          rw [pieces_some h0 hc, List.take_length]
          cases pieces (q.drop m) with
          | none => rfl
          | some l => simp
        have gk : ∀ m c, pc1 q = some (c, m) → ((0 : Int) ≤ (m : Int) ∧ (m : Int) ≤ (q.length : Int) ∧ (q.length : Int) ≤ (q.length : Int)) := by
          intro m c hc; have := pc1_pos hc (by omega); omega
        have gl : ∀ x : Int × Bool × List Bool, (out.length + List.length [x]) * 8 ≤ 140737488355328 := by
          intro x; show (out.length + 1) * 8 ≤ _; omega
        have fin : ∀ (mi : Int) (m : Nat) (c : Pc) (x : Int × Bool × List Bool), mi = (m : Int) → x = c.I → pc1 q = some (c, m) →
            (if (0 : Int) ≤ mi ∧ mi ≤ (q.length : Int) ∧ (q.length : Int) ≤ (q.length : Int) then k ((List.drop (Int.toNat mi) (List.take (Int.toNat (q.length : Int)) q), (), ()), out ++ [x], ()) else none) = some (match pieces q with | none => ([], false, ()) | some l => (out ++ l.map Pc.I, true, ()), ()) := by
          intro mi m c x e1 e2 hc
          subst e1 e2
          rw [if_pos (gk _ _ hc), Int.toNat_natCast, Int.toNat_natCast]
          exact hk' m c hc
        have e42 : ((((q.getD 0 0).toNat : Nat) : Int) == (42 : Int)) = decide (by8 q 0 = 42) := eqI q 0 42
        have e63 : ((((q.getD 0 0).toNat : Nat) : Int) == (63 : Int)) = decide (by8 q 0 = 63) := eqI q 0 63
        have e91 : ((((q.getD 0 0).toNat : Nat) : Int) == (91 : Int)) = decide (by8 q 0 = 91) := eqI q 0 91
        have e92 : ((((q.getD 0 0).toNat : Nat) : Int) == (92 : Int)) = decide (by8 q 0 = 92) := eqI q 0 92
        have tz : Int.toNat (0 : Int) = 0 := rfl
        have t1 : Int.toNat (1 : Int) = 1 := rfl
        by_cases c1 : (decide (2 ≤ q.length) && (q.take 2 == [42, 42])) = true
        · have hc : pc1 q = some (.stars (by8 q 0), 2) := by unfold pc1; rw [if_pos c1]
          rw [show (decide ([(42 : UInt8), 42].length ≤ q.length) && (q.take [(42 : UInt8), 42].length == [42, 42])) = true from c1]
          simp only [cond_true, if_pos (gl _), joinC_inl]
          exact fin _ _ _ _ rfl rfl hc
        · rw [show (decide ([(42 : UInt8), 42].length ≤ q.length) && (q.take [(42 : UInt8), 42].length == [42, 42])) = false from eq_false_of_ne_true c1]
          simp only [cond_false, if_pos g0, tz, t1, e42, e63, e91, e92]
          by_cases c2 : by8 q 0 = 42
          · have hc : pc1 q = some (.star (by8 q 0), 1) := by unfold pc1; rw [if_neg c1, if_pos c2]
            simp only [decide_eq_true c2, cond_true, if_pos (gl _), joinC_inl]
            exact fin _ _ _ _ rfl rfl hc
          by_cases c3 : by8 q 0 = 63
          · have hc : pc1 q = some (.any (by8 q 0), 1) := by unfold pc1; rw [if_neg c1, if_neg c2, if_pos c3]
            simp only [decide_eq_false c2, cond_false, decide_eq_true c3, cond_true, if_pos (gl _), joinC_inl]
            exact fin _ _ _ _ rfl rfl hc
          by_cases c4 : by8 q 0 = 91
          · have g1 : (0 : Int) ≤ 1 ∧ (1 : Int) ≤ (q.length : Int) ∧ (q.length : Int) ≤ (q.length : Int) := by omega
            simp only [decide_eq_false c2, decide_eq_false c3, cond_false, decide_eq_true c4, cond_true, if_pos g1, Int.toNat_natCast, List.take_length]
            have hl : (q.drop 1).length ≤ 60 := by rw [List.length_drop]; omega
            rw [impl_class_eq _ hl, Option.bind_some]
            by_cases c5 : (clsR (q.drop 1)).1 ≥ (q.drop 1).length
            · have hc : pc1 q = none := by unfold pc1; rw [if_neg c1, if_neg c2, if_neg c3, if_pos c4, if_pos c5]
              rw [if_pos c5, pieces_none h0 hc]
              rfl
            · have hc : pc1 q = some (.cl (clsNot (q.drop 1)) (clsR (q.drop 1)).2, 1 + ((clsR (q.drop 1)).1 + 1)) := by unfold pc1; rw [if_neg c1, if_neg c2, if_neg c3, if_pos c4, if_neg c5]
              have := pc1_pos hc (by omega)
              rw [if_neg c5]
              simp only
              rw [show (((((clsR (q.drop 1)).1 + 1 : Nat) : Int)) == (0 : Int)) = false from by rw [beq_eq_false_iff_ne]; omega]
              simp only [cond_false, Option.bind_some, if_pos (gl _), joinC_inl]
              have := fin (IntKind.wrap IntKind.i64 ((1 : Int) + (((clsR (q.drop 1)).1 + 1 : Nat) : Int))) _ _ _ (by rw [wr _ (by omega)]; omega) rfl hc
              simp only [Int.toNat_natCast, List.take_length] at this
              exact this
          by_cases c5 : by8 q 0 = 92
          · simp only [decide_eq_false c2, decide_eq_false c3, decide_eq_false c4, cond_false, decide_eq_true c5, cond_true]
            by_cases c6 : q.length < 2
            · have hc : pc1 q = none := by unfold pc1; rw [if_neg c1, if_neg c2, if_neg c3, if_neg c4, if_pos c5, if_pos c6]
              rw [pieces_none h0 hc, decide_eq_true (show (q.length : Int) < 2 by omega)]
              rfl
            · have hc : pc1 q = some (.byte (by8 q 1), 2) := by unfold pc1; rw [if_neg c1, if_neg c2, if_neg c3, if_neg c4, if_pos c5, if_neg c6]
              rw [decide_eq_false (show ¬(q.length : Int) < 2 by omega)]
              simp only [cond_false]
              rw [if_pos (show (0 : Int) ≤ 1 ∧ (1 : Int) < (q.length : Int) by omega), one_eq, Option.bind_some]
              simp only [if_pos (gl _), joinC_inl]
              exact fin _ _ _ _ rfl rfl hc
          · have hc : pc1 q = some (.byte (by8 q 0), 1) := by unfold pc1; rw [if_neg c1, if_neg c2, if_neg c3, if_neg c4, if_neg c5]
            simp only [decide_eq_false c2, decide_eq_false c3, decide_eq_false c4, decide_eq_false c5, cond_false, one_eq, Option.bind_some, if_pos (gl _), joinC_inl]
            exact fin _ _ _ _ rfl rfl hc
    · exact ⟨p, [], rfl, by omega, by show 0 + _ ≤ _; omega, rfl⟩
    · show p.length < p.length + 0 + 300; omega
    · cases pieces p <;> simp [nilOf]
  · rw [decide_eq_false (by omega), if_neg hp]; rfl
theorem spec_pieces_eq (p : List UInt8) : m_spec_l08Pieces p = some (if 1 ≤ p.length ∧ p.length ≤ 60 then (match pieces p with | none => ([], false, ()) | some l => (l.map Pc.S, true, ())) else ([], false, ()), ()) := by
  unfold m_spec_l08Pieces
  rw [l01In_eq, Option.bind_some]
  by_cases hp : 1 ≤ p.length ∧ p.length ≤ 60
  · rw [decide_eq_true (show (p.length : Int) ≥ 1 ∧ (p.length : Int) ≤ 60 by omega), if_pos hp]
    simp only [Bool.not_true, cond_false]
    refine (loopC_inv _
      (fun n s => ∃ (q : List UInt8) (out : List (Int × Int × Bool × List Bool)), s = ((q, (), ()), out, ()) ∧ q.length ≤ 60 ∧ out.length + q.length ≤ 60 ∧ n = q.length)
      (fun s => some (match pieces s.1.1 with | none => ([], false, ()) | some l => (s.2.1 ++ l.map Pc.S, true, ()), ())) ?_ _ p.length _ ?_ ?_).trans ?_
    · rintro n s k ⟨q, out, rfl, hq, ho, rfl⟩ hk
      dsimp only
      by_cases h0 : q.length = 0
      · have : q = [] := List.eq_nil_of_length_eq_zero h0
        subst this
        rw [pieces_nil]
        exact congrArg (fun l => some ((l, true, ()), ())) (List.append_nil out).symm
      · have g0 : (0 : Int) ≤ 0 ∧ (0 : Int) < (q.length : Int) := by omega
        rw [decide_eq_true (show (q.length : Int) > 0 by omega), cond_true, if_pos g0]
        have hk' : ∀ (m : Nat) (c : Pc), pc1 q = some (c, m) → k ((List.drop m (List.take q.length q), (), ()), out ++ [c.S], ()) = some (match pieces q with | none => ([], false, ()) | some l => (out ++ l.map Pc.S, true, ()), ()) := by
          intro m c hc
          have := pc1_pos hc (by omega)
          rw [hk (q.drop m).length _ (by rw [List.length_drop]; omega) ⟨q.drop m, out ++ [c.S], by rw [List.take_length], by rw [List.length_drop]; omega, by rw [List.length_append, List.length_drop]; show out.length + 1 + _ ≤ _; omega, rfl⟩]
          rw [pieces_some h0 hc, List.take_length]
          cases pieces (q.drop m) with
          | none => rfl
          | some l => simp
        have gk : ∀ m c, pc1 q = some (c, m) → ((0 : Int) ≤ (m : Int) ∧ (m : Int) ≤ (q.length : Int) ∧ (q.length : Int) ≤ (q.length : Int)) := by
          intro m c hc; have := pc1_pos hc (by omega); omega
        have gl : ∀ x : Int × Int × Bool × List Bool, (out.length + List.length [x]) * 40 ≤ 140737488355328 := by
          intro x; show (out.length + 1) * 40 ≤ _; omega
        have fin : ∀ (mi : Int) (m : Nat) (c : Pc) (x : Int × Int × Bool × List Bool), mi = (m : Int) → x = c.S → pc1 q = some (c, m) →
            (if (0 : Int) ≤ mi ∧ mi ≤ (q.length : Int) ∧ (q.length : Int) ≤ (q.length : Int) then k ((List.drop (Int.toNat mi) (List.take (Int.toNat (q.length : Int)) q), (), ()), out ++ [x], ()) else none) = some (match pieces q with | none => ([], false, ()) | some l => (out ++ l.map Pc.S, true, ()), ()) := by
          intro mi m c x e1 e2 hc
          subst e1 e2
          rw [if_pos (gk _ _ hc), Int.toNat_natCast, Int.toNat_natCast]
          exact hk' m c hc
        have e42 : ((((q.getD 0 0).toNat : Nat) : Int) == (42 : Int)) = decide (by8 q 0 = 42) := eqI q 0 42
        have e63 : ((((q.getD 0 0).toNat : Nat) : Int) == (63 : Int)) = decide (by8 q 0 = 63) := eqI q 0 63
        have e91 : ((((q.getD 0 0).toNat : Nat) : Int) == (91 : Int)) = decide (by8 q 0 = 91) := eqI q 0 91
        have e92 : ((((q.getD 0 0).toNat : Nat) : Int) == (92 : Int)) = decide (by8 q 0 = 92) := eqI q 0 92
        have tz : Int.toNat (0 : Int) = 0 := rfl
        have t1 : Int.toNat (1 : Int) = 1 := rfl
        have t2 : Int.toNat (2 : Int) = 2 := rfl
        have es : ∀ X : Int × Int × Bool × Unit × Unit, (bif decide ((q.length : Int) > 1) then
            if (0 : Int) ≤ (0 : Int) ∧ (0 : Int) ≤ (2 : Int) ∧ (2 : Int) ≤ (q.length : Int) then
              some ((q, (), (1 : Int), (), List.take 2 q == [(42 : UInt8), (42 : UInt8)], ()), out, X, ())
            else none
          else some ((q, (), (1 : Int), (), false, ()), out, X, ()) : Option ((List UInt8 × Unit × Int × Unit × Bool × Unit) × List (Int × Int × Bool × List Bool) × (Int × Int × Bool × Unit × Unit) × Unit))
          = some ((q, (), (1 : Int), (), (decide (2 ≤ q.length) && (q.take 2 == [42, 42])), ()), out, X, ()) := by
          intro X
          by_cases h : 2 ≤ q.length
          · rw [decide_eq_true (show (q.length : Int) > 1 by omega), cond_true, if_pos (by omega), decide_eq_true h, Bool.true_and]
          · rw [decide_eq_false (show ¬(q.length : Int) > 1 by omega), decide_eq_false h]; rfl
        simp only [tz, t2, List.drop_zero]
        rw [es, Option.bind_some]
        simp only [tz]
        by_cases c1 : (decide (2 ≤ q.length) && (q.take 2 == [42, 42])) = true
        · have hc : pc1 q = some (.stars (by8 q 0), 2) := by unfold pc1; rw [if_pos c1]
          rw [c1]
          simp only [cond_true, joinC_inl, if_pos (gl _)]
          exact fin _ _ _ _ rfl rfl hc
        · rw [eq_false_of_ne_true c1]
          simp only [cond_false, if_pos g0, tz, t1, e42, e63, e91, e92]
          by_cases c2 : by8 q 0 = 42
          · have hc : pc1 q = some (.star (by8 q 0), 1) := by unfold pc1; rw [if_neg c1, if_pos c2]
            simp only [decide_eq_true c2, cond_true, if_pos (gl _), joinC_inl]
            exact fin _ _ _ _ rfl rfl hc
          by_cases c3 : by8 q 0 = 63
          · have hc : pc1 q = some (.any (by8 q 0), 1) := by unfold pc1; rw [if_neg c1, if_neg c2, if_pos c3]
            simp only [decide_eq_false c2, cond_false, decide_eq_true c3, cond_true, if_pos (gl _), joinC_inl]
            exact fin _ _ _ _ rfl rfl hc
          by_cases c4 : by8 q 0 = 91
          · have g1 : (0 : Int) ≤ 1 ∧ (1 : Int) ≤ (q.length : Int) ∧ (q.length : Int) ≤ (q.length : Int) := by omega
            simp only [decide_eq_false c2, decide_eq_false c3, cond_false, decide_eq_true c4, cond_true, if_pos g1, Int.toNat_natCast, List.take_length]
            have hl : (q.drop 1).length ≤ 60 := by rw [List.length_drop]; omega
            rw [spec_class_eq _ hl, Option.bind_some]
            by_cases c5 : (clsR (q.drop 1)).1 ≥ (q.drop 1).length
            · have hc : pc1 q = none := by unfold pc1; rw [if_neg c1, if_neg c2, if_neg c3, if_pos c4, if_pos c5]
              rw [if_pos c5, pieces_none h0 hc]
              rfl
            · have hc : pc1 q = some (.cl (clsNot (q.drop 1)) (clsR (q.drop 1)).2, 1 + ((clsR (q.drop 1)).1 + 1)) := by unfold pc1; rw [if_neg c1, if_neg c2, if_neg c3, if_pos c4, if_neg c5]
              have := pc1_pos hc (by omega)
              rw [if_neg c5]
              simp only
              rw [show (((((clsR (q.drop 1)).1 + 1 : Nat) : Int)) == (0 : Int)) = false from by rw [beq_eq_false_iff_ne]; omega]
              simp only [cond_false, Option.bind_some, if_pos (gl _), joinC_inl]
              have := fin (IntKind.wrap IntKind.i64 ((1 : Int) + (((clsR (q.drop 1)).1 + 1 : Nat) : Int))) _ _ _ (by rw [wr _ (by omega)]; omega) rfl hc
              simp only [Int.toNat_natCast, List.take_length] at this
              exact this
          by_cases c5 : by8 q 0 = 92
          · simp only [decide_eq_false c2, decide_eq_false c3, decide_eq_false c4, cond_false, decide_eq_true c5, cond_true]
            by_cases c6 : q.length < 2
            · have hc : pc1 q = none := by unfold pc1; rw [if_neg c1, if_neg c2, if_neg c3, if_neg c4, if_pos c5, if_pos c6]
              have : ((q.length : Int) == (1 : Int)) = true := by rw [beq_iff_eq]; omega
              rw [pieces_none h0 hc, this]
              rfl
            · have hc : pc1 q = some (.byte (by8 q 1), 2) := by unfold pc1; rw [if_neg c1, if_neg c2, if_neg c3, if_neg c4, if_pos c5, if_neg c6]
              have : ((q.length : Int) == (1 : Int)) = false := by rw [beq_eq_false_iff_ne]; omega
              rw [this]
              simp only [cond_false]
              rw [if_pos (show (0 : Int) ≤ 1 ∧ (1 : Int) < (q.length : Int) by omega)]
              simp only [if_pos (gl _), joinC_inl]
              exact fin _ _ _ _ rfl rfl hc
          · have hc : pc1 q = some (.byte (by8 q 0), 1) := by unfold pc1; rw [if_neg c1, if_neg c2, if_neg c3, if_neg c4, if_neg c5]
            simp only [decide_eq_false c2, decide_eq_false c3, decide_eq_false c4, decide_eq_false c5, cond_false, if_pos (gl _), joinC_inl]
            exact fin _ _ _ _ rfl rfl hc
    · exact ⟨p, [], rfl, by omega, by show 0 + _ ≤ _; omega, rfl⟩
    · show p.length < p.length + 0 + 300; omega
    · cases pieces p <;> simp [nilOf]
  · rw [decide_eq_false (by omega), if_neg hp]; rfl
def Pc.takes : Pc → Nat → Bool
  | .byte x, b => b == x
  | .any _, b => b != 47
  | .star _, b => b != 47
  | .stars _, _ => true
  | .cl nt s, b => b != 47 && (!(s.getD b false == nt))
def Pc.many : Pc → Bool
  | .star _ => true
  | .stars _ => true
  | _ => false
def Pc.wf : Pc → Prop
  | .byte x => x < 256
  | .cl _ s => s.length = 256
  | _ => True
theorem clsR_len (p : List UInt8) : (clsR p).2.length = 256 := by
  unfold clsR; rw [cls_len p _ _ _ _ (Nat.le_refl _), List.length_replicate]
theorem pc1_wf {p c m} (h : pc1 p = some (c, m)) : c.wf := by
  unfold pc1 at h
  split at h
  · cases h; trivial
  split at h
  · cases h; trivial
  split at h
  · cases h; trivial
  split at h
  · split at h
    · cases h
    · cases h; exact clsR_len _
  split at h
  · split at h
    · cases h
    · cases h; exact by8_lt _ _
  · cases h; exact by8_lt _ _
theorem pcs_wf : ∀ n p l, pcs n p = some l → ∀ c ∈ l, c.wf := by
  intro n
  induction n with
  | zero => intro p l h; cases h; intro c hc; cases hc
  | succ n ih =>
    intro p l h
    rw [pcs] at h
    split at h
    · cases h; intro c hc; cases hc
    · cases hc : pc1 p with
      | none => rw [hc] at h; cases h
      | some x =>
        obtain ⟨c, k⟩ := x
        rw [hc] at h
        simp only at h
        cases hq : pcs n (p.drop k) with
        | none => rw [hq] at h; cases h
        | some l' =>
          rw [hq] at h
          cases h
          intro d hd
          rcases List.mem_cons.mp hd with rfl | hd
          · exact pc1_wf hc
          · exact ih _ _ hq d hd
theorem pieces_wf {p l} (h : pieces p = some l) : ∀ c ∈ l, c.wf := pcs_wf _ _ _ h
theorem pieces_len : ∀ n p l, pcs n p = some l → l.length ≤ n := by
  intro n
  induction n with
  | zero => intro p l h; cases h; exact Nat.le_refl _
  | succ n ih =>
    intro p l h
    rw [pcs] at h
    split at h
    · cases h; exact Nat.zero_le _
    · cases hc : pc1 p with
      | none => rw [hc] at h; cases h
      | some x =>
        obtain ⟨c, k⟩ := x
        rw [hc] at h
        simp only at h
        cases hq : pcs n (p.drop k) with
        | none => rw [hq] at h; cases h
        | some l' => rw [hq] at h; cases h; have := ih _ _ hq; simp only [List.length_cons]; omega
theorem ne47 (b : Nat) : (((b : Nat) : Int) != (47 : Int)) = (b != 47) := by
  by_cases h : b = 47
  · subst h; rfl
  · rw [bne_iff_ne.mpr h, bne_iff_ne]; omega
theorem eqNN (a b : Nat) : (((a : Nat) : Int) == ((b : Nat) : Int)) = (a == b) := by
  by_cases h : a = b
  · subst h; simp
  · rw [beq_eq_false_iff_ne.mpr h, beq_eq_false_iff_ne]; omega
theorem many_eq (c : Pc) : m_impl_piece_isMany c.I = some (c.many, ()) := by cases c <;> rfl
set_option maxRecDepth 100000 in
theorem takes_eq (c : Pc) (hc : c.wf) (b : Nat) (hb : b < 256) : m_impl_piece_takes c.I (b : Int) = some (c.takes b, ()) := by
  unfold m_impl_piece_takes
  cases c with
  | byte x =>
    have hx : x < 256 := hc
    show (if (0 : Int) ≤ (b : Int) ∧ (b : Int) < ((256 : Nat) : Int) ∧ (b : Int) < ((((List.replicate 256 false).set x true).length : Nat) : Int) then some (List.getD ((List.replicate 256 false).set x true) (Int.toNat (b : Int)) false, ()) else none) = some (b == x, ())
    rw [if_pos (by rw [List.length_set, List.length_replicate]; omega), Int.toNat_natCast, List.getD_eq_getElem?_getD, List.getElem?_set]
    by_cases h : x = b
    · subst h; rw [if_pos rfl, if_pos (by rw [List.length_replicate]; exact hx)]; simp
    · rw [if_neg h, List.getElem?_replicate, if_pos hb, beq_eq_false_iff_ne.mpr (fun e => h e.symm)]; rfl
  | any x => show some (((b : Nat) : Int) != (47 : Int), ()) = _; rw [ne47]; rfl
  | star x => show some (((b : Nat) : Int) != (47 : Int), ()) = _; rw [ne47]; rfl
  | stars x => rfl
  | cl nt s =>
    have hl : s.length = 256 := hc
    show Option.bind (bif ((b : Nat) : Int) != (47 : Int) then (if (0 : Int) ≤ (b : Int) ∧ (b : Int) < ((256 : Nat) : Int) ∧ (b : Int) < (s.length : Int) then some ((!(List.getD s (Int.toNat (b : Int)) false == nt), ()), ()) else none) else some ((false, ()), ())) _ = _
    rw [ne47, if_pos (by omega), Int.toNat_natCast]
    show _ = some (b != 47 && (!(s.getD b false == nt)), ())
    cases (b != 47) <;> rfl
def nx (c : Pc) (s : List UInt8) (at' : List Bool) : Nat → Bool
  | 0 => c.many && at'.getD 0 false
  | i + 1 => bif c.many then at'.getD (i + 1) false || (nx c s at' i && c.takes (by8 s i)) else at'.getD i false && c.takes (by8 s i)
def rowOf (f : Nat → Bool) (n : Nat) : List Bool := (List.range (n + 1)).map f
theorem rowOf_len (f n) : (rowOf f n).length = n + 1 := by simp [rowOf]
theorem eq_rowOf {f : Nat → Bool} {n : Nat} {l : List Bool} (hl : l.length = n + 1) (h : ∀ j, j ≤ n → l.getD j false = f j) : l = rowOf f n := by
  apply List.ext_getElem
  · rw [hl, rowOf_len]
  · intro i h1 h2
    have := h i (by omega)
    rw [List.getD_eq_getElem?_getD, List.getElem?_eq_getElem h1] at this
    simp only [rowOf, List.getElem_map, List.getElem_range]
    exact this
def row0 (n : Nat) : List Bool := true :: List.replicate n false
def rows (s : List UInt8) (l : List Pc) (at' : List Bool) : List Bool := l.foldl (fun a c => rowOf (nx c s a) s.length) at'
def matchP (l : List Pc) (s : List UInt8) : Bool := (rows s l (row0 s.length)).getD s.length false
theorem getD_set {l : List Bool} {i j : Nat} {b : Bool} (hi : i < l.length) : (l.set i b).getD j false = if i = j then b else l.getD j false := by
  rw [List.getD_eq_getElem?_getD, List.getElem?_set]
  by_cases h : i = j
  · rw [if_pos h, if_pos h, if_pos hi]; rfl
  · rw [if_neg h, if_neg h, List.getD_eq_getElem?_getD]
theorem getD_rep {n j : Nat} : (List.replicate n false).getD j false = false := by
  rw [List.getD_eq_getElem?_getD, List.getElem?_replicate]; split <;> rfl
/-- What stands ahead of step i at place i in the reference's row. -/
def pre (c : Pc) (s : List UInt8) (at' : List Bool) : Nat → Bool
  | 0 => false
  | i + 1 => c.takes (by8 s i) && (at'.getD i false || (c.many && nx c s at' i))
theorem nx_pre (c : Pc) (s at' i) : nx c s at' i = ((c.many && at'.getD i false) || pre c s at' i) := by
  cases i with
  | zero => rw [nx, pre, Bool.or_false]
  | succ i =>
    rw [nx, pre]
    cases hm : c.many with
    | false => cases c.takes (by8 s i) <;> cases at'.getD i false <;> rfl
    | true =>
      cases i with
      | zero => rw [nx, hm]; cases c.takes (by8 s 0) <;> cases at'.getD 0 false <;> cases at'.getD 1 false <;> rfl
      | succ i =>
        rw [nx, hm]
        cases c.takes (by8 s (i + 1)) <;> cases at'.getD (i + 1) false <;> cases at'.getD (i + 1 + 1) false <;> simp
theorem manyS (c : Pc) : decide (c.S.1 ≥ 3) = c.many := by cases c <;> rfl
theorem mapS_getD (l : List Pc) (k : Nat) (hk : k < l.length) (d) : (l.map Pc.S).getD k d = (l[k]).S := by
  rw [List.getD_eq_getElem?_getD, List.getElem?_map, List.getElem?_eq_getElem hk]; rfl
def nxt1 (c : Pc) (at' next : List Bool) (i : Nat) : List Bool := bif c.many && at'.getD i false then next.set i true else next
def nxt2 (n : Nat) (c : Pc) (s : List UInt8) (at' next : List Bool) (i : Nat) : List Bool := bif decide (i < n) && pre c s at' (i + 1) then (nxt1 c at' next i).set (i + 1) true else nxt1 c at' next i
def RowInv (n : Nat) (c : Pc) (s : List UInt8) (at' : List Bool) (i : Nat) (next : List Bool) : Prop :=
  next.length = n + 1 ∧ ∀ j, j ≤ n → next.getD j false = if j < i then nx c s at' j else if j = i then pre c s at' i else false
theorem nxt1_len {c at' next i} : (nxt1 c at' next i).length = next.length := by unfold nxt1; cases (c.many && at'.getD i false) <;> simp
theorem nxt1_at {n c s at' next i} (h : RowInv n c s at' i next) (hi : i ≤ n) : (nxt1 c at' next i).getD i false = nx c s at' i := by
  have h2 := h.2 i hi
  rw [if_neg (Nat.lt_irrefl i), if_pos rfl] at h2
  rw [nx_pre]
  unfold nxt1
  cases (c.many && at'.getD i false) with
  | true => rw [cond_true, getD_set (by rw [h.1]; omega), if_pos rfl]; rfl
  | false => rw [cond_false, h2]; rfl
theorem nxt1_ne {n c s at' next i j} (h : RowInv n c s at' i next) (hi : i ≤ n) (hj : j ≠ i) : (nxt1 c at' next i).getD j false = next.getD j false := by
  unfold nxt1
  cases (c.many && at'.getD i false) with
  | true => rw [cond_true, getD_set (by rw [h.1]; omega), if_neg (fun e => hj e.symm)]
  | false => rw [cond_false]
theorem RowInv.step {n c s at' next i} (h : RowInv n c s at' i next) (hi : i ≤ n) : RowInv n c s at' (i + 1) (nxt2 n c s at' next i) := by
  constructor
  · unfold nxt2; cases (decide (i < n) && pre c s at' (i + 1)) <;> simp [nxt1_len, h.1]
  · intro j hj
    have key : (nxt2 n c s at' next i).getD j false = if j = i + 1 then pre c s at' (i + 1) else (nxt1 c at' next i).getD j false := by
      unfold nxt2
      by_cases hin : i < n
      · rw [decide_eq_true hin, Bool.true_and]
        cases hp : pre c s at' (i + 1) with
        | true =>
          rw [cond_true, getD_set (by rw [nxt1_len, h.1]; omega)]
          by_cases hj1 : j = i + 1
          · rw [if_pos hj1, if_pos hj1.symm]
          · rw [if_neg hj1, if_neg (fun e => hj1 e.symm)]
        | false =>
          rw [cond_false]
          by_cases hj1 : j = i + 1
          · rw [if_pos hj1, nxt1_ne h hi (by omega), h.2 j hj, if_neg (by omega), if_neg (by omega)]
          · rw [if_neg hj1]
      · rw [decide_eq_false hin, Bool.false_and, cond_false, if_neg (by omega)]
    rw [key]
    by_cases hj1 : j = i + 1
    · rw [if_pos hj1, if_neg (by omega), if_pos hj1]
    · rw [if_neg hj1]
      by_cases hji : j = i
      · subst hji; rw [if_pos (by omega), nxt1_at h hi]
      · rw [nxt1_ne h hi hji, h.2 j hj, if_neg hji, if_neg hj1]
        by_cases hl : j < i
        · rw [if_pos hl, if_pos (by omega)]
        · rw [if_neg hl, if_neg (by omega)]
def matchB (p s : List UInt8) : Bool := match (if 1 ≤ p.length ∧ p.length ≤ 60 then pieces p else none) with | none => false | some l => decide (s.length ≤ 200) && matchP l s
theorem mapI_getD (l : List Pc) (k : Nat) (hk : k < l.length) (d) : (l.map Pc.I).getD k d = (l[k]).I := by
  rw [List.getD_eq_getElem?_getD, List.getElem?_map, List.getElem?_eq_getElem hk]; rfl
def RowI (n : Nat) (c : Pc) (s : List UInt8) (at' : List Bool) (i : Nat) (next : List Bool) : Prop :=
  next.length = n + 1 ∧ ∀ j, j ≤ n → next.getD j false = if j < i then nx c s at' j else false
theorem RowI.set {n c s at' next i} (h : RowI n c s at' i next) (hi : i ≤ n) {x : Bool} (hx : x = nx c s at' i) : RowI n c s at' (i + 1) (next.set i x) := by
  refine ⟨by rw [List.length_set]; exact h.1, fun j hj => ?_⟩
  rw [getD_set (by rw [h.1]; omega)]
  by_cases hij : i = j
  · subst hij; rw [if_pos rfl, if_pos (by omega), hx]
  · rw [if_neg hij, h.2 j hj]
    by_cases hl : j < i
    · rw [if_pos hl, if_pos (by omega)]
    · rw [if_neg hl, if_neg (by omega)]
theorem RowI.same {n c s at' next i} (h : RowI n c s at' i next) (hx : nx c s at' i = false) : RowI n c s at' (i + 1) next := by
  refine ⟨h.1, fun j hj => ?_⟩
  rw [h.2 j hj]
  by_cases hij : j = i
  · subst hij; rw [if_neg (by omega), if_pos (by omega), hx]
  · by_cases hl : j < i
    · rw [if_pos hl, if_pos (by omega)]
    · rw [if_neg hl, if_neg (by omega)]
theorem impl_match_eq (l : List Pc) (hwf : ∀ c ∈ l, c.wf) (hll : l.length ≤ 60) (s : List UInt8) (hs : s.length ≤ 200) : m_impl_match (l.map Pc.I) s = some (matchP l s, ()) := by
  unfold m_impl_match
  have wn : IntKind.wrap IntKind.i64 ((s.length : Int) + 1) = ((s.length + 1 : Nat) : Int) := by rw [wr _ (by omega)]; omega
  have gq : (0 : Int) ≤ ((s.length + 1 : Nat) : Int) ∧ ((s.length + 1 : Nat) : Int) ≤ ((s.length + 1 : Nat) : Int) ∧ ((1 : Nat) : Int) * ((s.length + 1 : Nat) : Int) ≤ (140737488355328 : Int) ∧ ((s.length + 1 : Nat) : Int) < (2 : Int) ^ (62 : Nat) := by
    refine ⟨by omega, by omega, by omega, ?_⟩
    show _ < (4611686018427387904 : Int)
    omega
  have tz : Int.toNat (0 : Int) = 0 := rfl
  simp only [wn, Int.toNat_natCast, tz, List.length_replicate, List.length_map]
  rw [if_pos gq, if_pos (by omega), if_pos (by omega)]
  have h0 : (List.replicate (s.length + 1) false).set 0 true = row0 s.length := by rw [List.replicate_succ]; rfl
  rw [h0]
  refine (congrArg (fun o => Option.bind o _) ((loopC_inv _
    (fun n st => ∃ (k : Nat) (at' : List Bool), st = ((s, (), l.map Pc.I, (l.length : Int), (k : Int), ()), at', ()) ∧ at'.length = s.length + 1 ∧ k ≤ l.length ∧ n = l.length - k)
    (fun st => some ((s, (), ()), rows s (l.drop st.1.2.2.2.2.1.toNat) st.2.1, ())) ?_ _ l.length _ ?_ ?_))).trans ?_
  · rintro n st kk ⟨k, at', rfl, hat, hkl, rfl⟩ hk
    dsimp only
    by_cases hlt : k < l.length
    · rw [decide_eq_true (show (k : Int) < (l.length : Int) by omega), cond_true, if_pos (by rw [List.length_map]; omega)]
      simp only [wn, Int.toNat_natCast, tz, List.length_replicate, List.length_map]
      rw [if_pos gq]
      have hkc : (l[k]).wf := hwf _ (List.getElem_mem hlt)
      rw [mapI_getD l k hlt]
      generalize hc : l[k] = c at hkc ⊢
      refine (congrArg (fun o => Option.bind o _) ((loopC_inv _
        (fun n st => ∃ (i : Nat) (next : List Bool), st = ((s, (), c.I, (), l.map Pc.I, (l.length : Int), (k : Int), ((s.length + 1 : Nat) : Int), (i : Int), ()), at', next, ()) ∧ i ≤ s.length + 1 ∧ RowI s.length c s at' i next ∧ n = s.length + 1 - i)
        (fun st => some ((s, (), l.map Pc.I, (l.length : Int), (k : Int), ()), rowOf (nx c s at') s.length, ())) ?_ _ (s.length + 1) _ ?_ ?_))).trans ?_
      · rintro n st k1 ⟨i, next, rfl, hi, hinv, rfl⟩ hk1
        have w1 : IntKind.wrap IntKind.i64 ((i : Int) + 1) = ((i + 1 : Nat) : Int) := by rw [wr _ (by omega)]; omega
        dsimp only
        by_cases hle : i ≤ s.length
        · have fin : ∀ next', RowI s.length c s at' (i + 1) next' → k1 ((s, (), c.I, (), l.map Pc.I, (l.length : Int), (k : Int), ((s.length + 1 : Nat) : Int), ((i + 1 : Nat) : Int), ()), at', next', ()) = some ((s, (), l.map Pc.I, (l.length : Int), (k : Int), ()), rowOf (nx c s at') s.length, ()) :=
            fun next' h' => hk1 (s.length + 1 - (i + 1)) _ (by omega) ⟨i + 1, next', rfl, by omega, h', rfl⟩
          have hn1 : next.length = s.length + 1 := hinv.1
          have ga : (0 : Int) ≤ (i : Int) ∧ (i : Int) < (at'.length : Int) := by omega
          have ga' : i < at'.length := by omega
          have gn : (0 : Int) ≤ (i : Int) ∧ (i : Int) < (next.length : Int) := by omega
          have gn' : i < next.length := by omega
          rw [decide_eq_true (show (i : Int) < ((s.length + 1 : Nat) : Int) by omega), cond_true, many_eq, Option.bind_some]
          simp only [Int.toNat_natCast, if_pos ga, if_pos ga', if_pos gn, if_pos gn', w1]
          cases i with
          | zero =>
            rw [decide_eq_false (show ¬((0 : Nat) : Int) > (0 : Int) by omega)]
            cases hm : c.many with
            | true =>
              cases hA : at'.getD 0 false with
              | true => simp only [cond_true, Option.bind_some, w1]; exact fin _ (hinv.set hle (x := true) (by simp only [nx, hm, hA, cond_true, cond_false, Bool.true_and, Bool.false_and, Bool.true_or, Bool.false_or]))
              | false => simp only [cond_true, cond_false, Option.bind_some, w1]; exact fin _ (hinv.set hle (x := false) (by simp only [nx, hm, hA, cond_true, cond_false, Bool.true_and, Bool.false_and, Bool.true_or, Bool.false_or]))
            | false => simp only [cond_false, Option.bind_some, w1]; exact fin _ (hinv.same (by simp only [nx, hm, cond_true, cond_false, Bool.true_and, Bool.false_and, Bool.true_or, Bool.false_or]))
          | succ j =>
            have wm : IntKind.wrap IntKind.i64 (((j + 1 : Nat) : Int) - 1) = (j : Int) := by rw [wr _ (by omega)]; omega
            have ga2 : (0 : Int) ≤ (j : Int) ∧ (j : Int) < (at'.length : Int) := by omega
            have ga2' : j < at'.length := by omega
            have gn2 : (0 : Int) ≤ (j : Int) ∧ (j : Int) < (next.length : Int) := by omega
            have gn2' : j < next.length := by omega
            have gs2 : (0 : Int) ≤ (j : Int) ∧ (j : Int) < (s.length : Int) := by omega
            have hnj : next.getD j false = nx c s at' j := by rw [hinv.2 j (by omega), if_pos (by omega)]
            have ht : m_impl_piece_takes c.I (((s.getD j 0).toNat : Nat) : Int) = some (c.takes (by8 s j), ()) := takes_eq c hkc _ (by8_lt _ _)
            rw [decide_eq_true (show ((j + 1 : Nat) : Int) > (0 : Int) by omega)]
            simp only [wm, Int.toNat_natCast, if_pos ga2, if_pos ga2', if_pos gn2, if_pos gn2', if_pos gs2, ht, hnj, Option.bind_some, cond_true]
            cases hm : c.many with
            | true =>
              cases hA : at'.getD (j + 1) false with
              | true => simp only [cond_true, Option.bind_some, w1]; exact fin _ (hinv.set hle (x := true) (by simp only [nx, hm, hA, cond_true, cond_false, Bool.true_and, Bool.false_and, Bool.true_or, Bool.false_or]))
              | false =>
                cases hN : nx c s at' j with
                | true => simp only [cond_true, cond_false, Option.bind_some, w1]; exact fin _ (hinv.set hle (x := c.takes (by8 s j)) (by simp only [nx, hm, hA, hN, cond_true, cond_false, Bool.true_and, Bool.false_and, Bool.true_or, Bool.false_or]))
                | false => simp only [cond_true, cond_false, Option.bind_some, w1]; exact fin _ (hinv.set hle (x := false) (by simp only [nx, hm, hA, hN, cond_true, cond_false, Bool.true_and, Bool.false_and, Bool.true_or, Bool.false_or]))
            | false =>
              cases hA : at'.getD j false with
              | true => simp only [cond_true, cond_false, Option.bind_some, w1]; exact fin _ (hinv.set hle (x := c.takes (by8 s j)) (by simp only [nx, hm, hA, cond_true, cond_false, Bool.true_and, Bool.false_and, Bool.true_or, Bool.false_or]))
              | false => simp only [cond_true, cond_false, Option.bind_some, w1]; exact fin _ (hinv.set hle (x := false) (by simp only [nx, hm, hA, cond_true, cond_false, Bool.true_and, Bool.false_and, Bool.true_or, Bool.false_or]))
        · have : i = s.length + 1 := by omega
          rw [decide_eq_false (by omega), cond_false]
          have : next = rowOf (nx c s at') s.length := eq_rowOf hinv.1 (fun j hj => by rw [hinv.2 j hj, if_pos (by omega)])
          rw [this]
      · exact ⟨0, _, rfl, by omega, ⟨by simp, fun j hj => by rw [getD_rep, if_neg (by omega)]⟩, rfl⟩
      · omega
      · simp only [Option.bind_some]
        have w1 : IntKind.wrap IntKind.i64 ((k : Int) + 1) = ((k + 1 : Nat) : Int) := by rw [wr _ (by omega)]; omega
        rw [w1, hk (l.length - (k + 1)) _ (by omega) ⟨k + 1, _, rfl, rowOf_len _ _, by omega, rfl⟩]
        simp only [Int.toNat_natCast]
        rw [List.drop_eq_getElem_cons hlt, hc]
        rfl
    · have : k = l.length := by omega
      rw [decide_eq_false (by omega), cond_false, this]
      simp only [Int.toNat_natCast, List.drop_length]; rfl
  · exact ⟨0, _, rfl, by simp [row0], by omega, rfl⟩
  · omega
  · simp only [Option.bind_some, tz, List.drop_zero]
    have hlen : (rows s l (row0 s.length)).length = s.length + 1 := by
      unfold rows
      have : ∀ (l : List Pc) (a : List Bool), a.length = s.length + 1 → (l.foldl (fun a c => rowOf (nx c s a) s.length) a).length = s.length + 1 := by
        intro l
        induction l with
        | nil => intro a h; exact h
        | cons c l ih => intro a h; exact ih _ (rowOf_len _ _)
      exact this _ _ (by simp [row0])
    rw [if_pos (by omega), if_pos (by omega)]
    rfl
theorem impl_Match_eq (p s : List UInt8) : m_impl_Match p s = some (matchB p s, ()) := by
  unfold m_impl_Match matchB
  rw [impl_pieces_eq, Option.bind_some]
  by_cases hp : 1 ≤ p.length ∧ p.length ≤ 60
  · rw [if_pos hp, if_pos hp]
    cases hq : pieces p with
    | none => rfl
    | some l =>
      have hll : l.length ≤ 60 := by have := pieces_len _ _ _ hq; omega
      simp only [cond_true]
      by_cases hs : s.length ≤ 200
      · rw [decide_eq_true (show (s.length : Int) ≤ 200 by omega), decide_eq_true hs, impl_match_eq l (pieces_wf hq) hll s hs]; rfl
      · rw [decide_eq_false (show ¬(s.length : Int) ≤ 200 by omega), decide_eq_false hs]; rfl
  · rw [if_neg hp, if_neg hp]; rfl
/-- What a list of pieces means. -/
def mean : List Pc → List UInt8 → Prop
  | [], t => t = []
  | c :: l, t => if c.many = true then ∃ u v, t = u ++ v ∧ (∀ b ∈ u, c.takes (UInt8.toNat b) = true) ∧ mean l v else ∃ b v, t = b :: v ∧ c.takes (UInt8.toNat b) = true ∧ mean l v
theorem mean_append : ∀ (l1 l2 : List Pc) (s t : List UInt8), mean l1 s → mean l2 t → mean (l1 ++ l2) (s ++ t)
  | [], l2, s, t, h1, h2 => by cases h1; exact h2
  | c :: l1, l2, s, t, h1, h2 => by
    rw [List.cons_append]
    unfold mean at h1 ⊢
    split at h1
    · next hm =>
      rw [if_pos hm]
      obtain ⟨u, v, rfl, ht, hv⟩ := h1
      exact ⟨u, v ++ t, by rw [List.append_assoc], ht, mean_append l1 l2 v t hv h2⟩
    · next hm =>
      rw [if_neg hm]
      obtain ⟨b, v, rfl, ht, hv⟩ := h1
      exact ⟨b, v ++ t, rfl, ht, mean_append l1 l2 v t hv h2⟩
/-- One piece from place i to place j. -/
def leg (c : Pc) (s : List UInt8) (i j : Nat) : Prop :=
  if c.many = true then i ≤ j ∧ ∀ k, i ≤ k → k < j → c.takes (by8 s k) = true else j = i + 1 ∧ c.takes (by8 s i) = true
theorem nx_iff (c : Pc) (s : List UInt8) (at' : List Bool) : ∀ j, nx c s at' j = true ↔ ∃ i, i ≤ j ∧ at'.getD i false = true ∧ leg c s i j := by
  intro j
  induction j with
  | zero =>
    rw [nx]
    unfold leg
    cases hm : c.many with
    | true =>
      simp only [Bool.true_and, if_pos]
      constructor
      · intro h; exact ⟨0, Nat.le_refl _, h, Nat.le_refl _, fun k h1 h2 => by omega⟩
      · rintro ⟨i, hi, ha, _⟩
        have : i = 0 := by omega
        subst this; exact ha
    | false =>
      simp only [Bool.false_and, Bool.false_eq_true, if_false, false_iff]
      rintro ⟨i, hi, ha, h, _⟩
      omega
  | succ j ih =>
    rw [nx]
    cases hm : c.many with
    | true =>
      simp only [cond_true, Bool.or_eq_true, Bool.and_eq_true, ih]
      unfold leg
      simp only [hm, if_true]
      constructor
      · rintro (h | ⟨⟨i, hi, ha, hle, hk⟩, ht⟩)
        · exact ⟨j + 1, Nat.le_refl _, h, Nat.le_refl _, fun k h1 h2 => by omega⟩
        · refine ⟨i, by omega, ha, by omega, fun k h1 h2 => ?_⟩
          by_cases hkj : k = j
          · subst hkj; exact ht
          · exact hk k h1 (by omega)
      · rintro ⟨i, hi, ha, hle, hk⟩
        by_cases hij : i = j + 1
        · subst hij; exact Or.inl ha
        · exact Or.inr ⟨⟨i, by omega, ha, by omega, fun k h1 h2 => hk k h1 (by omega)⟩, hk j (by omega) (by omega)⟩
    | false =>
      simp only [cond_false, Bool.and_eq_true]
      unfold leg
      simp only [hm, Bool.false_eq_true, if_false]
      constructor
      · rintro ⟨ha, ht⟩; exact ⟨j, by omega, ha, rfl, ht⟩
      · rintro ⟨i, hi, ha, he, ht⟩
        have : i = j := by omega
        subst this; exact ⟨ha, ht⟩
/-- The pieces from place i to place j. -/
def way : List Pc → List UInt8 → Nat → Nat → Prop
  | [], _, i, j => i = j
  | c :: l, s, i, j => ∃ k, i ≤ k ∧ k ≤ j ∧ leg c s i k ∧ way l s k j
theorem way_le : ∀ l s i j, way l s i j → i ≤ j
  | [], _, _, _, h => by cases h; exact Nat.le_refl _
  | c :: l, s, i, j, ⟨k, h1, h2, _, _⟩ => by omega
theorem rowOf_getD (f : Nat → Bool) (n j : Nat) (hj : j ≤ n) : (rowOf f n).getD j false = f j := by
  unfold rowOf
  rw [List.getD_eq_getElem?_getD, List.getElem?_map, List.getElem?_range (by omega)]; rfl
theorem rows_iff (s : List UInt8) : ∀ (l : List Pc) (at' : List Bool) (j : Nat), j ≤ s.length → at'.length = s.length + 1 →
    ((rows s l at').getD j false = true ↔ ∃ i, i ≤ j ∧ at'.getD i false = true ∧ way l s i j) := by
  intro l
  induction l with
  | nil =>
    intro at' j hj _
    show at'.getD j false = true ↔ _
    constructor
    · intro h; exact ⟨j, Nat.le_refl _, h, rfl⟩
    · rintro ⟨i, _, ha, hw⟩
      have : i = j := hw
      subst this; exact ha
  | cons c l ih =>
    intro at' j hj hl
    show (rows s l (rowOf (nx c s at') s.length)).getD j false = true ↔ _
    rw [ih _ j hj (rowOf_len _ _)]
    constructor
    · rintro ⟨k, hk, ha, hw⟩
      rw [rowOf_getD _ _ _ (by omega), nx_iff] at ha
      obtain ⟨i, hi, ha, hleg⟩ := ha
      exact ⟨i, by omega, ha, k, hi, hk, hleg, hw⟩
    · rintro ⟨i, hi, ha, k, h1, h2, hleg, hw⟩
      exact ⟨k, h2, by rw [rowOf_getD _ _ _ (by omega), nx_iff]; exact ⟨i, h1, ha, hleg⟩, hw⟩
theorem by8_drop (s : List UInt8) (i k : Nat) (h : i + k < s.length) : ∃ b, (s.drop i)[k]? = some b ∧ b.toNat = by8 s (i + k) := by
  refine ⟨s[i + k], by rw [List.getElem?_drop, List.getElem?_eq_getElem h], ?_⟩
  unfold by8
  rw [List.getD_eq_getElem?_getD, List.getElem?_eq_getElem h]; rfl
theorem way_mean (s : List UInt8) : ∀ (l : List Pc) (i : Nat), i ≤ s.length → (way l s i s.length ↔ mean l (s.drop i)) := by
  intro l
  induction l with
  | nil =>
    intro i hi
    show i = s.length ↔ s.drop i = []
    rw [List.drop_eq_nil_iff]; omega
  | cons c l ih =>
    intro i hi
    unfold way mean
    cases hm : c.many with
    | true =>
      simp only [if_true]
      constructor
      · rintro ⟨k, h1, h2, hleg, hw⟩
        unfold leg at hleg
        rw [hm, if_pos rfl] at hleg
        refine ⟨(s.drop i).take (k - i), s.drop k, ?_, ?_, (ih k h2).1 hw⟩
        · have : s.drop k = (s.drop i).drop (k - i) := by rw [List.drop_drop]; congr 1; omega
          rw [this, List.take_append_drop]
        · intro b hb
          obtain ⟨j, hj⟩ := List.mem_iff_getElem?.1 hb
          have hjl : j < k - i := by
            have := (List.getElem?_eq_some_iff.1 hj).1
            rw [List.length_take] at this; omega
          rw [List.getElem?_take_of_lt hjl] at hj
          obtain ⟨b', hb', he⟩ := by8_drop s i j (by omega)
          rw [hj] at hb'; cases hb'
          rw [he]; exact hleg.2 _ (by omega) (by omega)
      · rintro ⟨u, v, huv, hu, hv⟩
        have hlen : u.length + v.length = s.length - i := by rw [← List.length_append, ← huv, List.length_drop]
        have hv' : s.drop (i + u.length) = v := by rw [← List.drop_drop, huv, List.drop_left]
        refine ⟨i + u.length, by omega, by omega, ?_, (ih _ (by omega)).2 (hv' ▸ hv)⟩
        unfold leg
        rw [hm, if_pos rfl]
        refine ⟨by omega, fun k h1 h2 => ?_⟩
        obtain ⟨b', hb', he⟩ := by8_drop s i (k - i) (by omega)
        rw [huv, List.getElem?_append_left (by omega)] at hb'
        have := hu b' (List.mem_of_getElem? hb')
        rw [he, show i + (k - i) = k by omega] at this
        exact this
    | false =>
      simp only [Bool.false_eq_true, if_false]
      constructor
      · rintro ⟨k, h1, h2, hleg, hw⟩
        unfold leg at hleg
        rw [hm, if_neg (by simp)] at hleg
        obtain ⟨rfl, ht⟩ := hleg
        have hlt : i < s.length := by omega
        refine ⟨s[i], s.drop (i + 1), List.drop_eq_getElem_cons hlt, ?_, (ih _ h2).1 hw⟩
        unfold by8 at ht
        rw [List.getD_eq_getElem?_getD, List.getElem?_eq_getElem hlt] at ht
        exact ht
      · rintro ⟨b, v, hbv, ht, hv⟩
        have hlt : i < s.length := by
          have : (s.drop i).length = v.length + 1 := by rw [hbv]; rfl
          rw [List.length_drop] at this; omega
        rw [List.drop_eq_getElem_cons hlt] at hbv
        obtain ⟨rfl, rfl⟩ := List.cons.inj hbv
        refine ⟨i + 1, by omega, by omega, ?_, (ih _ (by omega)).2 hv⟩
        unfold leg
        rw [hm, if_neg (by simp)]
        refine ⟨rfl, ?_⟩
        unfold by8
        rw [List.getD_eq_getElem?_getD, List.getElem?_eq_getElem hlt]
        exact ht
theorem matchP_iff (l : List Pc) (s : List UInt8) : matchP l s = true ↔ mean l s := by
  unfold matchP
  rw [rows_iff s l _ _ (Nat.le_refl _) (by simp [row0])]
  have h0 : mean l s ↔ way l s 0 s.length := by rw [way_mean s l 0 (Nat.zero_le _), List.drop_zero]
  rw [h0]
  constructor
  · rintro ⟨i, hi, ha, hw⟩
    cases i with
    | zero => exact hw
    | succ i =>
      have : (row0 s.length).getD (i + 1) false = false := by
        unfold row0
        rw [List.getD_cons_succ, getD_rep]
      rw [this] at ha; cases ha
  · intro hw; exact ⟨0, Nat.zero_le _, rfl, hw⟩
theorem pieces_inv {p l} (hp : p.length ≠ 0) (h : pieces p = some l) : ∃ c m l', pc1 p = some (c, m) ∧ pieces (p.drop m) = some l' ∧ l = c :: l' := by
  cases hc : pc1 p with
  | none => rw [pieces_none hp hc] at h; cases h
  | some x =>
    obtain ⟨c, m⟩ := x
    rw [pieces_some hp hc] at h
    cases hq : pieces (p.drop m) with
    | none => rw [hq] at h; cases h
    | some l' => rw [hq] at h; cases h; exact ⟨c, m, l', rfl, hq, rfl⟩
theorem by8_app {p : List UInt8} (q : List UInt8) {j : Nat} (h : j < p.length) : by8 (p ++ q) j = by8 p j := by
  unfold by8
  rw [List.getD_eq_getElem?_getD, List.getD_eq_getElem?_getD, List.getElem?_append_left h]
theorem cls_ge (p : List UInt8) : ∀ n i first s, p.length - i ≤ n → i ≤ (cls p i first s).1 := by
  intro n
  induction n with
  | zero => intro i f s h; rw [cls_stop (by omega)]; exact Nat.le_refl _
  | succ n ih =>
    intro i f s h
    by_cases hc : i < p.length ∧ (f = true ∨ by8 p i ≠ 93)
    · by_cases h2 : i + 2 < p.length ∧ by8 p (i + 1) = 45 ∧ by8 p (i + 2) ≠ 93
      · rw [cls_range hc h2]; have := ih (i + 3) false (fillN (by8 p (i + 2) + 1 - by8 p i) (by8 p i) s) (by omega); omega
      · rw [cls_one hc h2]; have := ih (i + 1) false (s.set (by8 p i) true) (by omega); omega
    · rw [cls_stop hc]; exact Nat.le_refl _
theorem cls_end (p : List UInt8) : ∀ n i s, p.length - i ≤ n → (cls p i false s).1 < p.length → by8 p (cls p i false s).1 = 93 := by
  intro n
  induction n with
  | zero => intro i s h hl; rw [cls_stop (by omega)] at hl; simp only at hl; omega
  | succ n ih =>
    intro i s h hl
    by_cases hc : i < p.length ∧ (false = true ∨ by8 p i ≠ 93)
    · by_cases h2 : i + 2 < p.length ∧ by8 p (i + 1) = 45 ∧ by8 p (i + 2) ≠ 93
      · rw [cls_range hc h2] at hl ⊢; exact ih _ _ (by omega) hl
      · rw [cls_one hc h2] at hl ⊢; exact ih _ _ (by omega) hl
    · rw [cls_stop hc] at hl ⊢
      simp only at hl ⊢
      apply Decidable.byContradiction
      intro h9; exact hc ⟨hl, Or.inr h9⟩
theorem cls_app (p q : List UInt8) : ∀ n i first s, p.length - i ≤ n → (cls p i first s).1 < p.length → cls (p ++ q) i first s = cls p i first s := by
  intro n
  induction n with
  | zero => intro i f s h hl; have := cls_ge p 0 i f s h; omega
  | succ n ih =>
    intro i f s h hl
    have hla : (p ++ q).length = p.length + q.length := List.length_append
    by_cases hc : i < p.length ∧ (f = true ∨ by8 p i ≠ 93)
    · have hc' : i < (p ++ q).length ∧ (f = true ∨ by8 (p ++ q) i ≠ 93) := by rw [by8_app q hc.1]; exact ⟨by omega, hc.2⟩
      by_cases h2 : i + 2 < p.length ∧ by8 p (i + 1) = 45 ∧ by8 p (i + 2) ≠ 93
      · have h2' : i + 2 < (p ++ q).length ∧ by8 (p ++ q) (i + 1) = 45 ∧ by8 (p ++ q) (i + 2) ≠ 93 := by
          rw [by8_app q (by omega), by8_app q h2.1]; exact ⟨by omega, h2.2⟩
        rw [cls_range hc h2] at hl ⊢
        rw [cls_range hc' h2', by8_app q h2.1, by8_app q hc.1]
        exact ih _ _ _ (by omega) hl
      · rw [cls_one hc h2] at hl ⊢
        have hge := cls_ge p n (i + 1) false (s.set (by8 p i) true) (by omega)
        have h2' : ¬(i + 2 < (p ++ q).length ∧ by8 (p ++ q) (i + 1) = 45 ∧ by8 (p ++ q) (i + 2) ≠ 93) := by
          rintro ⟨ha, hb, hd⟩
          rw [by8_app q (by omega)] at hb
          by_cases h3 : i + 2 < p.length
          · rw [by8_app q h3] at hd; exact h2 ⟨h3, hb, hd⟩
          · have he : (cls p (i + 1) false (s.set (by8 p i) true)).1 = i + 1 := by omega
            have := cls_end p n (i + 1) (s.set (by8 p i) true) (by omega) hl
            rw [he] at this; omega
        rw [cls_one hc' h2', by8_app q hc.1]
        exact ih _ _ _ (by omega) hl
    · rw [cls_stop hc] at hl ⊢
      simp only at hl
      rw [cls_stop (by rw [by8_app q hl]; intro h'; exact hc ⟨hl, h'.2⟩)]
theorem clsR_app (p q : List UInt8) (h : (clsR p).1 < p.length) : clsR (p ++ q) = clsR p ∧ clsNot (p ++ q) = clsNot p := by
  have hn : clsNot (p ++ q) = clsNot p := by
    unfold clsNot
    rw [by8_app q (by omega), List.length_append, decide_eq_true (show 1 ≤ p.length by omega), decide_eq_true (show 1 ≤ p.length + q.length by omega)]
  refine ⟨?_, hn⟩
  unfold clsR at h ⊢
  rw [hn]
  exact cls_app p q p.length _ _ _ (by omega) h
theorem pc1_app {p q c m} (hp : 0 < p.length) (h : pc1 p = some (c, m)) (hs : by8 p 0 = 42 → 2 ≤ p.length ∨ q.length = 0 ∨ by8 q 0 ≠ 42) : pc1 (p ++ q) = some (c, m) := by
  have h2 : (decide (2 ≤ (p ++ q).length) && ((p ++ q).take 2 == [42, 42])) = (decide (2 ≤ p.length) && (p.take 2 == [42, 42])) := by
    by_cases hl : 2 ≤ p.length
    · rw [decide_eq_true hl, List.length_append, decide_eq_true (show 2 ≤ p.length + q.length by omega), List.take_append_of_le_length hl]
    · rw [decide_eq_false hl, Bool.false_and]
      match p, q, hp, hl, hs with
      | [x], [], _, _, _ => rfl
      | [x], y :: q, _, _, hs =>
        by_cases hx : by8 [x] 0 = 42
        · have hy := hs hx
          have hy' : by8 (y :: q) 0 ≠ 42 := by rcases hy with h | h | h; simp at h; simp at h; exact h
          have : y ≠ 42 := fun e => hy' (by subst e; rfl)
          have h3 : (([x, y] : List UInt8) == [42, 42]) = false := by rw [beq_eq_false_iff_ne]; intro e; exact this (List.cons.inj (List.cons.inj e).2).1
          show (_ && (([x, y] : List UInt8) == [42, 42])) = false
          rw [h3, Bool.and_false]
        · have : x ≠ 42 := fun e => hx (by subst e; rfl)
          have h3 : (([x, y] : List UInt8) == [42, 42]) = false := by rw [beq_eq_false_iff_ne]; intro e; exact this (List.cons.inj e).1
          show (_ && (([x, y] : List UInt8) == [42, 42])) = false
          rw [h3, Bool.and_false]
      | x :: y :: p, q, _, hl, _ => simp at hl
  have hd : (p ++ q).drop 1 = p.drop 1 ++ q := List.drop_append_of_le_length (by omega)
  have hla : (p ++ q).length = p.length + q.length := List.length_append
  unfold pc1 at h ⊢
  rw [h2, by8_app q hp]
  split at h
  · next h1 => rw [if_pos h1]; exact h
  next h1 =>
  rw [if_neg h1]
  split at h
  · next h3 => rw [if_pos h3]; exact h
  next h3 =>
  rw [if_neg h3]
  split at h
  · next h4 => rw [if_pos h4]; exact h
  next h4 =>
  rw [if_neg h4]
  split at h
  · next h5 =>
    rw [if_pos h5]
    split at h
    · cases h
    · next h6 =>
      obtain ⟨e1, e2⟩ := clsR_app (p.drop 1) q (by omega)
      rw [hd, e1, e2, if_neg (by rw [List.length_append]; omega)]
      exact h
  next h5 =>
  rw [if_neg h5]
  split at h
  · next h6 =>
    rw [if_pos h6]
    split at h
    · cases h
    · next h7 => rw [if_neg (by omega), by8_app q (by omega)]; exact h
  · next h6 => rw [if_neg h6]; exact h
theorem mean_many {c : Pc} {l t} (hm : c.many = true) : mean (c :: l) t ↔ ∃ u v, t = u ++ v ∧ (∀ b ∈ u, c.takes (UInt8.toNat b) = true) ∧ mean l v := by
  conv => lhs; unfold mean
  rw [if_pos hm]
theorem mean_stars {x l t} : mean (Pc.stars x :: l) t ↔ ∃ u v, t = u ++ v ∧ mean l v := by
  rw [mean_many rfl]
  constructor
  · rintro ⟨u, v, h, _, hv⟩; exact ⟨u, v, h, hv⟩
  · rintro ⟨u, v, h, hv⟩; exact ⟨u, v, h, fun _ _ => rfl, hv⟩
theorem mean_mono {c : Pc} {a b : List Pc} (h : ∀ t, mean a t → mean b t) {t} (ht : mean (c :: a) t) : mean (c :: b) t := by
  unfold mean at ht ⊢
  split at ht
  · next hm => rw [if_pos hm]; obtain ⟨u, v, e, hu, hv⟩ := ht; exact ⟨u, v, e, hu, h v hv⟩
  · next hm => rw [if_neg hm]; obtain ⟨u, v, e, hu, hv⟩ := ht; exact ⟨u, v, e, hu, h v hv⟩
theorem by8_42 {q : List UInt8} (h0 : q.length ≠ 0) (h : by8 q 0 = 42) : ∃ r, q = 42 :: r := by
  cases q with
  | nil => exact absurd rfl h0
  | cons x r =>
    refine ⟨r, ?_⟩
    have : x.toNat = 42 := h
    have hx : x = 42 := UInt8.toNat_inj.1 this
    rw [hx]
theorem pc1_two (r : List UInt8) : pc1 (42 :: 42 :: r) = some (.stars 42, 2) := by
  unfold pc1
  rw [if_pos (by simp)]
  rfl
theorem pc1_single {r : List UInt8} (h : r.length = 0 ∨ by8 r 0 ≠ 42) : pc1 (42 :: r) = some (.star 42, 1) := by
  have h1 : (decide (2 ≤ (42 :: r : List UInt8).length) && ((42 :: r : List UInt8).take 2 == [42, 42])) = false := by
    cases r with
    | nil => rfl
    | cons y r =>
      have hy : y ≠ 42 := by
        rcases h with h | h
        · simp at h
        · intro e; apply h; subst e; rfl
      have h3 : (([42, y] : List UInt8) == [42, 42]) = false := by rw [beq_eq_false_iff_ne]; intro e; exact hy (List.cons.inj (List.cons.inj e).2).1
      show (_ && (([42, y] : List UInt8) == [42, 42])) = false
      rw [h3, Bool.and_false]
  unfold pc1
  rw [if_neg (by rw [h1]; simp), if_pos (show by8 (42 :: r) 0 = 42 from rfl)]
  rfl
theorem star_head : ∀ n (q : List UInt8) l, q.length ≤ n → q.length ≠ 0 → by8 q 0 = 42 → pieces q = some l → ∃ l', pieces (q.drop 1) = some l' ∧ ∀ x t, mean l t → mean (Pc.stars x :: l') t := by
  intro n
  induction n with
  | zero => intro q l h h0; omega
  | succ n ih =>
    intro q l hn h0 h42 hq
    obtain ⟨r, rfl⟩ := by8_42 h0 h42
    by_cases hr : r.length = 0 ∨ by8 r 0 ≠ 42
    · have hc := pc1_single hr
      rw [pieces_some h0 hc] at hq
      show ∃ l', pieces r = some l' ∧ _
      have hq' : (pieces r).map (Pc.star 42 :: ·) = some l := hq
      cases hp : pieces r with
      | none => rw [hp] at hq'; cases hq'
      | some l' =>
        rw [hp] at hq'; cases hq'
        refine ⟨l', rfl, fun x t ht => ?_⟩
        rw [mean_many rfl] at ht
        obtain ⟨u, v, e, _, hv⟩ := ht
        exact mean_stars.2 ⟨u, v, e, hv⟩
    · have hr0 : r.length ≠ 0 := fun h => hr (Or.inl h)
      have hr42 : by8 r 0 = 42 := Decidable.byContradiction fun h => hr (Or.inr h)
      obtain ⟨r', rfl⟩ := by8_42 hr0 hr42
      rw [pieces_some h0 (pc1_two r')] at hq
      have hq' : (pieces r').map (Pc.stars 42 :: ·) = some l := hq
      show ∃ l', pieces (42 :: r') = some l' ∧ _
      cases hp : pieces r' with
      | none => rw [hp] at hq'; cases hq'
      | some l2 =>
        rw [hp] at hq'; cases hq'
        by_cases hr2 : r'.length = 0 ∨ by8 r' 0 ≠ 42
        · refine ⟨Pc.star 42 :: l2, ?_, fun x t ht => ?_⟩
          · rw [pieces_some (by simp) (pc1_single hr2)]
            show (pieces r').map _ = _
            rw [hp]; rfl
          · obtain ⟨u, v, e, hv⟩ := mean_stars.1 ht
            refine mean_stars.2 ⟨u, v, e, ?_⟩
            rw [mean_many rfl]
            exact ⟨[], v, rfl, (fun _ h => nomatch h), hv⟩
        · have hs0 : r'.length ≠ 0 := fun h => hr2 (Or.inl h)
          have hs42 : by8 r' 0 = 42 := Decidable.byContradiction fun h => hr2 (Or.inr h)
          obtain ⟨l3, hp3, hm3⟩ := ih r' l2 (by simp only [List.length_cons] at hn; omega) hs0 hs42 hp
          obtain ⟨r2, rfl⟩ := by8_42 hs0 hs42
          have hp3' : pieces r2 = some l3 := hp3
          refine ⟨Pc.stars 42 :: l3, ?_, fun x t ht => ?_⟩
          · rw [pieces_some (by simp) (pc1_two r2)]
            show (pieces r2).map _ = _
            rw [hp3']; rfl
          · obtain ⟨u, v, e, hv⟩ := mean_stars.1 ht
            exact mean_stars.2 ⟨u, v, e, hm3 42 v hv⟩
theorem pieces_app : ∀ n (p q : List UInt8) l1 l2, p.length ≤ n → pieces p = some l1 → pieces q = some l2 → ∃ l, pieces (p ++ q) = some l ∧ ∀ t, mean (l1 ++ l2) t → mean l t := by
  intro n
  induction n with
  | zero =>
    intro p q l1 l2 hn h1 h2
    have : p = [] := List.eq_nil_of_length_eq_zero (by omega)
    subst this
    rw [pieces_nil] at h1; cases h1
    exact ⟨l2, h2, fun t h => h⟩
  | succ n ih =>
    intro p q l1 l2 hn h1 h2
    by_cases hp0 : p.length = 0
    · have : p = [] := List.eq_nil_of_length_eq_zero hp0
      subst this
      rw [pieces_nil] at h1; cases h1
      exact ⟨l2, h2, fun t h => h⟩
    obtain ⟨c, m, l1', hc, hd, rfl⟩ := pieces_inv hp0 h1
    have hm := pc1_pos hc (by omega)
    by_cases hs : by8 p 0 = 42 → 2 ≤ p.length ∨ q.length = 0 ∨ by8 q 0 ≠ 42
    · have hc' := pc1_app (q := q) (by omega) hc hs
      obtain ⟨l, hl, hml⟩ := ih (p.drop m) q l1' l2 (by rw [List.length_drop]; omega) hd h2
      refine ⟨c :: l, ?_, fun t ht => ?_⟩
      · rw [pieces_some (by rw [List.length_append]; omega) hc', List.drop_append_of_le_length hm.2, hl]; rfl
      · exact mean_mono hml ht
    · have h42 : by8 p 0 = 42 := Decidable.byContradiction fun h => hs fun h' => absurd h' h
      have hno : ¬(2 ≤ p.length ∨ q.length = 0 ∨ by8 q 0 ≠ 42) := fun h => hs fun _ => h
      have hq0 : q.length ≠ 0 := fun h => hno (Or.inr (Or.inl h))
      have hq42 : by8 q 0 = 42 := Decidable.byContradiction fun h => hno (Or.inr (Or.inr h))
      obtain ⟨r, rfl⟩ := by8_42 hp0 h42
      have hr : r = [] := by
        apply List.eq_nil_of_length_eq_zero
        apply Decidable.byContradiction; intro h; exact hno (Or.inl (by simp only [List.length_cons]; omega))
      subst hr
      obtain ⟨l', hl', hml⟩ := star_head q.length q l2 (Nat.le_refl _) hq0 hq42 h2
      obtain ⟨r2, rfl⟩ := by8_42 hq0 hq42
      have hc2 := pc1_single (r := []) (Or.inl rfl)
      rw [hc2] at hc
      cases hc
      have : l1' = [] := by
        have hd' : pieces [] = some l1' := hd
        rw [pieces_nil] at hd'; cases hd'; rfl
      subst this
      have hl2 : pieces r2 = some l' := hl'
      refine ⟨Pc.stars 42 :: l', ?_, fun t ht => ?_⟩
      · show pieces (42 :: 42 :: r2) = _
        rw [pieces_some (by simp) (pc1_two r2)]
        show (pieces r2).map _ = _
        rw [hl2]; rfl
      · have ht' : mean (Pc.star 42 :: l2) t := ht
        rw [mean_many rfl] at ht'
        obtain ⟨u, v, e, _, hv⟩ := ht'
        obtain ⟨u2, v2, e2, hv2⟩ := mean_stars.1 (hml 42 v hv)
        exact mean_stars.2 ⟨u ++ u2, v2, by rw [e, e2, List.append_assoc], hv2⟩
theorem matchB_app {p q s t : List UInt8} (h1 : matchB p s = true) (h2 : matchB q t = true) (hp : p.length + q.length ≤ 60) (hs : s.length + t.length ≤ 200) : matchB (p ++ q) (s ++ t) = true := by
  unfold matchB at h1 h2 ⊢
  split at h1
  · cases h1
  next l1 e1 =>
  split at h2
  · cases h2
  next l2 e2 =>
  split at e1
  case isFalse => cases e1
  next hp1 =>
  split at e2
  case isFalse => cases e2
  next hq1 =>
  rw [Bool.and_eq_true] at h1 h2
  obtain ⟨l, hl, hml⟩ := pieces_app p.length p q l1 l2 (Nat.le_refl _) e1 e2
  rw [if_pos (by rw [List.length_append]; omega), hl]
  show (decide _ && matchP l (s ++ t)) = true
  rw [Bool.and_eq_true]
  refine ⟨decide_eq_true (by rw [List.length_append]; exact hs), ?_⟩
  rw [matchP_iff]
  exact hml _ (mean_append l1 l2 s t ((matchP_iff _ _).1 h1.2) ((matchP_iff _ _).1 h2.2))
theorem matchB_len {p s : List UInt8} (h : matchB p s = true) : p.length ≤ 60 ∧ s.length ≤ 200 := by
  unfold matchB at h
  split at h
  · cases h
  next l e =>
  split at e
  case isFalse => cases e
  next hp =>
  rw [Bool.and_eq_true] at h
  exact ⟨hp.2, of_decide_eq_true h.1⟩
/-! ### names and paths -/
def okCh (c : Int) : Bool := (decide (c ≥ 97) && decide (c ≤ 122)) || ((decide (c ≥ 65) && decide (c ≤ 90)) || ((decide (c ≥ 48) && decide (c ≤ 57)) || (c == 46 || (c == 95 || c == 45))))
def okB (b : UInt8) : Bool := okCh (b.toNat : Int)
def nameOk (s : List UInt8) : Bool := (decide (1 ≤ s.length) && decide (s.length ≤ 20)) && (!(s == [46]) && (!(s == [46, 46]) && s.all okB))
theorem in_eq (x a b : Int) : m_spec_l01In x a b = some (decide (x ≥ a) && decide (x ≤ b), ()) := by
  unfold m_spec_l01In; cases decide (x ≥ a) <;> rfl
theorem within_eqT (x a b : Int) : m_impl_within x a b = some (decide (x ≥ a) && decide (x ≤ b), ()) := by
  unfold m_impl_within; cases decide (x ≥ a) <;> rfl
theorem all_drop {α : Type} (p : α → Bool) (d : α) {s : List α} {i : Nat} (h : i < s.length) : (s.drop i).all p = (p (s.getD i d) && (s.drop (i + 1)).all p) := by
  rw [List.drop_eq_getElem_cons h, List.all_cons, List.getD_eq_getElem?_getD, List.getElem?_eq_getElem h]; rfl
theorem len_ge (s : List UInt8) : decide ((s.length : Int) ≥ 1) = decide (1 ≤ s.length) := decide_eq_decide.2 (by omega)
theorem len_le (s : List UInt8) : decide ((s.length : Int) ≤ 20) = decide (s.length ≤ 20) := decide_eq_decide.2 (by omega)
theorem impl_nameOk (s : List UInt8) (hs : s.length ≤ 1099511627776) : m_impl_NameOk s = some (nameOk s, ()) := by
  unfold m_impl_NameOk
  refine joinC_of (loopC_inv _ (fun n t => ∃ i : Nat, t = ((s, (s.length : Int), (i : Int), ()), ()) ∧ i ≤ s.length ∧ n = s.length - i)
          (fun t => some (if (s.drop t.1.2.2.1.toNat).all okB then .inl ((s, ()), ()) else .inr (false, ()))) ?_ _ s.length _ ⟨0, rfl, by omega, rfl⟩ (by omega)) ?_
  rotate_left
  · show joinC (some (if (s.drop 0).all okB = true then _ else _)) _ = _
    rw [List.drop_zero]
    unfold nameOk
    cases s.all okB with
    | false => simp only [Bool.and_false]; rfl
    | true =>
      show Option.bind (Option.bind (m_impl_within _ _ _) _) _ = _
      rw [within_eqT, Option.bind_some, len_ge, len_le]
      dsimp only
      cases (decide (1 ≤ s.length) && decide (s.length ≤ 20)) <;> cases s == [46] <;> cases s == [46, 46] <;> rfl
  · rintro n t k ⟨i, rfl, hi, rfl⟩ hk
    dsimp only
    by_cases hl : i < s.length
    · have hx : 0 ≤ (i : Int) ∧ (i : Int) < (s.length : Int) := by omega
      rw [decide_eq_true (by omega), cond_true, if_pos hx]
      refine bind_eq (x := ((s, (s.length : Int), (i : Int), !okB (s.getD i 0), ()), ())) ?_ ?_
      · simp only [okB, okCh, Int.toNat_natCast]
        cases decide ((((s.getD i 0).toNat : Nat) : Int) ≥ 97) <;> cases decide ((((s.getD i 0).toNat : Nat) : Int) ≤ 122) <;> cases decide ((((s.getD i 0).toNat : Nat) : Int) ≥ 65) <;> cases decide ((((s.getD i 0).toNat : Nat) : Int) ≤ 90) <;> cases decide ((((s.getD i 0).toNat : Nat) : Int) ≥ 48) <;> cases decide ((((s.getD i 0).toNat : Nat) : Int) ≤ 57) <;> cases (((s.getD i 0).toNat : Nat) : Int) == 46 <;> cases (((s.getD i 0).toNat : Nat) : Int) == 95 <;> cases (((s.getD i 0).toNat : Nat) : Int) == 45 <;> rfl
      · dsimp only
        rw [Int.toNat_natCast, all_drop okB 0 hl]
        cases okB (s.getD i 0) with
        | false => rfl
        | true =>
          show k _ = _
          rw [wr1 i (by omega)]
          exact hk (s.length - (i + 1)) _ (by omega) ⟨i + 1, rfl, by omega, rfl⟩
    · rw [decide_eq_false (by omega), cond_false, Int.toNat_natCast, List.drop_eq_nil_of_le (by omega)]
      rfl
/-- What stands between the slashes. -/
def split : List UInt8 → List (List UInt8)
  | [] => [[]]
  | c :: r => if c = 47 then [] :: split r else match split r with
    | [] => [[c]]
    | h :: t => (c :: h) :: t
def prep (x : List UInt8) : List (List UInt8) → List (List UInt8)
  | [] => [x]
  | h :: t => (x ++ h) :: t
theorem split_ne (s : List UInt8) : split s ≠ [] := by
  cases s with
  | nil => simp [split]
  | cons c r => unfold split; split; simp; split <;> simp
theorem split_slash {c : UInt8} {r : List UInt8} (h : c = 47) : split (c :: r) = [] :: split r := by rw [split, if_pos h]
theorem split_other {c : UInt8} {r : List UInt8} (h : c ≠ 47) : split (c :: r) = prep [c] (split r) := by
  rw [split, if_neg h]; unfold prep; rcases split r with _ | ⟨h, t⟩ <;> rfl
theorem prep_prep (x y : List UInt8) (l : List (List UInt8)) (h : l ≠ []) : prep x (prep y l) = prep (x ++ y) l := by
  cases l with
  | nil => exact absurd rfl h
  | cons a t => simp [prep]
theorem split_len : ∀ s : List UInt8, (split s).length ≤ s.length + 1
  | [] => by simp [split]
  | c :: r => by
    have := split_len r
    by_cases h : c = 47
    · rw [split_slash h]; simp; omega
    · rw [split_other h]; unfold prep; split <;> simp_all; omega
theorem getD_cons {s : List UInt8} {i : Nat} (h : i < s.length) : s.drop i = s.getD i 0 :: s.drop (i + 1) := by
  rw [List.drop_eq_getElem_cons h, List.getD_eq_getElem?_getD, List.getElem?_eq_getElem h]; rfl
theorem take_snoc {s : List UInt8} {i f : Nat} (h : i < s.length) (hf : f ≤ i) : (s.take (i + 1)).drop f = (s.take i).drop f ++ [s.getD i 0] := by
  rw [List.take_add_one, List.drop_append_of_le_length (by simp; omega), List.getD_eq_getElem?_getD, List.getElem?_eq_getElem h]; rfl
theorem index_slash (s : List UInt8) : (Go.Lib.indexByte s 47 = -1 ∧ split s = [s]) ∨ ∃ k : Nat, k < s.length ∧ Go.Lib.indexByte s 47 = k ∧ split s = s.take k :: split (s.drop (k + 1)) ∧ s.count 47 = (s.drop (k + 1)).count 47 + 1 := by
  induction s with
  | nil => exact .inl ⟨rfl, rfl⟩
  | cons c r ih =>
    by_cases hc : c = 47
    · refine .inr ⟨0, by simp, ?_, ?_, ?_⟩
      · rw [hc]; rfl
      · rw [split_slash hc]; rfl
      · rw [hc]; simp
    · have hb : (c == 47) = false := by simp [hc]
      rcases ih with ⟨h1, h2⟩ | ⟨k, hk, h1, h2, h3⟩
      · refine .inl ⟨?_, ?_⟩
        · unfold Go.Lib.indexByte; rw [hb, h1]; rfl
        · rw [split_other hc, h2]; rfl
      · refine .inr ⟨k + 1, by simp; omega, ?_, ?_, ?_⟩
        · unfold Go.Lib.indexByte; rw [hb, h1]
          have : ((k : Int) == -1) = false := by rw [beq_eq_false_iff_ne]; omega
          simp [this]
        · rw [split_other hc, h2]; rfl
        · rw [List.count_cons, hb, h3]; simp
theorem count_slash (s : List UInt8) : (split s).length = s.count 47 + 1 := by
  induction s with
  | nil => rfl
  | cons c r ih =>
    by_cases hc : c = 47
    · rw [split_slash hc, hc]; simp [ih]
    · rw [split_other hc, List.count_cons]
      have hb : (c == 47) = false := by simp [hc]
      unfold prep
      rcases hsp : split r with _ | ⟨a, b⟩
      · exact absurd hsp (split_ne _)
      · rw [hsp] at ih; simp [hb] at ih ⊢; omega
theorem index_eq (s : List UInt8) : m_strings_Index_4 s = some (Go.Lib.indexByte s 47, ()) := by
  unfold m_strings_Index_4 m_stringslite_Index_3
  by_cases h : s = [47]
  · subst h; rfl
  · rw [show (([47] : List UInt8) == s) = false by rw [beq_eq_false_iff_ne]; exact fun h' => h h'.symm]
    rfl
theorem genSplit_eq (s : List UInt8) (hs : s.length ≤ 8796093022206) : m_strings_genSplit_2 s = some (split s, ()) := by
  unfold m_strings_genSplit_2
  refine bind_eq (x := (((s.count 47 : Nat) : Int), ())) rfl ?_
  have hcl : s.count 47 ≤ s.length := List.count_le_length
  dsimp only
  rw [wr ((s.length : Int) + 1) (by omega), wr (((s.count 47 : Nat) : Int) + 1) (by omega), if_neg (show ¬((s.length : Int) + 1 < ((s.count 47 : Nat) : Int) + 1) by omega), if_pos (by omega), wr (((s.count 47 : Nat) : Int) + 1 - 1) (by omega)]
  have hn : (((s.count 47 : Nat) : Int) + 1).toNat = s.count 47 + 1 := by omega
  rw [hn]
  refine bind_ex (loopC_some' _ (fun n t => ∃ (r : List UInt8) (i : Nat) (a : List (List UInt8)), t = ((r, (), (), ((s.count 47 : Nat) : Int) + 1 - 1, (), (i : Int), ()), a, ()) ∧ i + r.count 47 = s.count 47 ∧ r.length ≤ s.length ∧ a.length = s.count 47 + 1 ∧ a.take i ++ split r = split s ∧ n = r.length)
    (fun t => ∃ (r : List UInt8) (i : Nat) (a : List (List UInt8)), t = ((r, (), (i : Int), ()), a, ()) ∧ i ≤ s.count 47 ∧ a.length = s.count 47 + 1 ∧ a.take i ++ [r] = split s) ?_ _ s.length _ ⟨s, 0, _, rfl, by omega, by omega, by simp, rfl, rfl⟩ (by omega)) ?_
  · rintro n t k ⟨r, i, a, rfl, h1, h2, h3, h4, rfl⟩ hk
    dsimp only
    by_cases hl : i < s.count 47
    · rw [decide_eq_true (by omega), cond_true, index_eq, Option.bind_some]
      dsimp only
      rcases index_slash r with ⟨g1, g2⟩ | ⟨m, hm, g1, g2, g3⟩
      · rw [g1, decide_eq_true (by omega), cond_true]
        exact ⟨_, rfl, r, i, a, rfl, by omega, h3, by rw [g2] at h4; exact h4⟩
      · rw [g1, decide_eq_false (by omega), cond_false, wr ((m : Int) + 0) (by omega)]
        simp only [List.length_cons, List.length_nil]
        rw [show ((0 + 1 : Nat) : Int) = 1 from rfl, wr1 m (by omega), if_pos (by omega), if_pos (by omega), if_pos (by omega), if_pos (by omega), wr1 i (by omega)]
        refine hk (r.drop (m + 1)).length _ (by rw [List.length_drop]; omega) ⟨r.drop (m + 1), i + 1, a.set i (r.take m), ?_, by omega, by rw [List.length_drop]; omega, ?_, ?_, rfl⟩
        · simp only [Int.toNat_natCast, List.take_length, Int.add_zero]; rfl
        · rw [List.length_set]; exact h3
        · rw [List.take_add_one, List.take_set_of_le (by omega), ← h4, g2]
          rw [List.getElem?_set_self (by omega)]
          simp
    · rw [decide_eq_false (by omega), cond_false]
      refine ⟨_, rfl, r, i, a, rfl, by omega, h3, ?_⟩
      rcases index_slash r with ⟨g1, g2⟩ | ⟨m, hm, g1, g2, g3⟩
      · rw [g2] at h4; exact h4
      · omega
  · rintro t ⟨r, i, a, rfl, h1, h2, h3⟩
    dsimp only
    rw [if_pos (by omega), if_pos (by omega), wr1 i (by omega), if_pos (by rw [List.length_set]; omega)]
    rw [Int.toNat_natCast, Int.toNat_natCast, List.take_add_one, List.take_set_of_le (by omega), List.getElem?_set_self (by omega)]
    show some (a.take i ++ [r], ()) = _
    rw [h3]
theorem split_eq (s : List UInt8) (hs : s.length ≤ 8796093022206) : m_strings_Split_2 s = some (split s, ()) := by
  unfold m_strings_Split_2; rw [genSplit_eq s hs]; rfl
def names (s : List UInt8) : List (List UInt8) := if s.length ≤ 168 ∧ (split s).length ≤ 8 ∧ (split s).all nameOk = true then split s else []
def pathOk (s : List UInt8) : Bool := decide (s.length ≤ 168) && (decide ((split s).length ≤ 8) && (split s).all nameOk)
theorem names_ok (s : List UInt8) : names s = if pathOk s then split s else [] := by
  unfold names pathOk
  by_cases h1 : s.length ≤ 168 <;> by_cases h2 : (split s).length ≤ 8 <;> by_cases h3 : (split s).all nameOk = true <;> simp [h1, h2, h3]
theorem split_mem_len (s : List UInt8) : ∀ x ∈ split s, x.length ≤ s.length := by
  induction s with
  | nil => intro x hx; simp [split] at hx; subst hx; simp
  | cons c r ih =>
    intro x hx
    by_cases hc : c = 47
    · rw [split_slash hc] at hx
      rcases List.mem_cons.1 hx with rfl | hx
      · simp
      · have := ih x hx; simp; omega
    · rw [split_other hc] at hx
      unfold prep at hx
      rcases hsp : split r with _ | ⟨a, b⟩
      · exact absurd hsp (split_ne _)
      · rw [hsp] at hx ih
        rcases List.mem_cons.1 hx with rfl | hx
        · have := ih a (by simp); simp; omega
        · have := ih x (by simp [hx]); simp; omega
/-- Names of at most twenty bytes, at most eight: the text is of at most 167. -/
theorem split_sum (s : List UInt8) : s.length + 1 = ((split s).map (fun x => x.length + 1)).sum := by
  induction s with
  | nil => rfl
  | cons c r ih =>
    by_cases hc : c = 47
    · rw [split_slash hc]; simp at ih ⊢; omega
    · rw [split_other hc]; unfold prep
      rcases hsp : split r with _ | ⟨a, b⟩
      · exact absurd hsp (split_ne _)
      · rw [hsp] at ih; simp at ih ⊢; omega
theorem sum_le {l : List (List UInt8)} (h : l.all nameOk = true) : (l.map (fun x => x.length + 1)).sum ≤ 21 * l.length := by
  induction l with
  | nil => simp
  | cons a t ih =>
    rw [List.all_cons, Bool.and_eq_true] at h
    have := ih h.2
    have h1 := h.1
    unfold nameOk at h1
    simp only [Bool.and_eq_true, decide_eq_true_eq] at h1
    simp; omega
theorem path_len {s : List UInt8} (h1 : (split s).length ≤ 8) (h2 : (split s).all nameOk = true) : s.length ≤ 167 := by
  have := split_sum s; have := sum_le h2; omega
theorem impl_names (s : List UInt8) : m_impl_Names s = some (names s, ()) := by
  unfold m_impl_Names
  by_cases hs : s.length ≤ 168
  · rw [decide_eq_false (by omega), cond_false, split_eq s (by omega), Option.bind_some]
    have hl := split_len s
    dsimp only
    by_cases h1 : (split s).length ≤ 8
    · rw [decide_eq_false (by omega), cond_false]
      refine joinC_of (loopC_inv _ (fun n t => ∃ i : Nat, t = ((split s, split s, ((split s).length : Int), (i : Int), ()), ()) ∧ i ≤ (split s).length ∧ n = (split s).length - i)
          (fun t => some (if ((split s).drop t.1.2.2.2.1.toNat).all nameOk then .inl ((split s, ()), ()) else .inr ([], ()))) ?_ _ (split s).length _ ⟨0, rfl, by omega, rfl⟩ (by omega)) ?_
      · rintro n t k ⟨i, rfl, hi, rfl⟩ hk
        dsimp only
        by_cases hl2 : i < (split s).length
        · rw [decide_eq_true (by omega), cond_true, if_pos (by omega), Int.toNat_natCast, all_drop nameOk (nilOf UInt8) hl2]
          have hm : ((split s).getD i (nilOf UInt8)).length ≤ s.length := by
            rw [List.getD_eq_getElem?_getD, List.getElem?_eq_getElem hl2]; exact split_mem_len s _ (List.getElem_mem hl2)
          rw [impl_nameOk _ (by omega), Option.bind_some]
          dsimp only
          cases nameOk ((split s).getD i (nilOf UInt8)) with
          | false => rfl
          | true =>
            show k _ = _
            rw [wr1 i (by omega)]
            exact hk ((split s).length - (i + 1)) _ (by omega) ⟨i + 1, rfl, by omega, rfl⟩
        · rw [decide_eq_false (by omega), cond_false, Int.toNat_natCast, List.drop_eq_nil_of_le (by omega)]
          rfl
      · show joinC (some (if ((split s).drop 0).all nameOk = true then _ else _)) _ = _
        rw [List.drop_zero]
        unfold names
        cases h2 : (split s).all nameOk with
        | false => simp; rfl
        | true => rw [if_pos (show s.length ≤ 168 ∧ (split s).length ≤ 8 ∧ true = true from And.intro hs (And.intro h1 rfl))]; rfl
    · rw [decide_eq_true (by omega), cond_true]
      unfold names
      rw [if_neg (fun h => h1 h.2.1)]
  · rw [decide_eq_true (by omega), cond_true]
    unfold names
    rw [if_neg (fun h => hs h.1)]
theorem impl_pathOk (s : List UInt8) : m_impl_PathOk s = some (pathOk s, ()) := by
  unfold m_impl_PathOk
  rw [impl_names, Option.bind_some, names_ok]
  cases pathOk s with
  | false => rfl
  | true =>
    show some (decide (((split s).length : Int) > 0), ()) = _
    rw [decide_eq_true (by have := List.length_pos_iff.2 (split_ne s); omega)]
/-! ### rows that are measured, copied, compared -/
section
variable {α : Type}
def szSG (f : α → Int → Option (Int × Unit)) (d : α) (l : List α) (n : Int) : Option (Int × Unit) :=
  bif decide (IntKind.wrap IntKind.i64 (n - (l.length : Int)) < 0) then some (-1, ())
  else joinC (loopC (l.length + Int.toNat (IntKind.wrap IntKind.i64 (n - (l.length : Int))) + Int.toNat (0 : Int) + 300)
    (fun (s : (List α × Int × Int × Unit) × Unit) (k : (List α × Int × Int × Unit) × Unit → Option ((Int × Unit) × Unit ⊕ Int × Unit)) =>
      bif decide (s.fst.snd.snd.fst < (↑(List.length s.fst.fst) : Int)) then
        if (0 : Int) ≤ s.fst.snd.snd.fst ∧ s.fst.snd.snd.fst < (↑(List.length s.fst.fst) : Int) then
          Option.bind (f (List.getD s.fst.fst (Int.toNat s.fst.snd.snd.fst) d) s.fst.snd.fst) fun (r : Int × Unit) =>
            bif decide (r.fst < (0 : Int)) then some (Sum.inr ((-1 : Int), ()))
            else k ((s.fst.fst, r.fst, IntKind.wrap IntKind.i64 (s.fst.snd.snd.fst + (1 : Int)), ()), ())
        else none
      else some (Sum.inl ((s.fst.snd.fst, ()), ())))
    ((l, IntKind.wrap IntKind.i64 (n - (l.length : Int)), (0 : Int), ()), ()))
    fun (s : (Int × Unit) × Unit) => some s.fst
theorem getD_mem {l : List α} {i : Nat} (d : α) (h : i < l.length) : l.getD i d ∈ l := by
  rw [List.getD_eq_getElem?_getD, List.getElem?_eq_getElem h]; exact List.getElem_mem h
theorem drop_getD {l : List α} {i : Nat} (d : α) (h : i < l.length) : l.drop i = l.getD i d :: l.drop (i + 1) := by
  rw [List.drop_eq_getElem_cons h, List.getD_eq_getElem?_getD, List.getElem?_eq_getElem h]; rfl
theorem szS_eq (f : α → Int → Option (Int × Unit)) (d : α) (H B : α → Prop) (hf : ∀ x n, H x → 0 ≤ n → n ≤ 1048576 → ∃ m, f x n = some (m, ()) ∧ (0 ≤ m → m ≤ n ∧ B x))
    (l : List α) (hl : ∀ x ∈ l, H x) (hl2 : l.length ≤ 9223372036854775807) (n : Int) (hn : 0 ≤ n ∧ n ≤ 1048576) : ∃ m, szSG f d l n = some (m, ()) ∧ (0 ≤ m → m ≤ n - l.length ∧ ∀ x ∈ l, B x) := by
  unfold szSG
  rw [wr (n - _) (by omega)]
  by_cases q : n - (l.length : Int) < 0
  · rw [decide_eq_true q]; exact ⟨_, rfl, fun h => by omega⟩
  · rw [decide_eq_false q, cond_false]
    have key := loopC_some' (fun (s : (List α × Int × Int × Unit) × Unit) (k : (List α × Int × Int × Unit) × Unit → Option ((Int × Unit) × Unit ⊕ Int × Unit)) =>
      bif decide (s.fst.snd.snd.fst < (↑(List.length s.fst.fst) : Int)) then
        if (0 : Int) ≤ s.fst.snd.snd.fst ∧ s.fst.snd.snd.fst < (↑(List.length s.fst.fst) : Int) then
          Option.bind (f (List.getD s.fst.fst (Int.toNat s.fst.snd.snd.fst) d) s.fst.snd.fst) fun (r : Int × Unit) =>
            bif decide (r.fst < (0 : Int)) then some (Sum.inr ((-1 : Int), ()))
            else k ((s.fst.fst, r.fst, IntKind.wrap IntKind.i64 (s.fst.snd.snd.fst + (1 : Int)), ()), ())
        else none
      else some (Sum.inl ((s.fst.snd.fst, ()), ())))
      (fun c t => ∃ (m : Int) (i : Nat), t = ((l, m, (i : Int), ()), ()) ∧ i ≤ l.length ∧ 0 ≤ m ∧ m ≤ n - l.length ∧ (∀ x ∈ l.take i, B x) ∧ c = l.length - i)
      (fun r => r = .inr (-1, ()) ∨ ∃ m, r = .inl ((m, ()), ()) ∧ m ≤ n - l.length ∧ ∀ x ∈ l, B x)
      (by
        rintro c t k ⟨m, i, rfl, hi, h0, h1, h2, rfl⟩ hk
        dsimp only
        by_cases hlt : i < l.length
        · rw [decide_eq_true (by omega), cond_true, if_pos (by omega), Int.toNat_natCast]
          obtain ⟨m', e, hm⟩ := hf (l.getD i d) m (hl _ (getD_mem d hlt)) h0 (by omega)
          rw [e, Option.bind_some]
          dsimp only
          by_cases q' : m' < 0
          · rw [decide_eq_true q']; exact ⟨_, rfl, .inl rfl⟩
          · rw [decide_eq_false q', cond_false, wr1 i (by omega)]
            obtain ⟨g1, g2⟩ := hm (by omega)
            refine hk (l.length - (i + 1)) _ (by omega) ⟨m', i + 1, rfl, by omega, by omega, by omega, fun x hx => ?_, rfl⟩
            rw [List.take_add_one, List.mem_append] at hx
            rcases hx with hx | hx
            · exact h2 x hx
            · rw [List.getElem?_eq_getElem hlt] at hx
              rw [List.getD_eq_getElem?_getD, List.getElem?_eq_getElem hlt] at g2
              simp at hx; subst hx; exact g2
        · rw [decide_eq_false (by omega), cond_false]
          refine ⟨_, rfl, .inr ⟨m, rfl, h1, ?_⟩⟩
          rw [List.take_of_length_le (by omega)] at h2; exact h2)
      (l.length + Int.toNat (n - (l.length : Int)) + Int.toNat (0 : Int) + 300) l.length ((l, n - (l.length : Int), 0, ()), ()) ⟨n - l.length, 0, rfl, by omega, by omega, by omega, by simp, rfl⟩ (by omega)
    obtain ⟨r, hr, hq⟩ := key
    rw [hr]
    rcases hq with rfl | ⟨m, rfl, g1, g2⟩
    · exact ⟨-1, rfl, fun h => by omega⟩
    · exact ⟨m, rfl, fun _ => ⟨g1, g2⟩⟩
def toSG (f : α → Option (α × Unit)) (d : α) (b : Nat) (l : List α) : Option (List α × Unit) :=
  if (0 : Int) ≤ (↑(List.length l) : Int) ∧ (↑(List.length l) : Int) ≤ (↑(List.length l) : Int) ∧ (↑b : Int) * (↑(List.length l) : Int) ≤ (140737488355328 : Int) ∧ (↑(List.length l) : Int) < (2 : Int) ^ (62 : Nat) then
    Option.bind (loopC (l.length + Int.toNat (0 : Int) + List.length (List.replicate (Int.toNat (↑(List.length l) : Int)) d) + 300)
      (fun (s : (List α × Unit × Int × Unit) × List α × Unit) (k : (List α × Unit × Int × Unit) × List α × Unit → Option ((Unit × Unit) × List α × Unit)) =>
        bif decide (s.fst.snd.snd.fst < (↑(List.length s.fst.fst) : Int)) then
          if (0 : Int) ≤ s.fst.snd.snd.fst ∧ s.fst.snd.snd.fst < (↑(List.length s.fst.fst) : Int) then
            Option.bind (f (List.getD s.fst.fst (Int.toNat s.fst.snd.snd.fst) d)) fun (r : α × Unit) =>
              if (0 : Int) ≤ s.fst.snd.snd.fst ∧ s.fst.snd.snd.fst < (↑(List.length s.snd.fst) : Int) then
                if Int.toNat s.fst.snd.snd.fst < List.length s.snd.fst then
                  k ((s.fst.fst, (), IntKind.wrap IntKind.i64 (s.fst.snd.snd.fst + (1 : Int)), ()), List.set s.snd.fst (Int.toNat s.fst.snd.snd.fst) r.fst, ())
                else none
              else none
          else none
        else some (((), ()), s.snd))
      ((l, (), (0 : Int), ()), List.replicate (Int.toNat (↑(List.length l) : Int)) d, ()))
      fun (s : (Unit × Unit) × List α × Unit) => some s.snd
  else none
theorem toS_eq (f : α → Option (α × Unit)) (d : α) (b : Nat) (hf : ∀ x, f x = some (x, ())) (l : List α) (hl : l.length ≤ 1048576) (hb : b ≤ 134217728) : toSG f d b l = some (l, ()) := by
  unfold toSG
  have h2 : (b : Int) * (l.length : Int) ≤ 140737488355328 := by
    have h3 : (b : Int) * (l.length : Int) ≤ 134217728 * 1048576 := Int.mul_le_mul (by omega) (by omega) (by omega) (by omega)
    omega
  rw [if_pos ⟨by omega, by omega, h2, by show (l.length : Int) < 4611686018427387904; omega⟩]
  refine bind_ex (loopC_some' _ (fun n t => ∃ (i : Nat) (o : List α), t = ((l, (), (i : Int), ()), o, ()) ∧ i ≤ l.length ∧ o.length = l.length ∧ o.take i = l.take i ∧ n = l.length - i)
    (fun t => t = (((), ()), l, ())) ?_ _ l.length _ ⟨0, _, rfl, by omega, by simp, by simp, rfl⟩ (by omega)) ?_
  · rintro n t k ⟨i, o, rfl, hi, ho, he, rfl⟩ hk
    dsimp only
    by_cases hlt : i < l.length
    · rw [decide_eq_true (by omega), cond_true, if_pos (by omega), Int.toNat_natCast, hf, Option.bind_some, if_pos (by omega), if_pos (by omega), wr1 i (by omega)]
      refine hk (l.length - (i + 1)) _ (by omega) ⟨i + 1, _, rfl, by omega, by rw [List.length_set]; exact ho, ?_, rfl⟩
      rw [List.take_add_one, List.take_add_one, List.take_set_of_le (by omega), he, List.getElem?_set_self (by omega), List.getElem?_eq_getElem hlt, List.getD_eq_getElem?_getD, List.getElem?_eq_getElem hlt]
      rfl
    · rw [decide_eq_false (by omega), cond_false]
      refine ⟨_, rfl, ?_⟩
      rw [List.take_of_length_le (by omega), List.take_of_length_le (by omega)] at he
      rw [he]
  · rintro t rfl; rfl
def eqSG (f : α → α → Option (Bool × Unit)) (d : α) (a b : List α) : Option (Bool × Unit) :=
  bif (↑(List.length a) : Int) != (↑(List.length b) : Int) then some (false, ())
  else joinC (loopC (a.length + b.length + Int.toNat (0 : Int) + 300)
    (fun (s : (List α × List α × Int × Unit) × Unit) (k : (List α × List α × Int × Unit) × Unit → Option (Unit × Unit ⊕ Bool × Unit)) =>
      bif decide (s.fst.snd.snd.fst < (↑(List.length s.fst.fst) : Int)) then
        if (0 : Int) ≤ s.fst.snd.snd.fst ∧ s.fst.snd.snd.fst < (↑(List.length s.fst.fst) : Int) then
          if (0 : Int) ≤ s.fst.snd.snd.fst ∧ s.fst.snd.snd.fst < (↑(List.length s.fst.snd.fst) : Int) then
            Option.bind (f (List.getD s.fst.fst (Int.toNat s.fst.snd.snd.fst) d) (List.getD s.fst.snd.fst (Int.toNat s.fst.snd.snd.fst) d)) fun (r : Bool × Unit) =>
              bif !r.fst then some (Sum.inr (false, ()))
              else k ((s.fst.fst, s.fst.snd.fst, IntKind.wrap IntKind.i64 (s.fst.snd.snd.fst + (1 : Int)), ()), ())
          else none
        else none
      else some (Sum.inl ((), ())))
    ((a, b, (0 : Int), ()), ()))
    fun (s : Unit × Unit) => some (true, ())
theorem eqS_eq (f : α → α → Option (Bool × Unit)) (d : α) (hf : ∀ x, f x x = some (true, ())) (l : List α) (hl : l.length ≤ 1099511627776) : eqSG f d l l = some (true, ()) := by
  unfold eqSG
  rw [show ((l.length : Int) != (l.length : Int)) = false by simp, cond_false]
  refine joinC_ex (loopC_some' _ (fun n t => ∃ i : Nat, t = ((l, l, (i : Int), ()), ()) ∧ i ≤ l.length ∧ n = l.length - i) (fun t => t = .inl ((), ())) ?_ _ l.length _ ⟨0, rfl, by omega, rfl⟩ (by omega)) ?_
  · rintro n t k ⟨i, rfl, hi, rfl⟩ hk
    dsimp only
    by_cases hlt : i < l.length
    · rw [decide_eq_true (by omega), cond_true, if_pos (by omega), if_pos (by omega), hf, Option.bind_some]
      show ∃ r, k _ = some r ∧ _
      rw [wr1 i (by omega)]
      exact hk (l.length - (i + 1)) _ (by omega) ⟨i + 1, rfl, by omega, rfl⟩
    · rw [decide_eq_false (by omega)]; exact ⟨_, rfl, rfl⟩
  · rintro t rfl; rfl
/-- A walk along a row that stops at the first that is not right. -/
theorem allLoop {S R : Type} (F : S → (S → Option R) → Option R) (st : Nat → S) (len : Nat) (ok : Nat → Bool) (yes no : R)
    (hstep : ∀ i k, i < len → F (st i) k = cond (ok i) (k (st (i + 1))) (some no)) (hend : ∀ k, F (st len) k = some yes) (fuel : Nat) (hf : len < fuel) :
    loopC fuel F (st 0) = some (cond ((List.range len).all ok) yes no) := by
  have key := loopC_inv F (fun n s => ∃ i, i ≤ len ∧ s = st i ∧ n = len - i ∧ ∀ j, j < i → ok j = true) (fun _ => some (cond ((List.range len).all ok) yes no)) (by
    rintro n s k ⟨i, hi, rfl, rfl, hj⟩ hk
    by_cases hlt : i < len
    · rw [hstep i k hlt]
      cases ho : ok i with
      | false =>
        have : (List.range len).all ok = false := by
          rw [List.all_eq_false]; exact ⟨i, List.mem_range.2 hlt, by simp [ho]⟩
        rw [this]; rfl
      | true =>
        rw [cond_true]
        refine hk (len - (i + 1)) _ (by omega) ⟨i + 1, by omega, rfl, rfl, fun j hj' => ?_⟩
        by_cases h : j = i
        · subst h; exact ho
        · exact hj j (by omega)
    · have : i = len := by omega
      subst this
      rw [hend]
      have : (List.range i).all ok = true := by rw [List.all_eq_true]; exact fun j hj' => hj j (List.mem_range.1 hj')
      rw [this]; rfl)
  exact key fuel len _ ⟨0, by omega, rfl, by omega, fun j hj => by omega⟩ hf
end
def Cur (s : List Int × Int × Int × Unit) : Prop := 0 ≤ s.2.1 ∧ s.2.1 ≤ (s.1.length : Int) ∧ s.1.length ≤ 1048576
theorem and255 (x : Int) : 0 ≤ bitsOf .and .i64 x 255 ∧ bitsOf .and .i64 x 255 ≤ 255 := by
  have h : (BitVec.ofInt 64 x &&& BitVec.ofInt 64 255).toNat ≤ 255 := by rw [BitVec.toNat_and]; exact Nat.and_le_right
  show 0 ≤ IntKind.wrap .i64 ((BitVec.ofInt 64 x &&& BitVec.ofInt 64 255).toNat : Int) ∧ IntKind.wrap .i64 ((BitVec.ofInt 64 x &&& BitVec.ofInt 64 255).toNat : Int) ≤ 255
  rw [wr _ (by omega)]; omega
theorem byte_some (s : List Int × Int × Int × Unit) (h : Cur s) : ∃ b s', m_spec_l01Byte s = some (b, s', ()) ∧ 0 ≤ b ∧ b ≤ 255 ∧ Cur s' := by
  obtain ⟨c, i, x, u⟩ := s
  obtain ⟨h1, h2, h3⟩ := h
  simp only at h1 h2 h3
  unfold m_spec_l01Byte
  rw [if_pos (by decide), if_pos (by decide)]
  dsimp only
  by_cases hl : i < (c.length : Int)
  · rw [decide_eq_true hl, cond_true, if_pos ⟨h1, hl⟩]
    refine ⟨_, _, rfl, (and255 _).1, (and255 _).2, ?_⟩
    refine ⟨?_, ?_, h3⟩
    · show 0 ≤ IntKind.wrap .i64 (i + 1); rw [wr _ (by omega)]; omega
    · show IntKind.wrap .i64 (i + 1) ≤ _; rw [wr _ (by omega)]; show i + 1 ≤ (c.length : Int); omega
  · rw [decide_eq_false hl, cond_false]
    exact ⟨_, _, rfl, (and255 _).1, (and255 _).2, h1, h2, h3⟩
theorem below_some (n : Int) (hn : 0 < n) (s : List Int × Int × Int × Unit) (h : Cur s) : ∃ b s', m_spec_l01Below n s = some (b, s', ()) ∧ (n ≤ 256 → 0 ≤ b ∧ b < n) ∧ Cur s' := by
  obtain ⟨c, i, x, u⟩ := s
  unfold m_spec_l01Below
  rw [decide_eq_false (show ¬ n ≤ 0 by omega), cond_false]
  by_cases h256 : n ≤ 256
  · rw [decide_eq_true h256, cond_true]
    obtain ⟨b, s', e, hb1, hb2, hc⟩ := byte_some (c, i, x, ()) h
    obtain ⟨c', i', x', u'⟩ := s'
    simp only
    rw [e, Option.bind_some]
    simp only
    rw [if_pos (by omega)]
    exact ⟨_, _, rfl, fun _ => ⟨Int.tmod_nonneg _ hb1, Int.tmod_lt_of_pos _ hn⟩, hc⟩
  · rw [decide_eq_false h256, cond_false]
    obtain ⟨b, s1, e, _, _, hc⟩ := byte_some (c, i, x, ()) h
    obtain ⟨c1, i1, x1, u1⟩ := s1
    simp only
    rw [e, Option.bind_some]
    simp only
    obtain ⟨b2, s2, e2, _, _, hc2⟩ := byte_some (c1, i1, x1, ()) hc
    obtain ⟨c2, i2, x2, u2⟩ := s2
    rw [e2, Option.bind_some]
    simp only
    obtain ⟨b3, s3, e3, _, _, hc3⟩ := byte_some (c2, i2, x2, ()) hc2
    obtain ⟨c3, i3, x3, u3⟩ := s3
    rw [e3, Option.bind_some]
    simp only
    obtain ⟨b4, s4, e4, _, _, hc4⟩ := byte_some (c3, i3, x3, ()) hc3
    obtain ⟨c4, i4, x4, u4⟩ := s4
    rw [e4, Option.bind_some]
    simp only
    rw [if_pos (by omega)]
    exact ⟨_, _, rfl, fun h => absurd h h256, hc4⟩
theorem once_some (n : Int) (hn : 0 < n) (s : List Int × Int × Int × Unit) (h : Cur s) : ∃ b s', m_spec_l01Once n s = some (b, s', ()) ∧ Cur s' := by
  obtain ⟨c, i, x, u⟩ := s
  unfold m_spec_l01Once
  obtain ⟨b, s1, e, _, hc⟩ := below_some n hn (c, i, x, ()) h
  obtain ⟨c1, i1, x1, u1⟩ := s1
  simp only
  rw [e, Option.bind_some]
  exact ⟨_, _, rfl, hc⟩
theorem pick_some (l : List (List UInt8)) (hl : 0 < l.length) (hl2 : l.length ≤ 256) (m : Nat) (hm : ∀ x ∈ l, x.length ≤ m) (s : List Int × Int × Int × Unit) (h : Cur s) : ∃ t s', m_spec_l01Pick l s = some (t, s', ()) ∧ t.length ≤ m ∧ Cur s' := by
  obtain ⟨c, i, x, u⟩ := s
  unfold m_spec_l01Pick
  obtain ⟨b, s1, e, hb, hc⟩ := below_some (l.length : Int) (by omega) (c, i, x, ()) h
  obtain ⟨c1, i1, x1, u1⟩ := s1
  obtain ⟨hb1, hb2⟩ := hb (by omega)
  simp only
  rw [e, Option.bind_some]
  simp only
  rw [if_pos ⟨hb1, hb2⟩]
  refine ⟨_, _, rfl, ?_, hc⟩
  have hlt : b.toNat < l.length := by omega
  rw [List.getD_eq_getElem?_getD, List.getElem?_eq_getElem hlt]
  exact hm _ (List.getElem_mem hlt)
theorem new_some (c : List Int) (hc : c.length ≤ 1048576) : ∃ r, m_spec_l01New c = some r ∧ Cur r.2.1 := by
  unfold m_spec_l01New
  refine bind_some' (Q := fun r => r.1.1 = c) (loopC_some' _ (fun n s => ∃ (x : Int) (i : Nat), s = ((c, x, (i : Int), ()), ()) ∧ i ≤ c.length ∧ n = c.length - i) _ ?_ _ c.length _ ⟨_, 0, rfl, by omega, rfl⟩ (by omega)) ?_
  · rintro n s k ⟨x, i, rfl, hi, rfl⟩ hk
    dsimp only
    by_cases hl : i < c.length
    · rw [decide_eq_true (show (i : Int) < (c.length : Int) by omega), cond_true, Option.bind_some]
      dsimp only
      cases decide ((i : Int) < 4000) with
      | true =>
        rw [cond_true, if_pos (by omega)]
        exact hk (c.length - (i + 1)) _ (by omega) ⟨_, i + 1, by rw [wr _ (show -9223372036854775808 ≤ (i : Int) + 1 ∧ (i : Int) + 1 ≤ 9223372036854775807 by omega)]; rfl, by omega, rfl⟩
      | false => rw [cond_false]; exact ⟨_, rfl, rfl⟩
    · rw [decide_eq_false (by omega), cond_false, Option.bind_some]
      exact ⟨_, rfl, rfl⟩
  · rintro ⟨⟨c', x, u⟩, u2⟩ hq
    have hq' : c' = c := hq
    subst hq'
    exact ⟨_, rfl, by show (0 : Int) ≤ 0; omega, by show (0 : Int) ≤ _; omega, hc⟩
theorem pick_some' (l : List (List UInt8)) (m : Nat) (s : List Int × Int × Int × Unit) (hl : 0 < l.length ∧ l.length ≤ 256 ∧ ∀ x ∈ l, x.length ≤ m) (h : Cur s) : ∃ r, m_spec_l01Pick l s = some r ∧ r.1.length ≤ m ∧ Cur r.2.1 := by
  obtain ⟨t, s', e, ht, hc⟩ := pick_some l hl.1 hl.2.1 m hl.2.2 s h
  exact ⟨_, e, ht, hc⟩
theorem name_some (s : List Int × Int × Int × Unit) (h : Cur s) : ∃ r, m_spec_l02Name s = some r ∧ r.1.length ≤ 10 ∧ Cur r.2.1 := by
  obtain ⟨c, i, x, u⟩ := s
  unfold m_spec_l02Name
  refine bind_some' (pick_some' _ 10 (c, i, x, ()) (by decide) h) ?_
  rintro ⟨t, ⟨c1, i1, x1, u1⟩, u2⟩ ⟨ht, hc⟩
  exact ⟨_, rfl, ht, hc⟩
theorem path_some (s : List Int × Int × Int × Unit) (h : Cur s) : ∃ r, m_spec_l02Path s = some r ∧ r.1.length ≤ 100 ∧ Cur r.2.1 := by
  obtain ⟨c, i, x, u⟩ := s
  unfold m_spec_l02Path
  refine bind_some' (name_some (c, i, x, ()) h) ?_
  rintro ⟨t, ⟨c1, i1, x1, u1⟩, u2⟩ ⟨ht, hc⟩
  obtain ⟨b, s2, e, hb, hc2⟩ := below_some 4 (by omega) (c1, i1, x1, ()) hc
  obtain ⟨c2, i2, x2, u3⟩ := s2
  obtain ⟨hb1, hb2⟩ := hb (by omega)
  dsimp only
  rw [e, Option.bind_some]
  dsimp only
  have ht' : t.length ≤ 10 := ht
  refine bind_some' (Q := fun r => r.1.1.length ≤ 100 ∧ Cur r.2.1) (loopC_some' _ (fun n s => ∃ (o : List UInt8) (j : Nat) (cu : List Int × Int × Int × Unit), s = (((), o, b, (j : Int), ()), cu, ()) ∧ o.length ≤ 10 + 11 * j ∧ (j : Int) ≤ b ∧ Cur cu ∧ n = b.toNat - j) _ ?_ _ b.toNat _ ⟨t, 0, (c2, i2, x2, ()), rfl, by omega, by omega, hc2, rfl⟩ (by omega)) ?_
  · rintro n s k ⟨o, j, ⟨c3, i3, x3, u4⟩, rfl, ho, hj, hc3, rfl⟩ hk
    dsimp only
    by_cases hl : (j : Int) < b
    · rw [decide_eq_true hl, cond_true]
      have h63 : ∀ n : Nat, n ≤ 1000 → n < 2 ^ 63 := fun n hn => by show n < 9223372036854775808; omega
      rw [if_pos (h63 _ (by simp only [List.length_cons, List.length_nil]; omega))]
      refine bind_some' (name_some (c3, i3, x3, ()) hc3) ?_
      rintro ⟨t4, ⟨c4, i4, x4, u5⟩, u6⟩ ⟨ht4, hc4⟩
      have ht4' : t4.length ≤ 10 := ht4
      dsimp only
      rw [if_pos (h63 _ (by simp only [List.length_append, List.length_cons, List.length_nil]; omega))]
      exact hk (b.toNat - (j + 1)) _ (by omega) ⟨_, j + 1, (c4, i4, x4, ()), by rw [wr _ (show -9223372036854775808 ≤ (j : Int) + 1 ∧ (j : Int) + 1 ≤ 9223372036854775807 by omega)]; rfl, by simp only [List.length_append, List.length_cons, List.length_nil]; omega, by omega, hc4, rfl⟩
    · rw [decide_eq_false hl, cond_false]
      exact ⟨_, rfl, by show o.length ≤ 100; omega, hc3⟩
  · rintro ⟨⟨o, u7⟩, ⟨c5, i5, x5, u8⟩, u9⟩ ⟨ho, hc5⟩
    exact ⟨_, rfl, ho, hc5⟩
/-! ### rules -/
abbrev RuleT := Int × (Bool × (Bool × List UInt8))
def dR : RuleT := (Int.ofNat (nat_lit 0), false, false, nilOf UInt8)
section
variable {α β : Type}
theorem list_range (l : List α) (d : α) : l = (List.range l.length).map (fun i => l.getD i d) := by
  refine List.ext_getElem (by simp) (fun i h1 h2 => ?_)
  simp [List.getElem?_eq_getElem h1]
theorem range_all (l : List α) (d : α) (f : α → Bool) : (List.range l.length).all (fun i => f (l.getD i d)) = l.all f := by
  have h : ((List.range l.length).map (fun i => l.getD i d)).all f = l.all f := by rw [← list_range l d]
  rw [← h, List.all_map]; rfl
theorem range_find (l : List α) (d : α) (g : α → Option β) : (List.range l.length).findSome? (fun i => g (l.getD i d)) = l.findSome? g := by
  have h : ((List.range l.length).map (fun i => l.getD i d)).findSome? g = l.findSome? g := by rw [← list_range l d]
  rw [← h, List.findSome?_map]; rfl
end
theorem findLoop {S R : Type} (F : S → (S → Option R) → Option R) (st : Nat → S) (len : Nat) (hit : Nat → Option R) (fin : R)
    (hstep : ∀ i k, i < len → F (st i) k = (match hit i with | some r => some r | none => k (st (i + 1)))) (hend : ∀ k, F (st len) k = some fin) (fuel : Nat) (hf : len < fuel) :
    loopC fuel F (st 0) = some (((List.range len).findSome? hit).getD fin) := by
  have key := loopC_inv F (fun n s => ∃ i, i ≤ len ∧ s = st i ∧ n = len - i ∧ ∀ j, j < i → hit j = none) (fun _ => some (((List.range len).findSome? hit).getD fin)) (by
    rintro n s k ⟨i, hi, rfl, rfl, hj⟩ hk
    by_cases hlt : i < len
    · rw [hstep i k hlt]
      cases ho : hit i with
      | some r =>
        have : (List.range len).findSome? hit = some r := by
          rw [List.findSome?_eq_some_iff]
          refine ⟨List.range i, i, (List.range (len - (i + 1))).map (fun x => x + (i + 1)), ?_, ho, fun x hx => hj x (List.mem_range.1 hx)⟩
          refine List.ext_getElem (by simp; omega) (fun n h1 h2 => ?_)
          rw [List.getElem_range, List.getElem_append]
          split
          · simp
          · rename_i h
            simp at h
            rcases Nat.lt_or_ge i n with h' | h'
            · obtain ⟨m, rfl⟩ : ∃ m, n = i + 1 + m := ⟨n - (i + 1), by omega⟩
              simp only [List.length_range]
              rw [List.getElem_cons, dif_neg (by omega)]
              simp; omega
            · have : n = i := by omega
              subst this; simp
        rw [this]; rfl
      | none =>
        refine hk (len - (i + 1)) _ (by omega) ⟨i + 1, by omega, rfl, rfl, fun j hj' => ?_⟩
        by_cases h : j = i
        · subst h; exact ho
        · exact hj j (by omega)
    · have : i = len := by omega
      subst this
      rw [hend]
      have : (List.range i).findSome? hit = none := by rw [List.findSome?_eq_none_iff]; exact fun j hj' => hj j (List.mem_range.1 hj')
      rw [this]; rfl)
  exact key fuel len _ ⟨0, by omega, rfl, by omega, fun j hj => by omega⟩ hf
def patB (p : List UInt8) : Bool := decide (1 ≤ p.length ∧ p.length ≤ 60) && (pieces p).isSome
theorem impl_patOk (p : List UInt8) : m_impl_PatternOk p = some (patB p, ()) := by
  unfold m_impl_PatternOk patB
  rw [impl_pieces_eq, Option.bind_some]
  by_cases h : 1 ≤ p.length ∧ p.length ≤ 60
  · rw [if_pos h, decide_eq_true h]; cases pieces p <;> rfl
  · rw [if_neg h, decide_eq_false h]; rfl
theorem spec_patOk (p : List UInt8) : m_spec_PatternOk p = some (patB p, ()) := by
  unfold m_spec_PatternOk patB
  rw [spec_pieces_eq, Option.bind_some]
  by_cases h : 1 ≤ p.length ∧ p.length ≤ 60
  · rw [if_pos h, decide_eq_true h]; cases pieces p <;> rfl
  · rw [if_neg h, decide_eq_false h]; rfl
def edge (p : List UInt8) (i : Nat) : Bool := ((p.getD i 0).toNat : Int) == 47
theorem edge_iff (p : List UInt8) (i : Nat) : edge p i = (p.getD i 0 == 47) := by
  unfold edge
  rw [Bool.eq_iff_iff, beq_iff_eq, beq_iff_eq, ← UInt8.toNat_inj]
  exact ⟨fun h => by simpa using (by omega : (p.getD i 0).toNat = 47), fun h => by have h : (p.getD i 0).toNat = 47 := h; omega⟩
def ruleOk (r : RuleT) : Bool := cond (r.1 == 4) (!r.2.1 && (!r.2.2.1 && r.2.2.2 == [])) (decide (r.1 ≥ 0 ∧ r.1 ≤ 3) && (patB r.2.2.2 && (!edge r.2.2.2 0 && (!edge r.2.2.2 (r.2.2.2.length - 1) && r.2.2.2.all (fun b => !(b == 32))))))
theorem patB_len {p : List UInt8} (h : patB p = true) : 1 ≤ p.length ∧ p.length ≤ 60 := by
  unfold patB at h; rw [Bool.and_eq_true, decide_eq_true_eq] at h; exact h.1
theorem eqB (b : UInt8) (n : Nat) (hn : n < 256) : (((b.toNat : Nat) : Int) == (n : Int)) = (b == UInt8.ofNat n) := by
  rw [Bool.eq_iff_iff, beq_iff_eq, beq_iff_eq, ← UInt8.toNat_inj]
  simp only [UInt8.toNat_ofNat']
  rw [Nat.mod_eq_of_lt (by omega)]
  omega
theorem spec_ruleOk (r : RuleT) (h10 : (10 : UInt8) ∉ r.2.2.2) : m_spec_RuleOk r = some (ruleOk r, ()) := by
  obtain ⟨kd, rt, di, p⟩ := r
  dsimp only at h10
  unfold m_spec_RuleOk ruleOk
  dsimp only
  cases kd == 4 with
  | true =>
    simp only [cond_true]
    cases rt <;> cases di <;> rfl
  | false =>
    simp only [cond_false]
    refine bind_eq (x := (((), !(decide (kd ≥ 0 ∧ kd ≤ 3) && (patB p && (!edge p 0 && !edge p (p.length - 1)))), ()), (kd, rt, di, p, ()), ())) ?_ ?_
    · rw [l01In_eq, Option.bind_some]
      cases decide (kd ≥ 0 ∧ kd ≤ 3) with
      | false => rfl
      | true =>
        simp only [Bool.not_true, cond_false, Bool.true_and]
        rw [spec_patOk, Option.bind_some]
        cases hp : patB p with
        | false => rfl
        | true =>
          obtain ⟨h1, h2⟩ := patB_len hp
          simp only [Bool.not_true, cond_false, Bool.true_and]
          rw [if_pos (by omega)]
          show (bif edge p 0 then _ else _) = _
          cases edge p 0 with
          | true => rfl
          | false =>
            simp only [cond_false, Bool.not_false, Bool.true_and]
            rw [wr _ (by omega), if_pos (by omega), show Int.toNat ((p.length : Int) - 1) = p.length - 1 by omega, Bool.not_not]
            rfl
    · dsimp only
      cases hc : (decide (kd ≥ 0 ∧ kd ≤ 3) && (patB p && (!edge p 0 && !edge p (p.length - 1)))) with
      | false =>
        simp only [Bool.not_false, cond_true]
        have : (decide (kd ≥ 0 ∧ kd ≤ 3) && (patB p && (!edge p 0 && (!edge p (p.length - 1) && p.all fun b => !b == 32)))) = false := by
          revert hc; cases decide (kd ≥ 0 ∧ kd ≤ 3) <;> cases patB p <;> cases edge p 0 <;> cases edge p (p.length - 1) <;> simp
        rw [this]
      | true =>
        simp only [Bool.not_true, cond_false]
        have hpl : p.length ≤ 60 := by
          have : patB p = true := by
            cases h : patB p with
            | true => rfl
            | false => rw [h] at hc; simp at hc
          exact (patB_len this).2
        have hr : (decide (kd ≥ 0 ∧ kd ≤ 3) && (patB p && (!edge p 0 && (!edge p (p.length - 1) && p.all fun b => !b == 32)))) = (p.all fun b => !b == 32) := by
          revert hc; cases decide (kd ≥ 0 ∧ kd ≤ 3) <;> cases patB p <;> cases edge p 0 <;> cases edge p (p.length - 1) <;> simp
        rw [hr]
        refine joinC_of (allLoop _ (fun i => (((), (i : Int), ()), (kd, rt, di, p, ()), ())) p.length (fun i => !(p.getD i 0 == 32)) (.inl ((), ())) (.inr (false, ())) ?_ ?_ _ (by omega)) ?_
        · intro i k hi
          dsimp only
          rw [decide_eq_true (by omega), cond_true, if_pos (by omega)]
          rw [Int.toNat_natCast]
          have e32 : (((p.getD i 0).toNat : Int) == 32) = (p.getD i 0 == 32) := eqB _ 32 (by omega)
          have e10 : (((p.getD i 0).toNat : Int) == 10) = false := by
            have := eqB (p.getD i 0) 10 (by omega)
            rw [show ((10 : Nat) : Int) = 10 from rfl] at this
            rw [this, beq_eq_false_iff_ne]
            intro h
            exact h10 (by rw [show (10 : UInt8) = UInt8.ofNat 10 from rfl, ← h]; exact getD_mem 0 hi)
          rw [e32, e10, if_pos (by omega)]
          cases p.getD i 0 == 32 with
          | true => rfl
          | false => simp only [cond_false, Option.bind_some, Bool.not_false, cond_true]; rw [wr1 i (by omega)]
        · intro k; dsimp only; rw [decide_eq_false (by omega)]; rfl
        · rw [range_all p 0 (fun b => !(b == 32))]
          cases p.all fun b => !(b == 32) <;> rfl
theorem hasSuffix_eq (p : List UInt8) (h : 1 ≤ p.length ∧ p.length ≤ 60) : m_strings_HasSuffix p [47] = some (edge p (p.length - 1), ()) := by
  unfold m_strings_HasSuffix m_stringslite_HasSuffix
  simp only [List.length_cons, List.length_nil]
  rw [decide_eq_true (by omega), cond_true, wr _ (by omega), if_pos (by omega)]
  simp only [Option.bind_some]
  rw [show Int.toNat ((p.length : Int) - ((0 + 1 : Nat) : Int)) = p.length - 1 by omega, show Int.toNat (p.length : Int) = p.length by omega, List.take_length, edge_iff]
  have hlt : p.length - 1 < p.length := by omega
  rw [drop_getD 0 hlt, show p.length - 1 + 1 = p.length by omega, List.drop_length]
  congr 2
  rw [Bool.eq_iff_iff]; simp
theorem slIndex (s : List UInt8) : m_stringslite_Index_3 s = some (Go.Lib.indexByte s 47, ()) := by
  have := index_eq s
  unfold m_strings_Index_4 at this
  cases h : m_stringslite_Index_3 s with
  | none => rw [h] at this; cases this
  | some v => rw [h] at this; exact this
theorem index_neg (s : List UInt8) (c : UInt8) : decide (Go.Lib.indexByte s c ≥ 0) = !(s.all (fun b => !(b == c))) := by
  induction s with
  | nil => rfl
  | cons b r ih =>
    unfold Go.Lib.indexByte
    have hge := Go.Lib.indexByte_ge r c
    by_cases hb : b = c
    · simp [hb]
    · have hb' : (b == c) = false := by simp [hb]
      rw [List.all_cons, hb']
      simp only [Bool.false_eq_true, if_false, Bool.not_false, Bool.true_and]
      rw [← ih]
      by_cases h1 : Go.Lib.indexByte r c = -1
      · rw [h1]; rfl
      · rw [if_neg (by simpa using h1), decide_eq_true (by omega), decide_eq_true (by omega)]
theorem contains_eq (p : List UInt8) : m_strings_Contains p = some (!(p.all (fun b => !(b == 32))), ()) := by
  unfold m_strings_Contains m_strings_Index m_stringslite_Index
  by_cases h : p = [32]
  · subst h; rfl
  · rw [show (([32] : List UInt8) == p) = false by rw [beq_eq_false_iff_ne]; exact fun h' => h h'.symm]
    simp only [cond_false]
    rw [if_pos (by decide)]
    show some (decide (Go.Lib.indexByte p 32 ≥ 0), ()) = _
    rw [index_neg]
theorem impl_ruleOk (r : RuleT) : m_impl_RuleOk r = some (ruleOk r, ()) := by
  obtain ⟨kd, rt, di, p⟩ := r
  unfold m_impl_RuleOk ruleOk
  dsimp only
  cases hk : kd == 4 with
  | true =>
    simp only [cond_true]
    cases rt <;> cases di <;> simp
  | false =>
    simp only [cond_false]
    rw [within_eq, Option.bind_some]
    cases decide (kd ≥ 0 ∧ kd ≤ 3) with
    | false => rfl
    | true =>
      simp only [cond_true, Bool.true_and]
      rw [impl_patOk, Option.bind_some]
      cases hp : patB p with
      | false => rfl
      | true =>
        have hl := patB_len hp
        simp only [cond_true, Bool.true_and]
        rw [contains_eq, Option.bind_some, Bool.not_not]
        cases p.all fun b => !(b == 32) with
        | false => simp
        | true =>
          simp only [cond_true, Bool.and_true]
          rw [hasPrefix_eq, Option.bind_some]
          have h0 : (decide (([47] : List UInt8).length ≤ p.length) && (p.take ([47] : List UInt8).length == [47])) = edge p 0 := by
            rw [take1 p 47 47 rfl, edge_iff, decide_eq_true hl.1, Bool.true_and]
            show (by8 p 0 == 47) = _
            unfold by8
            rw [Bool.eq_iff_iff, beq_iff_eq, beq_iff_eq, ← UInt8.toNat_inj]; rfl
          simp only [h0]
          cases edge p 0 with
          | true => rfl
          | false =>
            simp only [Bool.not_false, cond_true, Bool.true_and]
            rw [hasSuffix_eq p hl, Option.bind_some]
            rfl
def tailsAny (f : List UInt8 → Bool) : List UInt8 → Bool
  | [] => false
  | c :: r => (c == 47 && f r) || tailsAny f r
theorem tailsAny_app (f : List UInt8 → Bool) : ∀ (a b : List UInt8), (47 : UInt8) ∉ a → tailsAny f (a ++ b) = tailsAny f b
  | [], b, _ => rfl
  | c :: r, b, h => by
    have hc : (c == 47) = false := by rw [beq_eq_false_iff_ne]; intro e; exact h (e ▸ List.mem_cons_self)
    show ((c == 47 && f (r ++ b)) || tailsAny f (r ++ b)) = _
    rw [hc, Bool.false_and, Bool.false_or]
    exact tailsAny_app f r b (fun h' => h (List.mem_cons_of_mem _ h'))
theorem index_cut (s : List UInt8) : (Go.Lib.indexByte s 47 = -1 ∧ (47 : UInt8) ∉ s) ∨ ∃ (a b : List UInt8), s = a ++ 47 :: b ∧ (47 : UInt8) ∉ a ∧ Go.Lib.indexByte s 47 = (a.length : Nat) := by
  induction s with
  | nil => exact .inl ⟨rfl, by simp⟩
  | cons c r ih =>
    by_cases hc : c = 47
    · exact .inr ⟨[], r, by rw [hc]; rfl, by simp, by rw [hc]; rfl⟩
    · have hb : (c == 47) = false := by simp [hc]
      rcases ih with ⟨h1, h2⟩ | ⟨a, b, h1, h2, h3⟩
      · refine .inl ⟨?_, ?_⟩
        · unfold Go.Lib.indexByte; rw [hb, h1]; rfl
        · simp [h2]; exact fun h => hc h.symm
      · refine .inr ⟨c :: a, b, by rw [h1]; rfl, by simp [h2]; exact fun h => hc h.symm, ?_⟩
        unfold Go.Lib.indexByte; rw [hb, h3]
        have : ((a.length : Int) == -1) = false := by rw [beq_eq_false_iff_ne]; omega
        simp [this]
theorem tailsAny_range (f : List UInt8 → Bool) : ∀ s : List UInt8, (List.range s.length).any (fun i => s.getD i 0 == 47 && f (s.drop (i + 1))) = tailsAny f s
  | [] => rfl
  | c :: r => by
    rw [List.length_cons, List.range_succ_eq_map, List.any_cons, List.any_map]
    show ((c == 47 && f r) || (List.range r.length).any (fun i => r.getD i 0 == 47 && f (r.drop (i + 1)))) = _
    rw [tailsAny_range f r]; rfl
def means (r : RuleT) (path : List UInt8) (dir : Bool) : Bool :=
  !(r.1 == 4) && (!(r.2.2.1 && !dir) && (matchB r.2.2.2 path || (!r.2.1 && tailsAny (matchB r.2.2.2) path)))
theorem impl_means (r : RuleT) (path : List UInt8) (hp : path.length ≤ 1048576) (dir : Bool) : m_impl_Rule_means r path dir = some (means r path dir, ()) := by
  obtain ⟨kd, rt, di, p⟩ := r
  unfold m_impl_Rule_means means
  dsimp only
  refine bind_eq (x := ((path, (), (kd == 4) || (di && !dir), ()), (kd, rt, di, p, ()), ())) ?_ ?_
  · cases kd == 4 <;> cases di <;> rfl
  · dsimp only
    cases kd == 4 with
    | true => rfl
    | false =>
      simp only [Bool.false_or, Bool.not_false, Bool.true_and]
      cases (di && !dir) with
      | true => rfl
      | false =>
        simp only [cond_false, Bool.not_false, Bool.true_and]
        refine loopC_inv _ (fun n s => ∃ q : List UInt8, s = ((q, (), ()), (kd, rt, di, p, ()), ()) ∧ q.length ≤ 1048576 ∧ n = q.length) (fun s => some (matchB p s.1.1 || (!rt && tailsAny (matchB p) s.1.1), ())) ?_ _ path.length _ ⟨path, rfl, hp, rfl⟩ (by omega)
        rintro n s k ⟨q, rfl, hq, rfl⟩ hk
        dsimp only
        rw [impl_Match_eq, Option.bind_some]
        cases hm : matchB p q with
        | true => rfl
        | false =>
          simp only [cond_false, Bool.false_or]
          unfold m_strings_Cut_2 m_stringslite_Cut_2
          rw [slIndex, Option.bind_some]
          dsimp only
          rcases index_cut q with ⟨h1, h2⟩ | ⟨a, b, h1, h2, h3⟩
          · rw [h1]
            have : tailsAny (matchB p) q = false := by
              have := tailsAny_app (matchB p) q [] h2
              rw [List.append_nil] at this; exact this
            rw [this]
            cases rt <;> rfl
          · rw [h3, decide_eq_true (by omega), cond_true]
            have hl : q.length = a.length + (b.length + 1) := by rw [h1]; simp
            rw [if_pos (by omega)]
            simp only [List.length_cons, List.length_nil]
            rw [wr _ (by omega), if_pos (by omega)]
            have hd : List.drop (Int.toNat ((a.length : Int) + ((0 + 1 : Nat) : Int))) (List.take (Int.toNat (q.length : Int)) q) = b := by
              rw [show Int.toNat ((a.length : Int) + ((0 + 1 : Nat) : Int)) = a.length + 1 by omega, show Int.toNat (q.length : Int) = q.length by omega, List.take_length, h1]
              simp
            simp only [hd, Option.bind_some]
            cases rt with
            | true => rfl
            | false =>
              simp only [cond_false, Bool.not_true, Option.bind_some, Bool.not_false, Bool.true_and]
              rw [hk b.length _ (by omega) ⟨b, rfl, by omega, rfl⟩]
              have : tailsAny (matchB p) q = (matchB p b || tailsAny (matchB p) b) := by
                rw [h1, tailsAny_app _ _ _ h2]; simp [tailsAny]
              rw [this]; simp
theorem not_any_all {α : Type} (l : List α) (f : α → Bool) : (l.all fun x => !f x) = !l.any f := by
  induction l with
  | nil => rfl
  | cons a r ih => rw [List.all_cons, List.any_cons, ih, Bool.not_or]
theorem pathOk_len {s : List UInt8} (h : pathOk s = true) : s.length ≤ 168 := by
  unfold pathOk at h; rw [Bool.and_eq_true, decide_eq_true_eq] at h; exact h.1
/-! all rules right -/
def rulesOk (l : List RuleT) : Bool := decide (l.length ≤ 100) && l.all ruleOk
theorem impl_areRules (l : List RuleT) : m_impl_areRules l = some (rulesOk l, ()) := by
  unfold m_impl_areRules rulesOk
  by_cases hl : l.length ≤ 100
  · rw [decide_eq_true (by omega), cond_true, decide_eq_true hl, Bool.true_and]
    unfold m_slices_ContainsFunc_impl_Rule_impl_Rule m_slices_IndexFunc_impl_Rule_impl_Rule
    have key := findLoop (fun (s : (List RuleT × Unit × Int × Int × Unit) × Unit) (k : (List RuleT × Unit × Int × Int × Unit) × Unit → Option (Sum (Unit × Unit) (Int × Unit))) =>
        bif decide (s.fst.snd.snd.snd.fst < s.fst.snd.snd.fst) then
          if 0 ≤ s.fst.snd.snd.snd.fst ∧ s.fst.snd.snd.snd.fst < (↑(List.length s.fst.fst) : Int) then
            Option.bind (m_impl_areRules_1 (List.getD s.fst.fst (Int.toNat s.fst.snd.snd.snd.fst) dR)) fun r =>
              bif r.fst then some (Sum.inr s.fst.snd.snd.snd)
              else k ((s.fst.fst, (), s.fst.snd.snd.fst, IntKind.wrap .i64 (s.fst.snd.snd.snd.fst + 1), ()), ())
          else none
        else some (Sum.inl ((), ())))
      (fun i => ((l, (), (l.length : Int), (i : Int), ()), ())) l.length (fun i => if ruleOk (l.getD i dR) then none else some (.inr ((i : Int), ()))) (.inl ((), ()))
      (by
        intro i k hi
        dsimp only
        rw [decide_eq_true (by omega), cond_true, if_pos (by omega), Int.toNat_natCast]
        have e : m_impl_areRules_1 (l.getD i dR) = some (!ruleOk (l.getD i dR), ()) := by unfold m_impl_areRules_1; rw [impl_ruleOk]; rfl
        rw [e, Option.bind_some]
        dsimp only
        cases ruleOk (l.getD i dR) with
        | true => simp only [Bool.not_true, cond_false, if_true]; rw [wr1 i (by omega)]
        | false => rfl)
      (by intro k; dsimp only; rw [decide_eq_false (by omega)]; rfl)
      (l.length + Int.toNat (l.length : Int) + Int.toNat 0 + 300) (by omega)
    have key2 : ∃ v : Int, Option.bind (joinC (loopC (l.length + Int.toNat (l.length : Int) + Int.toNat 0 + 300) (fun (s : (List RuleT × Unit × Int × Int × Unit) × Unit) (k : (List RuleT × Unit × Int × Int × Unit) × Unit → Option (Sum (Unit × Unit) (Int × Unit))) =>
        bif decide (s.fst.snd.snd.snd.fst < s.fst.snd.snd.fst) then
          if 0 ≤ s.fst.snd.snd.snd.fst ∧ s.fst.snd.snd.snd.fst < (↑(List.length s.fst.fst) : Int) then
            Option.bind (m_impl_areRules_1 (List.getD s.fst.fst (Int.toNat s.fst.snd.snd.snd.fst) dR)) fun r =>
              bif r.fst then some (Sum.inr s.fst.snd.snd.snd)
              else k ((s.fst.fst, (), s.fst.snd.snd.fst, IntKind.wrap .i64 (s.fst.snd.snd.snd.fst + 1), ()), ())
          else none
        else some (Sum.inl ((), ()))) ((l, (), (l.length : Int), ((0 : Nat) : Int), ()), ())) fun s => some ((-1 : Int), ())) (fun r => some (decide (r.fst ≥ 0), ())) = some (!l.all ruleOk, ()) := by
      refine ⟨0, ?_⟩
      rw [key]
      cases hf : (List.range l.length).findSome? (fun i => if ruleOk (l.getD i dR) then none else some (Sum.inr ((i : Int), ()) : Sum (Unit × Unit) (Int × Unit))) with
      | none =>
        have : l.all ruleOk = true := by
          rw [← range_all l dR ruleOk, List.all_eq_true]
          intro i hi
          have := List.findSome?_eq_none_iff.1 hf i hi
          cases hr : ruleOk (l.getD i dR) with
          | true => rfl
          | false => rw [hr] at this; cases this
        rw [this]; rfl
      | some v =>
        obtain ⟨i, hi, hv⟩ := List.exists_of_findSome?_eq_some hf
        cases hr : ruleOk (l.getD i dR) with
        | true => rw [hr] at hv; cases hv
        | false =>
          rw [hr] at hv
          cases hv
          have : l.all ruleOk = false := by
            rw [← range_all l dR ruleOk, List.all_eq_false]
            exact ⟨i, hi, by show ¬ ruleOk (l.getD i dR) = true; rw [hr]; decide⟩
          rw [this]
          show some (decide ((i : Int) ≥ 0), ()) = _
          rw [decide_eq_true (by omega)]; rfl
    obtain ⟨_, key2⟩ := key2
    refine bind_of (x := some ((l.all ruleOk, ()), ())) (bind_of key2 ?_) rfl
    show some ((!!l.all ruleOk, ()), ()) = _
    rw [Bool.not_not]
  · rw [decide_eq_false (by omega), decide_eq_false hl]; rfl
def saysG (yes no : Int) (path : List UInt8) (dir : Bool) (r : RuleT) : Option Int := if ((r.1 == yes || r.1 == no) && means r path dir) = true then some r.1 else none
def first (l : List RuleT) (yes no : Int) (path : List UInt8) (dir : Bool) : Int := (l.findSome? (saysG yes no path dir)).getD (-1)
def says (l : List RuleT) (yes no : Int) (path : List UInt8) (dir : Bool) : Bool := first l yes no path dir == yes
theorem impl_says (l : List RuleT) (hl : l.length ≤ 102) (yes no : Int) (hy : yes ≠ -1) (path : List UInt8) (hp : path.length ≤ 1048576) (dir : Bool) :
    m_impl_says l yes no path dir = some (says l yes no path dir, ()) := by
  unfold m_impl_says says first
  refine joinC_of (findLoop _ (fun i => ((yes, no, path, dir, l, (l.length : Int), (i : Int), ()), ())) l.length (fun i => (saysG yes no path dir (l.getD i dR)).map (fun k => .inr (k == yes, ()))) (.inl ((), ())) ?_ ?_ _ (by omega)) ?_
  · intro i k hi
    dsimp only
    rw [decide_eq_true (by omega), cond_true, if_pos (by omega), Int.toNat_natCast]
    have hm : m_impl_Rule_means (l.getD i dR) path dir = some (means (l.getD i dR) path dir, ()) := impl_means _ path hp dir
    refine bind_eq (x := ((yes, no, path, dir, (), l, (l.length : Int), (i : Int), ((l.getD i dR).1 == yes || (l.getD i dR).1 == no) && means (l.getD i dR) path dir, ()), ((l.getD i dR).1, (l.getD i dR).2.1, (l.getD i dR).2.2.1, (l.getD i dR).2.2.2, ()), ())) ?_ ?_
    · show (bif (l.getD i dR).1 == yes then Option.bind (m_impl_Rule_means (l.getD i dR) path dir) _ else (bif (l.getD i dR).1 == no then Option.bind (m_impl_Rule_means (l.getD i dR) path dir) _ else _)) = _
      rw [hm]
      cases (l.getD i dR).1 == yes <;> cases (l.getD i dR).1 == no <;> rfl
    · dsimp only
      unfold saysG
      cases ((l.getD i dR).1 == yes || (l.getD i dR).1 == no) && means (l.getD i dR) path dir with
      | true => rfl
      | false => simp only [cond_false]; rw [wr1 i (by omega)]; rfl
  · intro k; dsimp only; rw [decide_eq_false (by omega)]; rfl
  · rw [range_find l dR (fun r => (saysG yes no path dir r).map (fun k => (.inr (k == yes, ()) : Sum (Unit × Unit) (Bool × Unit))))]
    have : ∀ l : List RuleT, l.findSome? (fun r => (saysG yes no path dir r).map (fun k => (.inr (k == yes, ()) : Sum (Unit × Unit) (Bool × Unit)))) = (l.findSome? (saysG yes no path dir)).map (fun k => .inr (k == yes, ())) := by
      intro l
      induction l with
      | nil => rfl
      | cons a r ih =>
        rw [List.findSome?_cons, List.findSome?_cons]
        cases saysG yes no path dir a with
        | some v => rfl
        | none => exact ih
    rw [this]
    cases l.findSome? (saysG yes no path dir) with
    | some v => rfl
    | none =>
      show some (false, ()) = some ((-1 : Int) == yes, ())
      rw [show ((-1 : Int) == yes) = false by rw [beq_eq_false_iff_ne]; exact fun h => hy h.symm]
theorem split_app (a b : List UInt8) : split (a ++ 47 :: b) = split a ++ split b := by
  induction a with
  | nil => rw [List.nil_append, split_slash rfl]; rfl
  | cons c r ih =>
    by_cases hc : c = 47
    · rw [List.cons_append, split_slash hc, split_slash hc, ih]; rfl
    · rw [List.cons_append, split_other hc, split_other hc, ih]
      rcases h : split r with _ | ⟨x, y⟩
      · exact absurd h (split_ne _)
      · rfl
theorem pathOk_take {s : List UInt8} (h : pathOk s = true) {i : Nat} (hi : i < s.length) (h47 : s.getD i 0 = 47) : pathOk (s.take i) = true := by
  have e : s = s.take i ++ 47 :: s.drop (i + 1) := by
    have := List.take_append_drop i s
    rw [drop_getD 0 hi, h47] at this
    exact this.symm
  unfold pathOk at h ⊢
  rw [e, split_app] at h
  simp only [Bool.and_eq_true, decide_eq_true_eq, List.length_append, List.all_append, List.length_cons] at h ⊢
  refine ⟨?_, ?_, h.2.2.1⟩
  · omega
  · omega
def under (l : List RuleT) (path : List UInt8) (i : Nat) : Bool := path.getD i 0 == 47 && says l 0 1 (path.take i) true
def hidden (l : List RuleT) (path : List UInt8) (dir : Bool) : Bool := (List.range path.length).any (under l path) || says l 0 1 path dir
def hiddenAll (l : List RuleT) (path : List UInt8) (dir : Bool) : Bool := rulesOk l && (pathOk path && hidden l path dir)
theorem impl_hidden (l : List RuleT) (hl : l.length ≤ 102) (path : List UInt8) (hp : path.length ≤ 1048576) (dir : Bool) : m_impl_hidden l path dir = some (hidden l path dir, ()) := by
  unfold m_impl_hidden hidden
  refine joinC_of (allLoop _ (fun i => ((l, path, dir, (path.length : Int), (i : Int), ()), ())) path.length (fun i => !under l path i) (.inl ((l, path, dir, ()), ())) (.inr (true, ())) ?_ ?_ _ (by omega)) ?_
  · intro i k hi
    dsimp only
    rw [decide_eq_true (by omega), cond_true, if_pos (by omega), Int.toNat_natCast]
    have e47 : (((path.getD i 0).toNat : Int) == 47) = (path.getD i 0 == 47) := eqB _ 47 (by omega)
    refine bind_eq (x := ((l, path, dir, (path.length : Int), (i : Int), under l path i, ()), ())) ?_ ?_
    · rw [e47]
      unfold under
      cases h47 : path.getD i 0 == 47 with
      | false => rfl
      | true =>
        simp only [cond_true, Bool.true_and]
        rw [if_pos (by omega)]
        simp only [Int.toNat_zero, List.drop_zero]
        rw [impl_says l hl 0 1 (by omega) _ (by rw [List.length_take]; omega) true]
        rfl
    · dsimp only
      cases under l path i with
      | true => rfl
      | false => simp only [cond_false, Bool.not_false, cond_true]; rw [wr1 i (by omega)]
  · intro k; dsimp only; rw [decide_eq_false (by omega)]; rfl
  · rw [not_any_all]
    cases (List.range path.length).any (under l path) with
    | true => rfl
    | false =>
      simp only [Bool.not_false, cond_true, Bool.false_or]
      show Option.bind (m_impl_says l 0 1 path dir) _ = _
      rw [impl_says l hl 0 1 (by omega) path hp dir]
      rfl
theorem impl_Hidden_eq (l : List RuleT) (path : List UInt8) (dir : Bool) : m_impl_Hidden l path dir = some (hiddenAll l path dir, ()) := by
  unfold m_impl_Hidden hiddenAll
  rw [impl_areRules, Option.bind_some]
  cases hr : rulesOk l with
  | false => rfl
  | true =>
    have hr' := hr
    unfold rulesOk at hr'
    rw [Bool.and_eq_true, decide_eq_true_eq] at hr'
    simp only [cond_true, Bool.true_and]
    rw [impl_pathOk, Option.bind_some]
    cases hp : pathOk path with
    | false => rfl
    | true =>
      have := pathOk_len hp
      simp only [cond_true, Bool.true_and]
      rw [impl_hidden l (by omega) path (by omega)]
      rfl
theorem stars_all (s : List UInt8) (h : s.length ≤ 200) : matchB [42, 42] s = true := by
  unfold matchB
  have : pieces [42, 42] = some [Pc.stars 42] := by rw [pieces_some (by decide) (pc1_two [])]; rfl
  rw [if_pos (by decide), this]
  simp only [Bool.and_eq_true, decide_eq_true_eq]
  refine ⟨h, ?_⟩
  rw [matchP_iff, mean_stars]
  exact ⟨s, [], by simp, rfl⟩
def moreR : List RuleT := [(2, false, false, [42, 42]), (3, false, false, [42, 42])]
theorem more_ok : moreR.all ruleOk = true := by decide
theorem more_first (l : List RuleT) (path : List UInt8) (dir : Bool) : first (l ++ moreR) 0 1 path dir = first l 0 1 path dir := by
  unfold first
  rw [List.findSome?_append]
  have : moreR.findSome? (saysG 0 1 path dir) = none := rfl
  rw [this, Option.or_none]
theorem more_says (l : List RuleT) (path : List UInt8) (dir : Bool) : says (l ++ moreR) 0 1 path dir = says l 0 1 path dir := by
  unfold says; rw [more_first]
theorem more_hidden (l : List RuleT) (path : List UInt8) (dir : Bool) : hidden (l ++ moreR) path dir = hidden l path dir := by
  unfold hidden
  have : under (l ++ moreR) path = under l path := by funext i; unfold under; rw [more_says]
  rw [this, more_says]
theorem first_kinds (l : List RuleT) (path : List UInt8) (dir : Bool) : l.findSome? (saysG 2 3 path dir) = none ∨ l.findSome? (saysG 2 3 path dir) = some 2 ∨ l.findSome? (saysG 2 3 path dir) = some 3 := by
  cases h : l.findSome? (saysG 2 3 path dir) with
  | none => exact .inl rfl
  | some v =>
    right
    obtain ⟨r, hr, hv⟩ := List.exists_of_findSome?_eq_some h
    unfold saysG at hv
    split at hv
    · rename_i hc
      cases hv
      simp only [Bool.and_eq_true, Bool.or_eq_true, beq_iff_eq] at hc
      rcases hc.1 with e | e
      · left; rw [e]
      · right; rw [e]
    · cases hv
theorem more_guard (l : List RuleT) (path : List UInt8) (hp : path.length ≤ 200) (dir : Bool) : says (l ++ moreR) 2 3 path dir = !(first l 2 3 path dir == 3) := by
  unfold says first
  rw [List.findSome?_append]
  rcases first_kinds l path dir with h | h | h
  · rw [h]
    have : moreR.findSome? (saysG 2 3 path dir) = some 2 := by
      have : saysG 2 3 path dir (2, false, false, [42, 42]) = some 2 := by
        unfold saysG means
        rw [stars_all path hp]; rfl
      unfold moreR
      rw [List.findSome?_cons, this]
    rw [this]; rfl
  · rw [h]; rfl
  · rw [h]; rfl
abbrev CurT := List Int × Int × Int × Unit
theorem pick_mem (l : List (List UInt8)) (Q : List UInt8 → Prop) (s : CurT) (hl : 0 < l.length ∧ l.length ≤ 256 ∧ ∀ x ∈ l, Q x) (h : Cur s) : ∃ r, m_spec_l01Pick l s = some r ∧ Q r.1 ∧ Cur r.2.1 := by
  obtain ⟨c, i, x, u⟩ := s
  unfold m_spec_l01Pick
  obtain ⟨b, s1, e, hb, hc⟩ := below_some (l.length : Int) (by omega) (c, i, x, ()) h
  obtain ⟨c1, i1, x1, u1⟩ := s1
  obtain ⟨hb1, hb2⟩ := hb (by omega)
  simp only
  rw [e, Option.bind_some]
  simp only
  rw [if_pos ⟨hb1, hb2⟩]
  refine ⟨_, rfl, ?_, hc⟩
  exact hl.2.2 _ (getD_mem _ (by omega))
theorem pickInt_some (l : List Int) (s : CurT) (hl : 0 < l.length ∧ l.length ≤ 256) (h : Cur s) : ∃ r, m_spec_l01PickInt l s = some r ∧ Cur r.2.1 := by
  obtain ⟨c, i, x, u⟩ := s
  unfold m_spec_l01PickInt
  obtain ⟨b, s1, e, hb, hc⟩ := below_some (l.length : Int) (by omega) (c, i, x, ()) h
  obtain ⟨hb1, hb2⟩ := hb (by omega)
  rw [e, Option.bind_some]
  simp only
  rw [if_pos ⟨hb1, hb2⟩]
  exact ⟨_, rfl, hc⟩
theorem once_some' (n : Int) (hn : 0 < n) (s : CurT) (h : Cur s) : ∃ r, m_spec_l01Once n s = some r ∧ Cur r.2.1 := by
  obtain ⟨b, s', e, hc⟩ := once_some n hn s h
  exact ⟨_, e, hc⟩
theorem below_some' (n : Int) (hn : 0 < n) (hn2 : n ≤ 256) (s : CurT) (h : Cur s) : ∃ r, m_spec_l01Below n s = some r ∧ (0 ≤ r.1 ∧ r.1 < n) ∧ Cur r.2.1 := by
  obtain ⟨b, s', e, hb, hc⟩ := below_some n hn s h
  exact ⟨_, e, hb hn2, hc⟩
def noNl (r : RuleT) : Prop := (10 : UInt8) ∉ r.2.2.2
theorem rule_some (s : CurT) (h : Cur s) : ∃ r, m_spec_l09Rule s = some r ∧ noNl r.1 ∧ Cur r.2.1 := by
  unfold m_spec_l09Rule
  refine bind_some' (pickInt_some _ s (by decide) h) ?_
  rintro ⟨k, s1, u1⟩ h1
  refine bind_some' (once_some' 3 (by omega) s1 h1) ?_
  rintro ⟨rt, s2, u2⟩ h2
  refine bind_some' (once_some' 4 (by omega) s2 h2) ?_
  rintro ⟨di, s3, u3⟩ h3
  refine bind_some' (pick_mem _ (fun x => (10 : UInt8) ∉ x) s3 (by decide) h3) ?_
  rintro ⟨p, s4, u4⟩ ⟨hp, h4⟩
  exact ⟨_, rfl, hp, h4⟩
theorem any9_some (s : CurT) (h : Cur s) : ∃ r, m_spec_l09Any s = some r ∧ noNl r.1 ∧ Cur r.2.1 := by
  unfold m_spec_l09Any
  refine bind_some' (rule_some s h) ?_
  rintro ⟨⟨kd, rt, di, p⟩, s1, u1⟩ ⟨hp, h1⟩
  have hp : (10 : UInt8) ∉ p := hp
  refine bind_some' (below_some' 14 (by omega) (by omega) s1 h1) ?_
  rintro ⟨b, s2, u2⟩ ⟨_, h2⟩
  dsimp only
  have fin : ∀ (s3 : CurT) (kd' : Int) (rt' di' : Bool) (p' : List UInt8), (10 : UInt8) ∉ p' → Cur s3 → ∃ t : RuleT × CurT × Unit, some ((kd', rt', di', p'), s3, ()) = some t ∧ noNl t.1 ∧ Cur t.2.1 :=
    fun s3 kd' rt' di' p' q1 q2 => ⟨_, rfl, q1, q2⟩
  cases b == 0 with
  | true =>
    obtain ⟨⟨k, s3, u3⟩, e3, h3⟩ := pickInt_some [-1, 4, 5] s2 (by decide) h2
    simp only [cond_true]
    rw [e3]
    exact fin s3 k rt di p hp h3
  | false =>
    cases b == 1 with
    | true =>
      obtain ⟨⟨q, s3, u3⟩, e3, hq, h3⟩ := pick_mem [[], [47, 97], [97, 47], [97, 32, 98], [91], [92]] (fun x => (10 : UInt8) ∉ x) s2 (by decide) h2
      simp only [cond_true, cond_false]
      simp only [nilOf] at *
      rw [e3]
      exact fin s3 kd rt di q hq h3
    | false =>
      cases b == 2 with
      | true => exact fin s2 4 false false [] (by simp) h2
      | false => exact fin s2 kd rt di p hp h2
theorem rules_some (n : Int) (hn : 0 ≤ n ∧ n < 7) (s : CurT) (h : Cur s) : ∃ r, m_spec_l09Rules n s = some r ∧ (∀ x ∈ r.2.2.1, noNl x) ∧ r.2.2.1.length ≤ 7 ∧ Cur r.2.1 := by
  unfold m_spec_l09Rules
  refine bind_some' (Q := fun r => (∀ x ∈ r.2.2.1, noNl x) ∧ r.2.2.1.length ≤ 7 ∧ Cur r.2.1) (loopC_some' _ (fun c t => ∃ (j : Nat) (cu : CurT) (l : List RuleT), t = (((), n, (), (j : Int), ()), cu, l, ()) ∧ (∀ x ∈ l, noNl x) ∧ l.length = j ∧ (j : Int) ≤ n ∧ Cur cu ∧ c = n.toNat - j) _ ?_ _ n.toNat _ ⟨0, s, [], rfl, by simp, rfl, by omega, h, by omega⟩ (by omega)) ?_
  · rintro c t k ⟨j, cu, l, rfl, h1, h2, h3, h4, rfl⟩ hk
    dsimp only
    by_cases hl : (j : Int) < n
    · rw [decide_eq_true hl, cond_true]
      refine bind_some' (rule_some cu h4) ?_
      rintro ⟨r, cu2, u2⟩ ⟨hr, hc2⟩
      dsimp only
      rw [if_pos (by simp only [List.length_cons, List.length_nil]; omega), wr1 j (by omega)]
      refine hk (n.toNat - (j + 1)) _ (by omega) ⟨j + 1, cu2, l ++ [r], rfl, ?_, by simp [h2], by omega, hc2, rfl⟩
      intro x hx
      rcases List.mem_append.1 hx with hx | hx
      · exact h1 x hx
      · rw [List.mem_singleton.1 hx]; exact hr
    · rw [decide_eq_false hl, cond_false]
      exact ⟨_, rfl, h1, by show l.length ≤ 7; omega, h4⟩
  · rintro ⟨⟨u1, u2⟩, cu, l, u3⟩ ⟨h1, h2, h3⟩
    exact ⟨_, rfl, h1, h2, h3⟩
theorem pathAny_some (s : CurT) (h : Cur s) : ∃ r, m_spec_l02Any s = some r ∧ r.1.length ≤ 101 ∧ Cur r.2.1 := by
  unfold m_spec_l02Any
  refine bind_some' (path_some s h) ?_
  rintro ⟨p, s1, u1⟩ ⟨hp, h1⟩
  have hp : p.length ≤ 100 := hp
  refine bind_some' (below_some' 14 (by omega) (by omega) s1 h1) ?_
  rintro ⟨b, s2, u2⟩ ⟨_, h2⟩
  dsimp only
  refine bind_some' (Q := fun r => r.1.1.length ≤ 101 ∧ Cur r.2.1) ?_ ?_
  · cases b == 0 with
    | true =>
      simp only [cond_true]
      refine bind_some' (pick_mem _ (fun x => x.length ≤ 101) s2 (by decide) h2) ?_
      rintro ⟨q, s3, u3⟩ ⟨hq, h3⟩
      exact ⟨_, rfl, hq, h3⟩
    | false =>
      cases b == 1 with
      | true =>
        simp only [cond_true, cond_false]
        rw [if_pos (by simp only [List.length_cons, List.length_nil]; show _ < 9223372036854775808; omega)]
        exact ⟨_, rfl, by simp; omega, h2⟩
      | false => exact ⟨_, rfl, by show p.length ≤ 101; omega, h2⟩
  · rintro ⟨⟨p, u1⟩, s3, u3⟩ ⟨hq, h3⟩
    exact ⟨_, rfl, hq, h3⟩
theorem drawHidden_some (c : List Int) (hc : c.length ≤ 1048576) : ∃ r, m_spec_DrawHidden c = some r ∧ (∀ x ∈ r.1.1, noNl x) ∧ r.1.1.length ≤ 8 ∧ r.1.2.1.length ≤ 101 := by
  unfold m_spec_DrawHidden
  refine bind_some' (new_some c hc) ?_
  rintro ⟨u0, s0, u1⟩ h0
  refine bind_some' (below_some' 7 (by omega) (by omega) s0 h0) ?_
  rintro ⟨b, s1, u2⟩ ⟨hb, h1⟩
  refine bind_some' (rules_some b hb s1 h1) ?_
  rintro ⟨u3, s2, l, u4⟩ ⟨hl, hl2, h2⟩
  have hl2 : l.length ≤ 7 := hl2
  refine bind_some' (once_some' 15 (by omega) s2 h2) ?_
  rintro ⟨o, s3, u5⟩ h3
  dsimp only
  refine bind_some' (Q := fun r => (∀ x ∈ r.2.2.1, noNl x) ∧ r.2.2.1.length ≤ 8 ∧ Cur r.2.1) ?_ ?_
  · cases o with
    | false => exact ⟨_, rfl, hl, by show l.length ≤ 8; omega, h3⟩
    | true =>
      simp only [cond_true]
      refine bind_some' (any9_some s3 h3) ?_
      rintro ⟨r, s4, u6⟩ ⟨hr, h4⟩
      dsimp only
      rw [if_pos (by simp only [List.length_cons, List.length_nil]; omega)]
      refine ⟨_, rfl, ?_, by simp; omega, h4⟩
      intro x hx
      rcases List.mem_append.1 hx with hx | hx
      · exact hl x hx
      · rw [List.mem_singleton.1 hx]; exact hr
  · rintro ⟨u7, s5, l2, u8⟩ ⟨g1, g2, g3⟩
    dsimp only
    refine bind_some' (pathAny_some s5 g3) ?_
    rintro ⟨p, s6, u9⟩ ⟨hp, h6⟩
    refine bind_some' (once_some' 2 (by omega) s6 h6) ?_
    rintro ⟨d, s7, u10⟩ h7
    exact ⟨_, rfl, g1, g2, hp⟩
theorem hidden_under (l : List RuleT) (path : List UInt8) (dir : Bool) (i : Nat) (hi : i < path.length) (h47 : (path.getD i 0 == 47) = true) (h : hidden l (path.take i) true = true) : hidden l path dir = true := by
  unfold hidden at h ⊢
  rw [Bool.or_eq_true] at h ⊢
  left
  rw [List.any_eq_true]
  rcases h with h | h
  · rw [List.any_eq_true] at h
    obtain ⟨j, hj, hu⟩ := h
    rw [List.mem_range, List.length_take] at hj
    have hji : j < i := by omega
    refine ⟨j, List.mem_range.2 (by omega), ?_⟩
    unfold under at hu ⊢
    have e1 : (path.take i).getD j 0 = path.getD j 0 := by
      rw [List.getD_eq_getElem?_getD, List.getD_eq_getElem?_getD, List.getElem?_take, if_pos hji]
    have e2 : (path.take i).take j = path.take j := by rw [List.take_take, Nat.min_eq_left (by omega)]
    rw [e1, e2] at hu
    exact hu
  · refine ⟨i, List.mem_range.2 hi, ?_⟩
    unfold under
    rw [h47, h]; rfl
end Go.AM
set_option linter.unusedVariables false
set_option linter.unusedSimpArgs false
namespace Go.AM
open Go
/-! ### rules and their lines -/
def sl (b : Bool) : List UInt8 := cond b [47] []
def sgn (k : Int) : UInt8 := if k = 0 then 45 else if k = 1 then 43 else if k = 2 then 80 else 82
def showR (r : RuleT) : List UInt8 := cond (ruleOk r) (cond (r.1 == 4) [33] (sgn r.1 :: 32 :: (sl r.2.1 ++ (r.2.2.2 ++ sl r.2.2.1)))) []
def hd (s : List UInt8) : Bool := s.getD 0 0 == 47
def tl (s : List UInt8) : Bool := s.getD (s.length - 1) 0 == 47
def unroot (s : List UInt8) : List UInt8 := cond (hd s) (s.drop 1) s
def undir (s : List UInt8) : List UInt8 := cond (tl s) (s.take (s.length - 1)) s
def cutI (s : List UInt8) : List UInt8 × List UInt8 := if 0 ≤ Go.Lib.indexByte s 32 then (s.take (Go.Lib.indexByte s 32).toNat, s.drop ((Go.Lib.indexByte s 32).toNat + 1)) else (s, [])
def signs : List UInt8 := [45, 43, 80, 82, 33]
def rule0 (line : List UInt8) : RuleT := cond (Go.Lib.index signs (cutI line).1 == 4) (4, false, false, [])
  (Go.Lib.index signs (cutI line).1, hd (cutI line).2, tl (unroot (cutI line).2), undir (unroot (cutI line).2))
def ok0 (line : List UInt8) : Bool := decide ((cutI line).1.length = 1) && (ruleOk (rule0 line) && showR (rule0 line) == line)
def ruleOf (line : List UInt8) : Option RuleT := cond (ok0 line) (some (rule0 line)) none
theorem ruleOk_clear {r : RuleT} (h : ruleOk r = true) (h4 : r.1 = 4) : r = (4, false, false, []) := by
  obtain ⟨k, a, b, p⟩ := r
  dsimp only at h4
  subst h4
  have h' : (!a && (!b && p == [])) = true := h
  cases a <;> cases b <;> simp at h'
  rw [h']
theorem ruleOk_plain {r : RuleT} (h : ruleOk r = true) (h4 : r.1 ≠ 4) : 0 ≤ r.1 ∧ r.1 ≤ 3 ∧ 1 ≤ r.2.2.2.length ∧ hd r.2.2.2 = false ∧ tl r.2.2.2 = false := by
  unfold ruleOk at h
  rw [show (r.1 == 4) = false by rw [beq_eq_false_iff_ne]; exact h4] at h
  simp only [cond_false, Bool.and_eq_true, decide_eq_true_eq, Bool.not_eq_true', edge_iff] at h
  obtain ⟨⟨h1, h2⟩, h3, h5, h6, _⟩ := h
  exact ⟨h1, h2, (patB_len h3).1, h5, h6⟩
theorem hd_app (b : Bool) (p q : List UInt8) (hl : 1 ≤ p.length) (hp : hd p = false) : hd (sl b ++ (p ++ q)) = b := by
  cases p with
  | nil => simp at hl
  | cons x r =>
    cases b with
    | false => simpa [sl, hd] using hp
    | true => simp [sl, hd]
theorem tl_app (p : List UInt8) (b : Bool) (hl : 1 ≤ p.length) (hp : tl p = false) : tl (p ++ sl b) = b := by
  cases b with
  | false => simpa [sl] using hp
  | true =>
    unfold tl sl
    simp
theorem unroot_app (b : Bool) (p q : List UInt8) (hl : 1 ≤ p.length) (hp : hd p = false) : unroot (sl b ++ (p ++ q)) = p ++ q := by
  unfold unroot
  rw [hd_app b p q hl hp]
  cases b <;> rfl
theorem undir_app (p : List UInt8) (b : Bool) (hl : 1 ≤ p.length) (hp : tl p = false) : undir (p ++ sl b) = p := by
  unfold undir
  rw [tl_app p b hl hp]
  cases b with
  | false => simp [sl]
  | true => simp [sl]
theorem sgn_index {k : Int} (h0 : 0 ≤ k) (h3 : k ≤ 3) : Go.Lib.index signs [sgn k] = k := by
  have : k = 0 ∨ k = 1 ∨ k = 2 ∨ k = 3 := by omega
  rw [Go.Lib.index_one]
  rcases this with rfl | rfl | rfl | rfl <;> rfl
theorem sgn_ne (k : Int) : sgn k ≠ 32 := by
  unfold sgn
  split
  · decide
  · split
    · decide
    · split <;> decide
theorem cut_two (c : UInt8) (h : c ≠ 32) (r : List UInt8) : cutI (c :: 32 :: r) = ([c], r) := by
  unfold cutI
  have : Go.Lib.indexByte (c :: 32 :: r) 32 = 1 := by
    unfold Go.Lib.indexByte
    rw [show (c == 32) = false by rw [beq_eq_false_iff_ne]; exact h]
    rfl
  rw [this]
  rfl
theorem rule0_show {r : RuleT} (h : ruleOk r = true) : (cutI (showR r)).1.length = 1 ∧ rule0 (showR r) = r := by
  by_cases h4 : r.1 = 4
  · rw [ruleOk_clear h h4]; exact ⟨rfl, rfl⟩
  · obtain ⟨h0, h3, hl, hh, ht⟩ := ruleOk_plain h h4
    have hs : showR r = sgn r.1 :: 32 :: (sl r.2.1 ++ (r.2.2.2 ++ sl r.2.2.1)) := by
      unfold showR; rw [h, show (r.1 == 4) = false by rw [beq_eq_false_iff_ne]; exact h4]; rfl
    unfold rule0
    rw [hs, cut_two _ (sgn_ne _)]
    dsimp only
    rw [sgn_index h0 h3, show (r.1 == 4) = false by rw [beq_eq_false_iff_ne]; exact h4, hd_app _ _ _ hl hh, unroot_app _ _ _ hl hh, tl_app _ _ hl ht, undir_app _ _ hl ht]
    exact ⟨rfl, rfl⟩
theorem parse_show {r : RuleT} (h : ruleOk r = true) : ruleOf (showR r) = some r := by
  obtain ⟨h1, h2⟩ := rule0_show h
  unfold ruleOf ok0
  rw [h2, h1, h]
  simp
theorem parse_some {l : List UInt8} {r : RuleT} (h : ruleOf l = some r) : ruleOk r = true ∧ showR r = l := by
  unfold ruleOf at h
  cases ho : ok0 l with
  | false => rw [ho] at h; cases h
  | true =>
    rw [ho] at h
    simp only [cond_true, Option.some.injEq] at h
    subst h
    unfold ok0 at ho
    simp only [Bool.and_eq_true, beq_iff_eq] at ho
    exact ⟨ho.2.1, ho.2.2⟩
theorem showR_ne {r : RuleT} (h : showR r ≠ []) : ruleOk r = true := by
  unfold showR at h
  cases hr : ruleOk r with
  | true => rfl
  | false => rw [hr] at h; exact absurd rfl h
theorem showR_nil {r : RuleT} : showR r = [] ↔ ruleOk r = false := by
  unfold showR
  cases hr : ruleOk r with
  | false => simp
  | true => cases hk : (r.1 == 4) <;> simp
/-- How the reference tries: kinds and flags in order. -/
def cand (l : List UInt8) (k f : Nat) : Option RuleT :=
  cond (decide (f / 2 = 1) && decide ((cond (decide (f % 2 = 1)) ((l.drop 2).drop 1) (l.drop 2)).length = 0)) none
    (some ((k : Int), decide (f % 2 = 1), decide (f / 2 = 1), cond (decide (f / 2 = 1)) ((cond (decide (f % 2 = 1)) ((l.drop 2).drop 1) (l.drop 2)).take ((cond (decide (f % 2 = 1)) ((l.drop 2).drop 1) (l.drop 2)).length - 1)) (cond (decide (f % 2 = 1)) ((l.drop 2).drop 1) (l.drop 2))))
def hitF (l : List UInt8) (k f : Nat) : Option RuleT := match cand l k f with
  | none => none
  | some r => cond (showR r == l) (some r) none
def hitK (l : List UInt8) (k : Nat) : Option RuleT := (List.range 4).findSome? (hitF l k)
def ruleOfS (l : List UInt8) : Option RuleT := cond (l == [33]) (some (4, false, false, [])) (cond (decide (l.length < 3) || !(l.getD 1 0 == 32)) none ((List.range 4).findSome? (hitK l)))
theorem hitF_some {l : List UInt8} {k f : Nat} {r : RuleT} (h : hitF l k f = some r) : showR r = l := by
  unfold hitF at h
  cases hc : cand l k f with
  | none => rw [hc] at h; cases h
  | some x =>
    rw [hc] at h
    dsimp only at h
    cases hs : (showR x == l) with
    | false => rw [hs] at h; cases h
    | true =>
      rw [hs] at h
      simp only [cond_true, Option.some.injEq] at h
      subst h
      simpa using hs
theorem hits_some {l : List UInt8} {r : RuleT} (h : (List.range 4).findSome? (hitK l) = some r) : showR r = l := by
  obtain ⟨k, _, h1⟩ := List.exists_of_findSome?_eq_some h
  obtain ⟨f, _, h2⟩ := List.exists_of_findSome?_eq_some h1
  exact hitF_some h2
theorem cand_show (k : Nat) (hk : k ≤ 3) (a b : Bool) (p : List UInt8) (hl : 1 ≤ p.length) : cand (sgn (k : Int) :: 32 :: (sl a ++ (p ++ sl b))) k ((cond a 1 0) + (cond b 2 0)) = some ((k : Int), a, b, p) := by
  unfold cand
  cases a <;> cases b <;> simp [sl]
theorem ruleOfS_eq (l : List UInt8) : ruleOfS l = ruleOf l := by
  cases hp : ruleOf l with
  | some r =>
    obtain ⟨h1, h2⟩ := parse_some hp
    subst h2
    by_cases h4 : r.1 = 4
    · rw [ruleOk_clear h1 h4]; rfl
    · obtain ⟨h0, h3, hl, hh, ht⟩ := ruleOk_plain h1 h4
      have hs : showR r = sgn r.1 :: 32 :: (sl r.2.1 ++ (r.2.2.2 ++ sl r.2.2.1)) := by
        unfold showR; rw [h1, show (r.1 == 4) = false by rw [beq_eq_false_iff_ne]; exact h4]; rfl
      unfold ruleOfS
      rw [show (showR r == [33]) = false by rw [hs, beq_eq_false_iff_ne]; simp, show (decide ((showR r).length < 3) || !((showR r).getD 1 0 == 32)) = false by
        rw [hs]; simp; omega]
      simp only [cond_false]
      cases hf : (List.range 4).findSome? (hitK (showR r)) with
      | some r' =>
        have h5 := hits_some hf
        have h6 := showR_ne (r := r') (by rw [h5, hs]; simp)
        have h7 := (rule0_show h6).2
        rw [h5, (rule0_show h1).2] at h7
        rw [h7]
      | none =>
        exfalso
        rw [List.findSome?_eq_none_iff] at hf
        have h5 := hf r.1.toNat (List.mem_range.2 (by omega))
        unfold hitK at h5
        rw [List.findSome?_eq_none_iff] at h5
        have h6 := h5 ((cond r.2.1 1 0) + (cond r.2.2.1 2 0)) (List.mem_range.2 (by cases r.2.1 <;> cases r.2.2.1 <;> decide))
        unfold hitF at h6
        have hc := cand_show r.1.toNat (by omega) r.2.1 r.2.2.1 r.2.2.2 hl
        rw [show ((r.1.toNat : Nat) : Int) = r.1 by omega, ← hs] at hc
        rw [hc] at h6
        simp at h6
  | none =>
    unfold ruleOfS
    cases h33 : (l == [33]) with
    | true =>
      have : l = [33] := by simpa using h33
      subst this
      exact absurd hp (by decide)
    | false =>
      simp only [cond_false]
      cases hc : (decide (l.length < 3) || !(l.getD 1 0 == 32)) with
      | true => rfl
      | false =>
        simp only [cond_false]
        cases hf : (List.range 4).findSome? (hitK l) with
        | none => rfl
        | some r' =>
          exfalso
          have h5 := hits_some hf
          have hne : l ≠ [] := by rintro rfl; simp at hc
          have h6 := showR_ne (r := r') (by rw [h5]; exact hne)
          have h7 := parse_show h6
          rw [h5, hp] at h7
          cases h7
/-! ### lines -/
def splitN : List UInt8 → List (List UInt8)
  | [] => [[]]
  | c :: r => if c = 10 then [] :: splitN r else match splitN r with
    | [] => [[c]]
    | h :: t => (c :: h) :: t
def prepN (x : List UInt8) : List (List UInt8) → List (List UInt8)
  | [] => [x]
  | h :: t => (x ++ h) :: t
theorem splitN_ne (s : List UInt8) : splitN s ≠ [] := by
  cases s with
  | nil => simp [splitN]
  | cons c r => unfold splitN; split; simp; split <;> simp
theorem splitN_nl {c : UInt8} {r : List UInt8} (h : c = 10) : splitN (c :: r) = [] :: splitN r := by rw [splitN, if_pos h]
theorem splitN_other {c : UInt8} {r : List UInt8} (h : c ≠ 10) : splitN (c :: r) = prepN [c] (splitN r) := by
  rw [splitN, if_neg h]; unfold prepN; rcases splitN r with _ | ⟨h, t⟩ <;> rfl
theorem prepN_prepN (x y : List UInt8) (l : List (List UInt8)) (h : l ≠ []) : prepN x (prepN y l) = prepN (x ++ y) l := by
  cases l with
  | nil => exact absurd rfl h
  | cons a t => simp [prepN]
theorem splitN_len : ∀ s : List UInt8, (splitN s).length ≤ s.length + 1
  | [] => by simp [splitN]
  | c :: r => by
    have := splitN_len r
    by_cases h : c = 10
    · rw [splitN_nl h]; simp; omega
    · rw [splitN_other h]; unfold prepN; split <;> simp_all; omega
theorem getD_consN {s : List UInt8} {i : Nat} (h : i < s.length) : s.drop i = s.getD i 0 :: s.drop (i + 1) := by
  rw [List.drop_eq_getElem_cons h, List.getD_eq_getElem?_getD, List.getElem?_eq_getElem h]; rfl
theorem take_snocN {s : List UInt8} {i f : Nat} (h : i < s.length) (hf : f ≤ i) : (s.take (i + 1)).drop f = (s.take i).drop f ++ [s.getD i 0] := by
  rw [List.take_add_one, List.drop_append_of_le_length (by simp; omega), List.getD_eq_getElem?_getD, List.getElem?_eq_getElem h]; rfl
theorem index_nl (s : List UInt8) : (Go.Lib.indexByte s 10 = -1 ∧ splitN s = [s]) ∨ ∃ k : Nat, k < s.length ∧ Go.Lib.indexByte s 10 = k ∧ splitN s = s.take k :: splitN (s.drop (k + 1)) ∧ s.count 10 = (s.drop (k + 1)).count 10 + 1 := by
  induction s with
  | nil => exact .inl ⟨rfl, rfl⟩
  | cons c r ih =>
    by_cases hc : c = 10
    · refine .inr ⟨0, by simp, ?_, ?_, ?_⟩
      · rw [hc]; rfl
      · rw [splitN_nl hc]; rfl
      · rw [hc]; simp
    · have hb : (c == 10) = false := by simp [hc]
      rcases ih with ⟨h1, h2⟩ | ⟨k, hk, h1, h2, h3⟩
      · refine .inl ⟨?_, ?_⟩
        · unfold Go.Lib.indexByte; rw [hb, h1]; rfl
        · rw [splitN_other hc, h2]; rfl
      · refine .inr ⟨k + 1, by simp; omega, ?_, ?_, ?_⟩
        · unfold Go.Lib.indexByte; rw [hb, h1]
          have : ((k : Int) == -1) = false := by rw [beq_eq_false_iff_ne]; omega
          simp [this]
        · rw [splitN_other hc, h2]; rfl
        · rw [List.count_cons, hb, h3]; simp
theorem count_nl (s : List UInt8) : (splitN s).length = s.count 10 + 1 := by
  induction s with
  | nil => rfl
  | cons c r ih =>
    by_cases hc : c = 10
    · rw [splitN_nl hc, hc]; simp [ih]
    · rw [splitN_other hc, List.count_cons]
      have hb : (c == 10) = false := by simp [hc]
      unfold prepN
      rcases hsp : splitN r with _ | ⟨a, b⟩
      · exact absurd hsp (splitN_ne _)
      · rw [hsp] at ih; simp [hb] at ih ⊢; omega
theorem index_eqN (s : List UInt8) : m_strings_Index_3 s = some (Go.Lib.indexByte s 10, ()) := by
  unfold m_strings_Index_3 m_stringslite_Index_2
  by_cases h : s = [10]
  · subst h; rfl
  · rw [show (([10] : List UInt8) == s) = false by rw [beq_eq_false_iff_ne]; exact fun h' => h h'.symm]
    rfl
theorem genSplit_eqN (s : List UInt8) (hs : s.length ≤ 8796093022206) : m_strings_genSplit s = some (splitN s, ()) := by
  unfold m_strings_genSplit
  refine bind_eq (x := (((s.count 10 : Nat) : Int), ())) rfl ?_
  have hcl : s.count 10 ≤ s.length := List.count_le_length
  dsimp only
  rw [wr ((s.length : Int) + 1) (by omega), wr (((s.count 10 : Nat) : Int) + 1) (by omega), if_neg (show ¬((s.length : Int) + 1 < ((s.count 10 : Nat) : Int) + 1) by omega), if_pos (by omega), wr (((s.count 10 : Nat) : Int) + 1 - 1) (by omega)]
  have hn : (((s.count 10 : Nat) : Int) + 1).toNat = s.count 10 + 1 := by omega
  rw [hn]
  refine bind_ex (loopC_some' _ (fun n t => ∃ (r : List UInt8) (i : Nat) (a : List (List UInt8)), t = ((r, (), (), ((s.count 10 : Nat) : Int) + 1 - 1, (), (i : Int), ()), a, ()) ∧ i + r.count 10 = s.count 10 ∧ r.length ≤ s.length ∧ a.length = s.count 10 + 1 ∧ a.take i ++ splitN r = splitN s ∧ n = r.length)
    (fun t => ∃ (r : List UInt8) (i : Nat) (a : List (List UInt8)), t = ((r, (), (i : Int), ()), a, ()) ∧ i ≤ s.count 10 ∧ a.length = s.count 10 + 1 ∧ a.take i ++ [r] = splitN s) ?_ _ s.length _ ⟨s, 0, _, rfl, by omega, by omega, by simp, rfl, rfl⟩ (by omega)) ?_
  · rintro n t k ⟨r, i, a, rfl, h1, h2, h3, h4, rfl⟩ hk
    dsimp only
    by_cases hl : i < s.count 10
    · rw [decide_eq_true (by omega), cond_true, index_eqN, Option.bind_some]
      dsimp only
      rcases index_nl r with ⟨g1, g2⟩ | ⟨m, hm, g1, g2, g3⟩
      · rw [g1, decide_eq_true (by omega), cond_true]
        exact ⟨_, rfl, r, i, a, rfl, by omega, h3, by rw [g2] at h4; exact h4⟩
      · rw [g1, decide_eq_false (by omega), cond_false, wr ((m : Int) + 0) (by omega)]
        simp only [List.length_cons, List.length_nil]
        rw [show ((0 + 1 : Nat) : Int) = 1 from rfl, wr1 m (by omega), if_pos (by omega), if_pos (by omega), if_pos (by omega), if_pos (by omega), wr1 i (by omega)]
        refine hk (r.drop (m + 1)).length _ (by rw [List.length_drop]; omega) ⟨r.drop (m + 1), i + 1, a.set i (r.take m), ?_, by omega, by rw [List.length_drop]; omega, ?_, ?_, rfl⟩
        · simp only [Int.toNat_natCast, List.take_length, Int.add_zero]; rfl
        · rw [List.length_set]; exact h3
        · rw [List.take_add_one, List.take_set_of_le (by omega), ← h4, g2]
          rw [List.getElem?_set_self (by omega)]
          simp
    · rw [decide_eq_false (by omega), cond_false]
      refine ⟨_, rfl, r, i, a, rfl, by omega, h3, ?_⟩
      rcases index_nl r with ⟨g1, g2⟩ | ⟨m, hm, g1, g2, g3⟩
      · rw [g2] at h4; exact h4
      · omega
  · rintro t ⟨r, i, a, rfl, h1, h2, h3⟩
    dsimp only
    rw [if_pos (by omega), if_pos (by omega), wr1 i (by omega), if_pos (by rw [List.length_set]; omega)]
    rw [Int.toNat_natCast, Int.toNat_natCast, List.take_add_one, List.take_set_of_le (by omega), List.getElem?_set_self (by omega)]
    show some (a.take i ++ [r], ()) = _
    rw [h3]
theorem split_eqN (s : List UInt8) (hs : s.length ≤ 8796093022206) : m_strings_Split s = some (splitN s, ()) := by
  unfold m_strings_Split; rw [genSplit_eqN s hs]; rfl
theorem splitN_mem : ∀ (s : List UInt8), ∀ x ∈ splitN s, (10 : UInt8) ∉ x ∧ x.length ≤ s.length
  | [] => by intro x hx; simp [splitN] at hx; subst hx; simp
  | c :: r => by
    intro x hx
    have ih := splitN_mem r
    by_cases hc : c = 10
    · rw [splitN_nl hc] at hx
      rcases List.mem_cons.1 hx with rfl | hx
      · simp
      · have := ih x hx; simp only [List.length_cons]; exact ⟨this.1, by omega⟩
    · rw [splitN_other hc] at hx
      rcases hsp : splitN r with _ | ⟨a, b⟩
      · exact absurd hsp (splitN_ne r)
      · rw [hsp] at hx ih
        simp only [prepN, List.mem_cons] at hx
        rcases hx with rfl | hx
        · have := ih a (by simp)
          refine ⟨?_, by simp; omega⟩
          intro h
          simp only [List.cons_append, List.nil_append, List.mem_cons] at h
          rcases h with h | h
          · exact hc h.symm
          · exact this.1 h
        · have := ih x (by simp [hx]); simp only [List.length_cons]; exact ⟨this.1, by omega⟩
def bad1 (s : List UInt8) : Bool := decide ((s.length : Int) > 20000) || (decide ((s.length : Int) > 0) && !(s.getD (s.length - 1) 0 == 10))
def linesV (s : List UInt8) : List (List UInt8) × Bool := cond (bad1 s || decide (s.count 10 > 600)) ([], false) ((splitN s).dropLast, true)
theorem linesV_mem {s : List UInt8} (h : s.length ≤ 1048576) : ∀ x ∈ (linesV s).1, (10 : UInt8) ∉ x ∧ x.length ≤ 1048576 := by
  unfold linesV
  cases bad1 s || decide (s.count 10 > 600) with
  | true => intro x hx; simp at hx
  | false =>
    intro x hx
    have := splitN_mem s x (List.dropLast_subset _ hx)
    exact ⟨this.1, by omega⟩
theorem linesV_len {s : List UInt8} (h : s.length ≤ 1048576) : (linesV s).1.length ≤ 1048576 := by
  unfold linesV
  cases bad1 s || decide (s.count 10 > 600) with
  | true => simp
  | false => have := splitN_len s; simp; omega
theorem eqB10 (b : UInt8) : (((b.toNat : Nat) : Int) == 10) = (b == 10) := by
  rw [Bool.eq_iff_iff, beq_iff_eq, beq_iff_eq, ← UInt8.toNat_inj]
  show ((b.toNat : Nat) : Int) = 10 ↔ b.toNat = 10
  omega
theorem hasSufN (s : List UInt8) (c : UInt8) (hs : s.length ≤ 1048576) : m_strings_HasSuffix s [c] = some (decide (1 ≤ s.length) && (s.getD (s.length - 1) 0 == c), ()) := by
  unfold m_strings_HasSuffix m_stringslite_HasSuffix
  simp only [List.length_cons, List.length_nil]
  by_cases h : 1 ≤ s.length
  · rw [decide_eq_true (show (s.length : Int) ≥ ((0 + 1 : Nat) : Int) by omega), decide_eq_true h, cond_true, wr _ (by omega), if_pos (by omega)]
    simp only [Option.bind_some, Bool.true_and]
    rw [show Int.toNat ((s.length : Int) - ((0 + 1 : Nat) : Int)) = s.length - 1 by omega, show Int.toNat (s.length : Int) = s.length by omega, List.take_length]
    have hlt : s.length - 1 < s.length := by omega
    rw [getD_consN hlt, show s.length - 1 + 1 = s.length by omega, List.drop_length]
    congr 2
    rw [Bool.eq_iff_iff]; simp
  · rw [decide_eq_false (show ¬((s.length : Int) ≥ ((0 + 1 : Nat) : Int)) by omega), decide_eq_false h]; rfl
theorem impl_lines (s : List UInt8) (hs : s.length ≤ 1048576) : m_impl_linesOf s = some (((linesV s).1, (linesV s).2, ()), ()) := by
  unfold m_impl_linesOf linesV
  refine bind_eq (x := ((s, bad1 s || decide (s.count 10 > 600), ()), ())) ?_ ?_
  · unfold bad1
    have hcnt : m_strings_Count s = some (((s.count 10 : Nat) : Int), ()) := rfl
    have h6 : decide (((s.count 10 : Nat) : Int) > 600) = decide (s.count 10 > 600) := decide_eq_decide.2 (by omega)
    rw [hcnt, hasSufN s 10 hs]
    simp only [Option.bind_some, h6]
    cases decide ((s.length : Int) > 20000) with
    | true => rfl
    | false =>
      by_cases h0 : (s.length : Int) > 0
      · have hne : (s == []) = false := by rw [beq_eq_false_iff_ne]; rintro rfl; simp at h0
        rw [hne, decide_eq_true h0, decide_eq_true (show 1 ≤ s.length by omega)]
        cases s.getD (s.length - 1) 0 == 10 <;> rfl
      · have : s = [] := List.length_eq_zero_iff.1 (by omega)
        subst this
        rfl
  · dsimp only
    cases hb : (bad1 s || decide (s.count 10 > 600)) with
    | true => rfl
    | false =>
      simp only [cond_false]
      rw [split_eqN s (by omega), Option.bind_some]
      have hne := splitN_ne s
      have hl : 1 ≤ (splitN s).length := by
        rcases hsp : splitN s with _ | ⟨a, b⟩
        · exact absurd hsp hne
        · simp
      have hl2 := splitN_len s
      dsimp only
      rw [wr _ (by omega), if_pos (by omega), show Int.toNat (((splitN s).length : Int) - 1) = (splitN s).length - 1 by omega, ← List.dropLast_eq_take]
      rfl
theorem slash_eq (b : Bool) : m_impl_slash b = some (sl b, ()) := by cases b <;> rfl
theorem kinds {k : Int} (h0 : 0 ≤ k) (h3 : k ≤ 3) : k = 0 ∨ k = 1 ∨ k = 2 ∨ k = 3 := by omega
theorem ruleOk_pat {r : RuleT} (h : ruleOk r = true) (h4 : r.1 ≠ 4) : r.2.2.2.length ≤ 60 := by
  unfold ruleOk at h
  rw [show (r.1 == 4) = false by rw [beq_eq_false_iff_ne]; exact h4] at h
  simp only [cond_false, Bool.and_eq_true] at h
  exact (patB_len h.2.1).2
theorem sl_len (b : Bool) : (sl b).length ≤ 1 := by cases b <;> decide
theorem impl_show (r : RuleT) : m_impl_ShowRule r = some (showR r, ()) := by
  unfold m_impl_ShowRule showR
  rw [impl_ruleOk, Option.bind_some]
  dsimp only
  cases hr : ruleOk r with
  | false => rfl
  | true =>
    simp only [Bool.not_true, cond_false, cond_true]
    by_cases h4 : r.1 = 4
    · rw [show (r.1 == 4) = true by simpa using h4]; rfl
    · rw [show (r.1 == 4) = false by rw [beq_eq_false_iff_ne]; exact h4]
      obtain ⟨h0, h3, _, _, _⟩ := ruleOk_plain hr h4
      have hp := ruleOk_pat hr h4
      obtain ⟨k, a, b, p⟩ := r
      dsimp only at h0 h3 hp ⊢
      have ha := sl_len a
      have hb := sl_len b
      rw [slash_eq, slash_eq]
      simp only [Option.bind_some, cond_false]
      rcases kinds h0 h3 with rfl | rfl | rfl | rfl
      all_goals
        rw [wr _ (by omega), if_pos (by decide), if_pos (by decide)]
        rw [if_pos, if_pos, if_pos]
        · simp only [List.append_assoc]; rfl
        · simp only [List.length_append, List.length_take, List.length_drop, List.length_cons, List.length_nil]; omega
        · simp only [List.length_append, List.length_take, List.length_drop, List.length_cons, List.length_nil]; omega
        · simp only [List.length_append, List.length_take, List.length_drop, List.length_cons, List.length_nil]; omega
theorem idx_cases (s : List UInt8) (c : UInt8) : Go.Lib.indexByte s c = -1 ∨ ∃ k : Nat, k < s.length ∧ Go.Lib.indexByte s c = k := by
  induction s with
  | nil => exact .inl rfl
  | cons b r ih =>
    unfold Go.Lib.indexByte
    by_cases hb : b = c
    · exact .inr ⟨0, by simp, by simp [hb]⟩
    · rw [show (b == c) = false by simp [hb]]
      rcases ih with h | ⟨k, hk, h⟩
      · rw [h]; exact .inl rfl
      · rw [h]
        refine .inr ⟨k + 1, by simp; omega, ?_⟩
        rw [show ((k : Int) == -1) = false by rw [beq_eq_false_iff_ne]; omega]
        simp
theorem index32 (s : List UInt8) : m_stringslite_Index s = some (Go.Lib.indexByte s 32, ()) := by
  unfold m_stringslite_Index
  by_cases h : s = [32]
  · subst h; rfl
  · rw [show (([32] : List UInt8) == s) = false by rw [beq_eq_false_iff_ne]; exact fun h' => h h'.symm]
    rfl
theorem cut_eq (s : List UInt8) (hs : s.length ≤ 1048576) : m_strings_Cut s = some (((cutI s).1, (cutI s).2, decide (Go.Lib.indexByte s 32 ≥ 0), ()), ()) := by
  unfold m_strings_Cut m_stringslite_Cut cutI
  rw [index32, Option.bind_some]
  dsimp only
  rcases idx_cases s 32 with h | ⟨k, hk, h⟩
  · rw [h]; rfl
  · have e : IntKind.wrap .i64 ((k : Int) + (([32] : List UInt8).length : Int)) = ((k + 1 : Nat) : Int) := wr1 k (by omega)
    rw [h, decide_eq_true (show (k : Int) ≥ 0 by omega), cond_true, e, if_pos (by omega), if_pos (by omega), if_pos (by omega), Option.bind_some]
    simp only [Int.toNat_natCast, List.take_length]
    rfl
theorem cutPre (s : List UInt8) : m_strings_CutPrefix s [47] = some ((unroot s, hd s, ()), ()) := by
  unfold m_strings_CutPrefix m_stringslite_CutPrefix m_stringslite_HasPrefix unroot hd
  simp only [List.length_cons, List.length_nil]
  cases s with
  | nil => rfl
  | cons b r =>
    rw [decide_eq_true (show ((b :: r).length : Int) ≥ ((0 + 1 : Nat) : Int) by simp only [List.length_cons]; omega), cond_true, if_pos (by simp only [List.length_cons]; omega)]
    simp only [Option.bind_some]
    have e : (List.drop (Int.toNat 0) (List.take (Int.toNat ((0 + 1 : Nat) : Int)) (b :: r)) == [47]) = (b == 47) := by
      show ([b] == [47]) = _
      rw [Bool.eq_iff_iff]; simp
    rw [e]
    show _ = some ((cond (b == 47) r (b :: r), b == 47, ()), ())
    cases b == 47 with
    | false => rfl
    | true =>
      simp only [Bool.not_true, cond_false, cond_true]
      rw [if_pos (by simp only [List.length_cons]; omega), Option.bind_some]
      simp
theorem cutSuf (s : List UInt8) (hs : s.length ≤ 1048576) : m_strings_CutSuffix s [47] = some ((undir s, tl s, ()), ()) := by
  unfold m_strings_CutSuffix m_stringslite_CutSuffix
  have h := hasSufN s 47 hs
  unfold m_strings_HasSuffix at h
  have h' : m_stringslite_HasSuffix s [47] = some (decide (1 ≤ s.length) && (s.getD (s.length - 1) 0 == 47), ()) := by
    cases hm : m_stringslite_HasSuffix s [47] with
    | none => rw [hm] at h; cases h
    | some v => rw [hm] at h; exact h
  rw [h', Option.bind_some]
  unfold undir tl
  by_cases h1 : 1 ≤ s.length
  · rw [decide_eq_true h1, Bool.true_and]
    dsimp only
    cases s.getD (s.length - 1) 0 == 47 with
    | false => rfl
    | true =>
      simp only [Bool.not_true, cond_false, cond_true, List.length_cons, List.length_nil]
      rw [show (s.length : Int) - ((0 + 1 : Nat) : Int) = (s.length : Int) - 1 from rfl, wr _ (by omega), if_pos (by omega), Option.bind_some, show Int.toNat ((s.length : Int) - 1) = s.length - 1 by omega]
      rfl
  · have : s = [] := List.length_eq_zero_iff.1 (by omega)
    subst this; rfl
def outR : Option RuleT → (RuleT × Bool × Unit) × Unit
  | some r => ((r, true, ()), ())
  | none => (((0, false, false, []), false, ()), ())
theorem impl_parse (l : List UInt8) (hl : l.length ≤ 1048576) : m_impl_ParseRule l = some (outR (ruleOf l)) := by
  unfold m_impl_ParseRule
  rw [cut_eq l hl]
  simp only [Option.bind_some]
  have hc2 : (cutI l).2.length ≤ 1048576 := by
    unfold cutI; split
    · simp only [List.length_drop]; omega
    · simp
  have hu : (unroot (cutI l).2).length ≤ 1048576 := by
    unfold unroot
    cases hd (cutI l).2
    · exact hc2
    · simp only [cond_true, List.length_drop]; omega
  have hidx : m_strings_Index_2 [45, 43, 80, 82, 33] (cutI l).1 = some (Go.Lib.index signs (cutI l).1, ()) := rfl
  rw [hidx]
  simp only [Option.bind_some]
  refine bind_eq (x := ((l, (), (cutI l).1, (), ()), (0, false, false, [], ()), ((rule0 l).1, (rule0 l).2.1, (rule0 l).2.2.1, (rule0 l).2.2.2, ()), ())) ?_ ?_
  · unfold rule0
    by_cases h4 : Go.Lib.index signs (cutI l).1 = 4
    · rw [h4]; rfl
    · rw [show (Go.Lib.index signs (cutI l).1 != 4) = true by rw [bne_iff_ne]; exact h4, show (Go.Lib.index signs (cutI l).1 == 4) = false by rw [beq_eq_false_iff_ne]; exact h4]
      rw [cond_true, cutPre]
      simp only [Option.bind_some]
      rw [cutSuf _ hu]
      rfl
  · dsimp only
    rw [show ((rule0 l).1, (rule0 l).2.1, (rule0 l).2.2.1, (rule0 l).2.2.2) = rule0 l from rfl]
    refine bind_eq (x := (((), (), !ok0 l, ()), (0, false, false, [], ()), ((rule0 l).1, (rule0 l).2.1, (rule0 l).2.2.1, (rule0 l).2.2.2, ()), ())) ?_ ?_
    · unfold ok0
      by_cases h1 : (cutI l).1.length = 1
      · rw [show (((cutI l).1.length : Int) != 1) = false by simp [h1], decide_eq_true h1, cond_false, impl_ruleOk, Option.bind_some]
        dsimp only
        cases ruleOk (rule0 l) with
        | false => rfl
        | true =>
          rw [impl_show]
          rfl
      · rw [show (((cutI l).1.length : Int) != 1) = true by rw [bne_iff_ne]; omega, decide_eq_false h1]; rfl
    · dsimp only
      unfold ruleOf
      cases ok0 l <;> rfl
/-! ### many rules -/
def rulesV : List (List UInt8) → Nat → List RuleT → List RuleT × Int × Bool
  | [], _, acc => (acc, 0, true)
  | l :: r, i, acc => match ruleOf l with
    | none => ([], ((i + 1 : Nat) : Int), false)
    | some x => cond (x.1 == 4) (rulesV r (i + 1) []) (cond (decide (acc.length = 100)) ([], ((i + 1 : Nat) : Int), false) (rulesV r (i + 1) (acc ++ [x])))
theorem rulesV_len : ∀ (ls : List (List UInt8)) (i : Nat) (acc : List RuleT), acc.length ≤ 100 → (rulesV ls i acc).1.length ≤ 100
  | [], _, acc, h => h
  | l :: r, i, acc, h => by
    rw [rulesV]
    cases ruleOf l with
    | none => simp
    | some x =>
      dsimp only
      cases x.1 == 4 with
      | true => exact rulesV_len r (i + 1) [] (by simp)
      | false =>
        by_cases h1 : acc.length = 100
        · rw [decide_eq_true h1]; simp
        · rw [decide_eq_false h1]; exact rulesV_len r (i + 1) _ (by simp; omega)
theorem rulesV_num : ∀ (ls : List (List UInt8)) (i : Nat) (acc : List RuleT), (rulesV ls i acc).2.2 = true → (rulesV ls i acc).2.1 = 0
  | [], _, acc, _ => rfl
  | l :: r, i, acc, h => by
    rw [rulesV] at h ⊢
    cases hr : ruleOf l with
    | none => rw [hr] at h; cases h
    | some x =>
      rw [hr] at h
      dsimp only at h ⊢
      cases h4 : x.1 == 4 with
      | true => rw [h4] at h; exact rulesV_num r (i + 1) [] h
      | false =>
        rw [h4] at h
        by_cases h1 : acc.length = 100
        · rw [decide_eq_true h1] at h; cases h
        · rw [decide_eq_false h1] at h ⊢; exact rulesV_num r (i + 1) _ h
def prV (s : List UInt8) : List RuleT × Int × Bool := cond (linesV s).2 (rulesV (linesV s).1 0 []) ([], 0, false)
theorem prV_len (s : List UInt8) : (prV s).1.length ≤ 100 := by
  unfold prV
  cases (linesV s).2
  · simp
  · exact rulesV_len _ _ _ (by simp)
theorem getD_consL {ls : List (List UInt8)} {i : Nat} (h : i < ls.length) : ls.drop i = ls.getD i [] :: ls.drop (i + 1) := by
  rw [List.drop_eq_getElem_cons h, List.getD_eq_getElem?_getD, List.getElem?_eq_getElem h]; rfl
theorem impl_parseRules (s : List UInt8) (hs : s.length ≤ 1048576) : m_impl_ParseRules s = some (((prV s).1, (prV s).2.1, (prV s).2.2, ()), ()) := by
  unfold m_impl_ParseRules prV
  rw [impl_lines s hs]
  have hm := linesV_mem hs
  have hl := linesV_len hs
  generalize linesV s = L at hm hl
  obtain ⟨ls, ok⟩ := L
  dsimp only at hm hl ⊢
  rw [Option.bind_some]
  cases ok with
  | false => rfl
  | true =>
    simp only [Bool.not_true, cond_false, cond_true]
    generalize hR : rulesV ls 0 [] = R
    refine joinC_of (loopC_inv _ (fun n t => ∃ (i : Nat) (acc : List RuleT), t = (((), ls, (ls.length : Int), (i : Int), ()), acc, ()) ∧ i ≤ ls.length ∧ acc.length ≤ 100 ∧ rulesV (ls.drop i) i acc = R ∧ n = ls.length - i)
      (fun _ => some (cond R.2.2 (Sum.inl (((), ()), R.1, ())) (Sum.inr ((R.1, R.2.1, R.2.2, ()), ())))) ?_ _ ls.length _ ⟨0, [], rfl, by omega, by simp, hR, rfl⟩ (by omega)) ?_
    · rintro n t k ⟨i, acc, rfl, hi, ha, he, rfl⟩ hk
      dsimp only
      by_cases hlt : i < ls.length
      · rw [decide_eq_true (by omega), cond_true]
        have hx : 0 ≤ (i : Int) ∧ (i : Int) < (ls.length : Int) := by omega
        rw [if_pos hx, Int.toNat_natCast]
        have hmem := hm (ls.getD i []) (getD_mem [] hlt)
        have hp := impl_parse (ls.getD i []) hmem.2
        rw [getD_consL hlt, rulesV] at he
        rw [show m_impl_ParseRule (List.getD ls i (nilOf UInt8)) = some (outR (ruleOf (ls.getD i []))) from hp]
        rw [Option.bind_some]
        cases hr : ruleOf (ls.getD i []) with
        | none =>
          rw [hr] at he
          dsimp only at he
          subst he
          dsimp only [outR]
          rw [Bool.not_false, cond_true, joinC_inr' rfl, wr1 i (by omega)]
          rfl
        | some x =>
          rw [hr] at he
          dsimp only at he
          dsimp only [outR]
          rw [Bool.not_true, cond_false]
          cases h4 : x.1 == 4 with
          | true =>
            rw [h4, cond_true] at he
            rw [cond_true, joinC_inl' rfl]
            dsimp only
            rw [wr1 i (by omega)]
            exact hk (ls.length - (i + 1)) _ (by omega) ⟨i + 1, [], rfl, by omega, by simp, he, rfl⟩
          | false =>
            rw [h4, cond_false] at he
            rw [cond_false]
            by_cases h1 : acc.length = 100
            · rw [decide_eq_true h1, cond_true] at he
              rw [show ((acc.length : Int) == 100) = true by simp [h1], cond_true, joinC_inr' rfl, wr1 i (by omega), ← he]
              rfl
            · rw [decide_eq_false h1, cond_false] at he
              rw [show ((acc.length : Int) == 100) = false by rw [beq_eq_false_iff_ne]; omega, cond_false, if_pos (by simp only [List.length_cons, List.length_nil]; omega), joinC_inl' rfl]
              dsimp only
              rw [wr1 i (by omega)]
              exact hk (ls.length - (i + 1)) _ (by omega) ⟨i + 1, acc ++ [x], rfl, by omega, by simp; omega, he, rfl⟩
      · rw [decide_eq_false (by omega), cond_false]
        rw [List.drop_eq_nil_of_le (by omega)] at he
        rw [← he]; rfl
    · have hn := rulesV_num ls 0 []
      rw [hR] at hn
      obtain ⟨r1, r2, r3⟩ := R
      cases r3 with
      | false => rfl
      | true =>
        have : r2 = 0 := hn rfl
        subst this; rfl
end Go.AM
set_option linter.unusedVariables false
set_option linter.unusedSimpArgs false
namespace Go.AM
open Go
/-! ### rules come back from their lines -/
def textOf (l : List RuleT) : List UInt8 := l.flatMap (fun r => showR r ++ [10])
def plainR (r : RuleT) : Bool := ruleOk r && !(r.1 == 4)
theorem showR_plain {r : RuleT} (h : plainR r = true) : ruleOk r = true ∧ r.1 ≠ 4 ∧ showR r = sgn r.1 :: 32 :: (sl r.2.1 ++ (r.2.2.2 ++ sl r.2.2.1)) := by
  unfold plainR at h
  rw [Bool.and_eq_true, Bool.not_eq_true', beq_eq_false_iff_ne] at h
  refine ⟨h.1, h.2, ?_⟩
  unfold showR
  rw [h.1, show (r.1 == 4) = false by rw [beq_eq_false_iff_ne]; exact h.2]
  rfl
theorem showR_len (r : RuleT) : (showR r).length ≤ 64 := by
  cases hr : ruleOk r with
  | false => unfold showR; rw [hr]; simp
  | true =>
    by_cases h4 : r.1 = 4
    · unfold showR; rw [hr, show (r.1 == 4) = true by simpa using h4]; exact (by decide : (1 : Nat) ≤ 64)
    · have h := (showR_plain (r := r) (by unfold plainR; rw [hr, show (r.1 == 4) = false by rw [beq_eq_false_iff_ne]; exact h4]; rfl)).2.2
      have hp := ruleOk_pat hr h4
      have ha := sl_len r.2.1
      have hb := sl_len r.2.2.1
      rw [h]
      simp only [List.length_cons, List.length_append]
      omega
theorem sl_nl (b : Bool) : (10 : UInt8) ∉ sl b := by cases b <;> decide
theorem sgn_nl (k : Int) : sgn k ≠ 10 := by
  unfold sgn
  split
  · decide
  · split
    · decide
    · split <;> decide
theorem showR_nl {r : RuleT} (h10 : (10 : UInt8) ∉ r.2.2.2) (h : plainR r = true) : (10 : UInt8) ∉ showR r := by
  rw [(showR_plain h).2.2]
  intro hm
  rcases List.mem_cons.1 hm with hm | hm
  · exact sgn_nl _ hm.symm
  · rcases List.mem_cons.1 hm with hm | hm
    · exact absurd hm (by decide)
    · rcases List.mem_append.1 hm with hm | hm
      · exact sl_nl _ hm
      · rcases List.mem_append.1 hm with hm | hm
        · exact h10 hm
        · exact sl_nl _ hm
theorem splitN_app : ∀ (x y : List UInt8), (10 : UInt8) ∉ x → splitN (x ++ 10 :: y) = x :: splitN y
  | [], y, _ => by rw [List.nil_append, splitN_nl rfl]
  | c :: x, y, h => by
    rw [List.cons_append, splitN_other (fun e => h (by rw [e]; exact List.mem_cons_self ..)), splitN_app x y (fun e => h (List.mem_cons_of_mem _ e))]
    rfl
theorem splitN_text (y : List UInt8) : ∀ l : List RuleT, (∀ r ∈ l, (10 : UInt8) ∉ r.2.2.2) → (∀ r ∈ l, plainR r = true) → splitN (textOf l ++ y) = l.map showR ++ splitN y
  | [], _, _ => rfl
  | r :: l, h, g => by
    unfold textOf
    rw [List.flatMap_cons]
    have := splitN_text y l (fun x hx => h x (List.mem_cons_of_mem _ hx)) (fun x hx => g x (List.mem_cons_of_mem _ hx))
    unfold textOf at this
    rw [List.append_assoc, List.append_assoc]
    rw [show ([10] : List UInt8) ++ (List.flatMap (fun r => showR r ++ [10]) l ++ y) = 10 :: (List.flatMap (fun r => showR r ++ [10]) l ++ y) from rfl]
    rw [splitN_app _ _ (showR_nl (h r (List.mem_cons_self ..)) (g r (List.mem_cons_self ..))), this]
    rfl
theorem textOf_len : ∀ l : List RuleT, (textOf l).length ≤ 65 * l.length
  | [] => by simp [textOf]
  | r :: l => by
    have := textOf_len l
    have h := showR_len r
    unfold textOf at this ⊢
    rw [List.flatMap_cons, List.length_append, List.length_append, List.length_cons, List.length_nil, List.length_cons]
    omega
theorem textOf_snoc (l : List RuleT) (r : RuleT) : textOf (l ++ [r]) = textOf l ++ showR r ++ [10] := by
  unfold textOf
  rw [List.flatMap_append]
  simp
theorem last_app (z : List UInt8) (c : UInt8) : (z ++ [c]).getD ((z ++ [c]).length - 1) 0 = c := by
  rw [List.length_append, List.length_cons, List.length_nil, Nat.add_sub_cancel, List.getD_eq_getElem?_getD, List.getElem?_append_right (Nat.le_refl _)]
  simp
theorem ends_nl (x : List UInt8) (l : List RuleT) : ∃ z, (x ++ [33, 10]) ++ textOf l = z ++ [10] := by
  rcases List.eq_nil_or_concat l with h | ⟨l', r, h⟩
  · subst h
    exact ⟨x ++ [33], by simp [textOf]⟩
  · rw [List.concat_eq_append] at h
    subst h
    rw [textOf_snoc]
    exact ⟨x ++ [33, 10] ++ (textOf l' ++ showR r), by simp⟩
theorem rulesV_app (rest : List (List UInt8)) : ∀ (l : List RuleT) (i : Nat) (acc : List RuleT), (∀ r ∈ l, plainR r = true) → acc.length + l.length ≤ 100 → ∃ j, rulesV (l.map showR ++ rest) i acc = rulesV rest j (acc ++ l)
  | [], i, acc, _, _ => ⟨i, by simp⟩
  | r :: l, i, acc, h, hl => by
    have hr := showR_plain (h r (List.mem_cons_self ..))
    obtain ⟨j, hj⟩ := rulesV_app rest l (i + 1) (acc ++ [r]) (fun x hx => h x (List.mem_cons_of_mem _ hx)) (by simp at hl ⊢; omega)
    refine ⟨j, ?_⟩
    rw [List.map_cons, List.cons_append, rulesV, parse_show hr.1]
    dsimp only
    rw [show (r.1 == 4) = false by rw [beq_eq_false_iff_ne]; exact hr.2.1, cond_false, decide_eq_false (by simp at hl; omega), cond_false, hj, List.append_assoc]
    rfl
theorem prV_text (l : List RuleT) (h : ∀ r ∈ l, (10 : UInt8) ∉ r.2.2.2) (g : ∀ r ∈ l, plainR r = true) (hl : l.length ≤ 8) : prV (textOf l ++ [33, 10] ++ textOf l) = (l, 0, true) := by
  have hsp : splitN (textOf l ++ [33, 10] ++ textOf l) = (l.map showR ++ [33] :: l.map showR) ++ [[]] := by
    rw [List.append_assoc, splitN_text _ l h g]
    show l.map showR ++ splitN ([33] ++ 10 :: textOf l) = _
    rw [splitN_app [33] _ (by decide)]
    have := splitN_text [] l h g
    rw [List.append_nil] at this
    rw [this]
    simp [splitN]
  have ht := textOf_len l
  have hb : bad1 (textOf l ++ [33, 10] ++ textOf l) = false := by
    unfold bad1
    rw [decide_eq_false (by simp only [List.length_append, List.length_cons, List.length_nil]; omega), Bool.false_or]
    obtain ⟨z, hz⟩ := ends_nl (textOf l) l
    rw [hz, last_app]
    simp
  have hc := count_nl (textOf l ++ [33, 10] ++ textOf l)
  rw [hsp] at hc
  simp only [List.length_append, List.length_map, List.length_cons, List.length_nil] at hc
  unfold prV linesV
  rw [hb, Bool.false_or, decide_eq_false (by omega), cond_false, hsp, List.dropLast_concat]
  dsimp only
  rw [cond_true]
  obtain ⟨j, hj⟩ := rulesV_app ([33] :: l.map showR) l 0 [] g (by simp; omega)
  rw [hj, rulesV, show ruleOf [33] = some (4, false, false, []) from rfl]
  dsimp only
  rw [show ((4 : Int) == 4) = true from rfl, cond_true]
  obtain ⟨j2, hj2⟩ := rulesV_app [] l (j + 1) [] g (by simp; omega)
  rw [List.append_nil] at hj2
  rw [hj2]
  rfl
theorem drawShow_some (c : List Int) (hc : c.length ≤ 1048576) : ∃ r, m_spec_DrawShowRule c = some r ∧ noNl r.1 := by
  unfold m_spec_DrawShowRule
  refine bind_some' (new_some c hc) ?_
  rintro ⟨u0, s0, u1⟩ h0
  refine bind_some' (any9_some s0 h0) ?_
  rintro ⟨r, s4, u6⟩ ⟨hr, h4⟩
  exact ⟨_, rfl, hr⟩
theorem all_plain {l : List RuleT} (h : (List.range l.length).all (fun i => plainR (l.getD i dR)) = true) : ∀ r ∈ l, plainR r = true := by
  rw [range_all l dR plainR] at h
  exact fun r hr => List.all_eq_true.1 h r hr
theorem law_RuleLines (c : List Int) : m_laws_FnRuleLines c = some (true, ()) := by
  unfold m_laws_FnRuleLines
  have hbig : m_laws_big c = some (decide ((c.length : Int) > 1048576), ()) := rfl
  rw [hbig, Option.bind_some]
  by_cases hb : (c.length : Int) > 1048576
  · rw [decide_eq_true hb]; rfl
  rw [decide_eq_false hb, cond_false]
  refine bind_ex (drawShow_some c (by omega)) ?_
  rintro ⟨r, u⟩ hr
  have hr : (10 : UInt8) ∉ r.2.2.2 := hr
  dsimp only
  rw [impl_show, Option.bind_some, spec_ruleOk r hr, Option.bind_some]
  dsimp only
  have hsl := showR_len r
  have hs0 : (!(ruleOk r == !(showR r == []))) = false := by
    cases ho : ruleOk r with
    | false => rw [showR_nil.2 ho]; rfl
    | true =>
      have : showR r ≠ [] := fun h => by rw [showR_nil, ho] at h; cases h
      rw [show (showR r == []) = false by rw [beq_eq_false_iff_ne]; exact this]; rfl
  show (bif !(ruleOk r == !(showR r == [])) then _ else _) = _
  rw [hs0, cond_false, impl_parse _ (by omega), Option.bind_some]
  refine bind_eq (x := ((c, false, ()), ())) ?_ ?_
  · cases ho : ruleOk r with
    | false => rw [showR_nil.2 ho]; rfl
    | true =>
      have : showR r ≠ [] := fun h => by rw [showR_nil, ho] at h; cases h
      rw [parse_show ho, show (showR r == []) = false by rw [beq_eq_false_iff_ne]; exact this]
      dsimp only [outR]
      simp only [Bool.not_false, Bool.not_true, cond_true, cond_false, beq_self_eq_true, Bool.and_true]
  dsimp only
  rw [cond_false]
  refine bind_ex (drawHidden_some c (by omega)) ?_
  rintro ⟨⟨l, path, dir, u1⟩, u2⟩ ⟨hl, hl2, hp⟩
  have hl : ∀ r ∈ l, (10 : UInt8) ∉ r.2.2.2 := hl
  have hl2 : l.length ≤ 8 := hl2
  dsimp only
  refine joinC_of (allLoop _ (fun i => ((l, path, textOf (l.take i), (i : Int), ()), ())) l.length (fun i => plainR (l.getD i dR)) (.inl ((l, path, textOf l, ()), ())) (.inr (true, ())) ?_ ?_ _ (by omega)) ?_
  · intro i k hi
    dsimp only
    have hx : 0 ≤ (i : Int) ∧ (i : Int) < (l.length : Int) := by omega
    rw [decide_eq_true (by omega), cond_true]
    simp only [if_pos hx, Int.toNat_natCast]
    refine bind_eq (x := ((l, path, textOf (l.take i), (i : Int), !plainR (l.getD i dR), ()), ())) ?_ ?_
    · refine bind_eq (spec_ruleOk (l.getD i dR) (hl _ (getD_mem dR hi))) ?_
      unfold plainR
      dsimp only
      cases ruleOk (l.getD i dR) with
      | false => rfl
      | true => rw [Bool.true_and, Bool.not_not]; rfl
    · dsimp only
      cases hpl : plainR (l.getD i dR) with
      | false => rfl
      | true =>
        rw [Bool.not_true, cond_false]
        simp only [if_pos hx, Int.toNat_natCast]
        refine bind_eq (impl_show (l.getD i dR)) ?_
        dsimp only
        have h1 := textOf_len (l.take i)
        have h2 := showR_len (l.getD i dR)
        rw [List.length_take] at h1
        have h63 : ∀ n : Nat, n ≤ 100000 → n < 2 ^ 63 := fun n hn => by show n < 9223372036854775808; omega
        rw [if_pos (h63 _ (by omega)), if_pos (h63 _ (by simp only [List.length_append, List.length_cons, List.length_nil]; omega)), wr1 i (by omega), cond_true]
        have : textOf (l.take (i + 1)) = textOf (l.take i) ++ showR (l.getD i dR) ++ [10] := by
          rw [← textOf_snoc, List.take_add_one, List.getD_eq_getElem?_getD, List.getElem?_eq_getElem hi]; rfl
        rw [this]
  · intro k; dsimp only; rw [decide_eq_false (by omega), List.take_length]; rfl
  · cases hall : (List.range l.length).all (fun i => plainR (l.getD i dR)) with
    | false => rfl
    | true =>
      have g := all_plain hall
      rw [cond_true, joinC_inl' rfl]
      dsimp only
      have ht := textOf_len l
      have h63 : ∀ n : Nat, n ≤ 100000 → n < 2 ^ 63 := fun n hn => by show n < 9223372036854775808; omega
      rw [if_pos (h63 _ (by simp only [List.length_cons, List.length_nil]; omega)), if_pos (h63 _ (by simp only [List.length_append, List.length_cons, List.length_nil]; omega))]
      rw [impl_parseRules _ (by simp only [List.length_append, List.length_cons, List.length_nil]; omega), prV_text l hl g hl2, Option.bind_some]
      refine bind_eq (x := ((l, path, l, false, ()), ())) ?_ ?_
      · dsimp only
        rw [Bool.not_true, cond_false, show ((0 : Int) != 0) = false from rfl, cond_false, show ((l.length : Int) != (l.length : Int)) = false by simp]
      dsimp only
      rw [cond_false]
      refine joinC_of (allLoop _ (fun i => ((l, path, l, (i : Int), ()), ())) l.length (fun _ => true) (.inl ((l, path, l, ()), ())) (.inr (false, ())) ?_ ?_ _ (by omega)) ?_
      · intro i k hi
        dsimp only
        have hx : 0 ≤ (i : Int) ∧ (i : Int) < (l.length : Int) := by omega
        rw [decide_eq_true (by omega), cond_true]
        simp only [if_pos hx, beq_self_eq_true, Bool.and_true, Bool.not_true, cond_false, cond_true]
        rw [wr1 i (by omega)]
      · intro k; dsimp only; rw [decide_eq_false (by omega)]; rfl
      · have hall : (List.range l.length).all (fun _ => true) = true := by rw [List.all_eq_true]; intros; rfl
        rw [hall, cond_true, joinC_inl' rfl]
        dsimp only
        rw [impl_Hidden_eq, Option.bind_some, Option.bind_some, beq_self_eq_true]
end Go.AM
