/- The plain law: the model of the law answers true. -/
import Derived.Test.YtkbaoeklchdioaaDoorMoFnExactItems
set_option linter.unusedVariables false
set_option linter.unusedSimpArgs false
namespace Go.AM
open Go
theorem loopC_inv {S α : Type} (F : S → (S → Option α) → Option α) (I : Nat → S → Prop) (g : S → Option α)
    (h : ∀ n s k, I n s → (∀ m s', m < n → I m s' → k s' = g s') → F s k = g s) : ∀ fuel n s, I n s → n < fuel → loopC fuel F s = g s := by
  intro fuel
  induction fuel with
  | zero => intro n s _ h0; omega
  | succ f ih => intro n s hI hn; exact h n s _ hI (fun m s' hm hI' => ih m s' hI' (by omega))
theorem wr (x : Int) (h : -9223372036854775808 ≤ x ∧ x ≤ 9223372036854775807) : IntKind.wrap .i64 x = x := by
  simp [IntKind.wrap, IntKind.signed, IntKind.bits]; omega
/-- A loop ends in some result with Q. -/
theorem loopC_some' {S α : Type} (F : S → (S → Option α) → Option α) (I : Nat → S → Prop) (Q : α → Prop)
    (h : ∀ n s k, I n s → (∀ m s', m < n → I m s' → ∃ r, k s' = some r ∧ Q r) → ∃ r, F s k = some r ∧ Q r) : ∀ fuel n s, I n s → n < fuel → ∃ r, loopC fuel F s = some r ∧ Q r := by
  intro fuel
  induction fuel with
  | zero => intro n s _ h0; omega
  | succ f ih => intro n s hI hn; exact h n s _ hI (fun m s' hm hI' => ih m s' hI' (by omega))
theorem bind_some' {α β : Type} {o : Option α} {f : α → Option β} {Q : α → Prop} {R : β → Prop} (h : ∃ r, o = some r ∧ Q r) (h2 : ∀ r, Q r → ∃ t, f r = some t ∧ R t) : ∃ t, Option.bind o f = some t ∧ R t := by
  obtain ⟨r, rfl, hq⟩ := h
  exact h2 r hq
theorem bind_eq {α β : Type} {o : Option α} {f : α → Option β} {x : α} {r : Option β} (h : o = some x) (h2 : f x = r) : Option.bind o f = r := by rw [h]; exact h2
theorem bind_of {α β : Type} {o x : Option α} {f : α → Option β} {r : Option β} (h : o = x) (h2 : Option.bind x f = r) : Option.bind o f = r := by rw [h]; exact h2
theorem bind_ex {α β : Type} {o : Option α} {f : α → Option β} {Q : α → Prop} {r : Option β} (h : ∃ x, o = some x ∧ Q x) (h2 : ∀ x, Q x → f x = r) : Option.bind o f = r := by obtain ⟨x, rfl, hq⟩ := h; exact h2 x hq
theorem joinC_of {S α : Type} {o x : Option (S ⊕ α)} {k : S → Option α} {r : Option α} (h : o = x) (h2 : joinC x k = r) : joinC o k = r := by rw [h]; exact h2
theorem joinC_ex {S α : Type} {o : Option (S ⊕ α)} {k : S → Option α} {Q : S ⊕ α → Prop} {r : Option α} (h : ∃ x, o = some x ∧ Q x) (h2 : ∀ x, Q x → joinC (some x) k = r) : joinC o k = r := by obtain ⟨x, rfl, hq⟩ := h; exact h2 x hq
theorem wr1 (i : Nat) (h : i ≤ 4611686018427387904) : IntKind.wrap .i64 ((i : Int) + 1) = ((i + 1 : Nat) : Int) := by rw [wr _ (by omega)]; rfl
theorem joinC_inl' {S α : Type} {o : Option (S ⊕ α)} {k : S → Option α} {s : S} (h : o = some (.inl s)) : joinC o k = k s := by rw [h]; rfl
theorem joinC_inr' {S α : Type} {o : Option (S ⊕ α)} {k : S → Option α} {a : α} (h : o = some (.inr a)) : joinC o k = some a := by rw [h]; rfl
end Go.AM
set_option linter.unusedVariables false
set_option linter.unusedSimpArgs false
namespace Go.AM
open Go
def fillN : Nat → Nat → List Bool → List Bool
  | 0, _, s => s
  | n + 1, i, s => fillN n (i + 1) (s.set i true)
theorem fillN_length : ∀ n i s, (fillN n i s).length = s.length
  | 0, _, _ => rfl
  | n + 1, i, s => by rw [fillN, fillN_length n]; simp
def by8 (p : List UInt8) (i : Nat) : Nat := (p.getD i 0).toNat
theorem by8_lt (p i) : by8 p i < 256 := (p.getD i 0).toNat_lt
def cls (p : List UInt8) (i : Nat) (first : Bool) (s : List Bool) : Nat × List Bool :=
  if i < p.length ∧ (first = true ∨ by8 p i ≠ 93) then
    if i + 2 < p.length ∧ by8 p (i + 1) = 45 ∧ by8 p (i + 2) ≠ 93 then cls p (i + 3) false (fillN (by8 p (i + 2) + 1 - by8 p i) (by8 p i) s)
    else cls p (i + 1) false (s.set (by8 p i) true)
  else (i, s)
termination_by p.length - i
end Go.AM
set_option linter.unusedVariables false
set_option linter.unusedSimpArgs false
namespace Go.AM
open Go
/-! ### rows that are measured, copied, compared -/
section
variable {α : Type}
def szSG (f : α → Int → Option (Int × Unit)) (d : α) (l : List α) (n : Int) : Option (Int × Unit) :=
  bif decide (IntKind.wrap IntKind.i64 (n - (l.length : Int)) < 0) then some (-1, ())
  else joinC (loopC (l.length + Int.toNat (IntKind.wrap IntKind.i64 (n - (l.length : Int))) + Int.toNat (0 : Int) + 300)
    (fun (s : (List α × Int × Int × Unit) × Unit) (k : (List α × Int × Int × Unit) × Unit → Option ((Int × Unit) × Unit ⊕ Int × Unit)) =>
      bif decide (s.fst.snd.snd.fst < (↑(List.length s.fst.fst) : Int)) then
        if (0 : Int) ≤ s.fst.snd.snd.fst ∧ s.fst.snd.snd.fst < (↑(List.length s.fst.fst) : Int) then
          Option.bind (f (List.getD s.fst.fst (Int.toNat s.fst.snd.snd.fst) d) s.fst.snd.fst) fun (r : Int × Unit) =>
            bif decide (r.fst < (0 : Int)) then some (Sum.inr ((-1 : Int), ()))
            else k ((s.fst.fst, r.fst, IntKind.wrap IntKind.i64 (s.fst.snd.snd.fst + (1 : Int)), ()), ())
        else none
      else some (Sum.inl ((s.fst.snd.fst, ()), ())))
    ((l, IntKind.wrap IntKind.i64 (n - (l.length : Int)), (0 : Int), ()), ()))
    fun (s : (Int × Unit) × Unit) => some s.fst
theorem getD_mem {l : List α} {i : Nat} (d : α) (h : i < l.length) : l.getD i d ∈ l := by
  rw [List.getD_eq_getElem?_getD, List.getElem?_eq_getElem h]; exact List.getElem_mem h
theorem drop_getD {l : List α} {i : Nat} (d : α) (h : i < l.length) : l.drop i = l.getD i d :: l.drop (i + 1) := by
  rw [List.drop_eq_getElem_cons h, List.getD_eq_getElem?_getD, List.getElem?_eq_getElem h]; rfl
theorem szS_eq (f : α → Int → Option (Int × Unit)) (d : α) (H B : α → Prop) (hf : ∀ x n, H x → 0 ≤ n → n ≤ 1048576 → ∃ m, f x n = some (m, ()) ∧ (0 ≤ m → m ≤ n ∧ B x))
    (l : List α) (hl : ∀ x ∈ l, H x) (hl2 : l.length ≤ 9223372036854775807) (n : Int) (hn : 0 ≤ n ∧ n ≤ 1048576) : ∃ m, szSG f d l n = some (m, ()) ∧ (0 ≤ m → m ≤ n - l.length ∧ ∀ x ∈ l, B x) := by
  unfold szSG
  rw [wr (n - _) (by omega)]
  by_cases q : n - (l.length : Int) < 0
  · rw [decide_eq_true q]; exact ⟨_, rfl, fun h => by omega⟩
  · rw [decide_eq_false q, cond_false]
    have key := loopC_some' (fun (s : (List α × Int × Int × Unit) × Unit) (k : (List α × Int × Int × Unit) × Unit → Option ((Int × Unit) × Unit ⊕ Int × Unit)) =>
      bif decide (s.fst.snd.snd.fst < (↑(List.length s.fst.fst) : Int)) then
        if (0 : Int) ≤ s.fst.snd.snd.fst ∧ s.fst.snd.snd.fst < (↑(List.length s.fst.fst) : Int) then
          Option.bind (f (List.getD s.fst.fst (Int.toNat s.fst.snd.snd.fst) d) s.fst.snd.fst) fun (r : Int × Unit) =>
            bif decide (r.fst < (0 : Int)) then some (Sum.inr ((-1 : Int), ()))
            else k ((s.fst.fst, r.fst, IntKind.wrap IntKind.i64 (s.fst.snd.snd.fst + (1 : Int)), ()), ())
        else none
      else some (Sum.inl ((s.fst.snd.fst, ()), ())))
      (fun c t => ∃ (m : Int) (i : Nat), t = ((l, m, (i : Int), ()), ()) ∧ i ≤ l.length ∧ 0 ≤ m ∧ m ≤ n - l.length ∧ (∀ x ∈ l.take i, B x) ∧ c = l.length - i)
      (fun r => r = .inr (-1, ()) ∨ ∃ m, r = .inl ((m, ()), ()) ∧ m ≤ n - l.length ∧ ∀ x ∈ l, B x)
      (by
        rintro c t k ⟨m, i, rfl, hi, h0, h1, h2, rfl⟩ hk
        dsimp only
        by_cases hlt : i < l.length
        · rw [decide_eq_true (by omega), cond_true, if_pos (by omega), Int.toNat_natCast]
          obtain ⟨m', e, hm⟩ := hf (l.getD i d) m (hl _ (getD_mem d hlt)) h0 (by omega)
          rw [e, Option.bind_some]
          dsimp only
          by_cases q' : m' < 0
          · rw [decide_eq_true q']; exact ⟨_, rfl, .inl rfl⟩
          · rw [decide_eq_false q', cond_false, wr1 i (by omega)]
            obtain ⟨g1, g2⟩ := hm (by omega)
            refine hk (l.length - (i + 1)) _ (by omega) ⟨m', i + 1, rfl, by omega, by omega, by omega, fun x hx => ?_, rfl⟩
            rw [List.take_add_one, List.mem_append] at hx
            rcases hx with hx | hx
            · exact h2 x hx
            · rw [List.getElem?_eq_getElem hlt] at hx
              rw [List.getD_eq_getElem?_getD, List.getElem?_eq_getElem hlt] at g2
              simp at hx; subst hx; exact g2
        · rw [decide_eq_false (by omega), cond_false]
          refine ⟨_, rfl, .inr ⟨m, rfl, h1, ?_⟩⟩
          rw [List.take_of_length_le (by omega)] at h2; exact h2)
      (l.length + Int.toNat (n - (l.length : Int)) + Int.toNat (0 : Int) + 300) l.length ((l, n - (l.length : Int), 0, ()), ()) ⟨n - l.length, 0, rfl, by omega, by omega, by omega, by simp, rfl⟩ (by omega)
    obtain ⟨r, hr, hq⟩ := key
    rw [hr]
    rcases hq with rfl | ⟨m, rfl, g1, g2⟩
    · exact ⟨-1, rfl, fun h => by omega⟩
    · exact ⟨m, rfl, fun _ => ⟨g1, g2⟩⟩
def toSG (f : α → Option (α × Unit)) (d : α) (b : Nat) (l : List α) : Option (List α × Unit) :=
  if (0 : Int) ≤ (↑(List.length l) : Int) ∧ (↑(List.length l) : Int) ≤ (↑(List.length l) : Int) ∧ (↑b : Int) * (↑(List.length l) : Int) ≤ (140737488355328 : Int) ∧ (↑(List.length l) : Int) < (2 : Int) ^ (62 : Nat) then
    Option.bind (loopC (l.length + Int.toNat (0 : Int) + List.length (List.replicate (Int.toNat (↑(List.length l) : Int)) d) + 300)
      (fun (s : (List α × Unit × Int × Unit) × List α × Unit) (k : (List α × Unit × Int × Unit) × List α × Unit → Option ((Unit × Unit) × List α × Unit)) =>
        bif decide (s.fst.snd.snd.fst < (↑(List.length s.fst.fst) : Int)) then
          if (0 : Int) ≤ s.fst.snd.snd.fst ∧ s.fst.snd.snd.fst < (↑(List.length s.fst.fst) : Int) then
            Option.bind (f (List.getD s.fst.fst (Int.toNat s.fst.snd.snd.fst) d)) fun (r : α × Unit) =>
              if (0 : Int) ≤ s.fst.snd.snd.fst ∧ s.fst.snd.snd.fst < (↑(List.length s.snd.fst) : Int) then
                if Int.toNat s.fst.snd.snd.fst < List.length s.snd.fst then
                  k ((s.fst.fst, (), IntKind.wrap IntKind.i64 (s.fst.snd.snd.fst + (1 : Int)), ()), List.set s.snd.fst (Int.toNat s.fst.snd.snd.fst) r.fst, ())
                else none
              else none
          else none
        else some (((), ()), s.snd))
      ((l, (), (0 : Int), ()), List.replicate (Int.toNat (↑(List.length l) : Int)) d, ()))
      fun (s : (Unit × Unit) × List α × Unit) => some s.snd
  else none
theorem toS_eq (f : α → Option (α × Unit)) (d : α) (b : Nat) (hf : ∀ x, f x = some (x, ())) (l : List α) (hl : l.length ≤ 1048576) (hb : b ≤ 134217728) : toSG f d b l = some (l, ()) := by
  unfold toSG
  have h2 : (b : Int) * (l.length : Int) ≤ 140737488355328 := by
    have h3 : (b : Int) * (l.length : Int) ≤ 134217728 * 1048576 := Int.mul_le_mul (by omega) (by omega) (by omega) (by omega)
    omega
  rw [if_pos ⟨by omega, by omega, h2, by show (l.length : Int) < 4611686018427387904; omega⟩]
  refine bind_ex (loopC_some' _ (fun n t => ∃ (i : Nat) (o : List α), t = ((l, (), (i : Int), ()), o, ()) ∧ i ≤ l.length ∧ o.length = l.length ∧ o.take i = l.take i ∧ n = l.length - i)
    (fun t => t = (((), ()), l, ())) ?_ _ l.length _ ⟨0, _, rfl, by omega, by simp, by simp, rfl⟩ (by omega)) ?_
  · rintro n t k ⟨i, o, rfl, hi, ho, he, rfl⟩ hk
    dsimp only
    by_cases hlt : i < l.length
    · rw [decide_eq_true (by omega), cond_true, if_pos (by omega), Int.toNat_natCast, hf, Option.bind_some, if_pos (by omega), if_pos (by omega), wr1 i (by omega)]
      refine hk (l.length - (i + 1)) _ (by omega) ⟨i + 1, _, rfl, by omega, by rw [List.length_set]; exact ho, ?_, rfl⟩
      rw [List.take_add_one, List.take_add_one, List.take_set_of_le (by omega), he, List.getElem?_set_self (by omega), List.getElem?_eq_getElem hlt, List.getD_eq_getElem?_getD, List.getElem?_eq_getElem hlt]
      rfl
    · rw [decide_eq_false (by omega), cond_false]
      refine ⟨_, rfl, ?_⟩
      rw [List.take_of_length_le (by omega), List.take_of_length_le (by omega)] at he
      rw [he]
  · rintro t rfl; rfl
def eqSG (f : α → α → Option (Bool × Unit)) (d : α) (a b : List α) : Option (Bool × Unit) :=
  bif (↑(List.length a) : Int) != (↑(List.length b) : Int) then some (false, ())
  else joinC (loopC (a.length + b.length + Int.toNat (0 : Int) + 300)
    (fun (s : (List α × List α × Int × Unit) × Unit) (k : (List α × List α × Int × Unit) × Unit → Option (Unit × Unit ⊕ Bool × Unit)) =>
      bif decide (s.fst.snd.snd.fst < (↑(List.length s.fst.fst) : Int)) then
        if (0 : Int) ≤ s.fst.snd.snd.fst ∧ s.fst.snd.snd.fst < (↑(List.length s.fst.fst) : Int) then
          if (0 : Int) ≤ s.fst.snd.snd.fst ∧ s.fst.snd.snd.fst < (↑(List.length s.fst.snd.fst) : Int) then
            Option.bind (f (List.getD s.fst.fst (Int.toNat s.fst.snd.snd.fst) d) (List.getD s.fst.snd.fst (Int.toNat s.fst.snd.snd.fst) d)) fun (r : Bool × Unit) =>
              bif !r.fst then some (Sum.inr (false, ()))
              else k ((s.fst.fst, s.fst.snd.fst, IntKind.wrap IntKind.i64 (s.fst.snd.snd.fst + (1 : Int)), ()), ())
          else none
        else none
      else some (Sum.inl ((), ())))
    ((a, b, (0 : Int), ()), ()))
    fun (s : Unit × Unit) => some (true, ())
theorem eqS_eq (f : α → α → Option (Bool × Unit)) (d : α) (hf : ∀ x, f x x = some (true, ())) (l : List α) (hl : l.length ≤ 1099511627776) : eqSG f d l l = some (true, ()) := by
  unfold eqSG
  rw [show ((l.length : Int) != (l.length : Int)) = false by simp, cond_false]
  refine joinC_ex (loopC_some' _ (fun n t => ∃ i : Nat, t = ((l, l, (i : Int), ()), ()) ∧ i ≤ l.length ∧ n = l.length - i) (fun t => t = .inl ((), ())) ?_ _ l.length _ ⟨0, rfl, by omega, rfl⟩ (by omega)) ?_
  · rintro n t k ⟨i, rfl, hi, rfl⟩ hk
    dsimp only
    by_cases hlt : i < l.length
    · rw [decide_eq_true (by omega), cond_true, if_pos (by omega), if_pos (by omega), hf, Option.bind_some]
      show ∃ r, k _ = some r ∧ _
      rw [wr1 i (by omega)]
      exact hk (l.length - (i + 1)) _ (by omega) ⟨i + 1, rfl, by omega, rfl⟩
    · rw [decide_eq_false (by omega)]; exact ⟨_, rfl, rfl⟩
  · rintro t rfl; rfl
/-- A walk along a row that stops at the first that is not right. -/
theorem allLoop {S R : Type} (F : S → (S → Option R) → Option R) (st : Nat → S) (len : Nat) (ok : Nat → Bool) (yes no : R)
    (hstep : ∀ i k, i < len → F (st i) k = cond (ok i) (k (st (i + 1))) (some no)) (hend : ∀ k, F (st len) k = some yes) (fuel : Nat) (hf : len < fuel) :
    loopC fuel F (st 0) = some (cond ((List.range len).all ok) yes no) := by
  have key := loopC_inv F (fun n s => ∃ i, i ≤ len ∧ s = st i ∧ n = len - i ∧ ∀ j, j < i → ok j = true) (fun _ => some (cond ((List.range len).all ok) yes no)) (by
    rintro n s k ⟨i, hi, rfl, rfl, hj⟩ hk
    by_cases hlt : i < len
    · rw [hstep i k hlt]
      cases ho : ok i with
      | false =>
        have : (List.range len).all ok = false := by
          rw [List.all_eq_false]; exact ⟨i, List.mem_range.2 hlt, by simp [ho]⟩
        rw [this]; rfl
      | true =>
        rw [cond_true]
        refine hk (len - (i + 1)) _ (by omega) ⟨i + 1, by omega, rfl, rfl, fun j hj' => ?_⟩
        by_cases h : j = i
        · subst h; exact ho
        · exact hj j (by omega)
    · have : i = len := by omega
      subst this
      rw [hend]
      have : (List.range i).all ok = true := by rw [List.all_eq_true]; exact fun j hj' => hj j (List.mem_range.1 hj')
      rw [this]; rfl)
  exact key fuel len _ ⟨0, by omega, rfl, by omega, fun j hj => by omega⟩ hf
end
end Go.AM
set_option linter.unusedVariables false
set_option linter.unusedSimpArgs false
namespace Go.AM
open Go
/-! ### names and paths -/
def okCh (c : Int) : Bool := (decide (c ≥ 97) && decide (c ≤ 122)) || ((decide (c ≥ 65) && decide (c ≤ 90)) || ((decide (c ≥ 48) && decide (c ≤ 57)) || (c == 46 || (c == 95 || c == 45))))
def okB (b : UInt8) : Bool := okCh (b.toNat : Int)
def nameOk (s : List UInt8) : Bool := (decide (1 ≤ s.length) && decide (s.length ≤ 20)) && (!(s == [46]) && (!(s == [46, 46]) && s.all okB))
theorem in_eq (x a b : Int) : m_spec_l01In x a b = some (decide (x ≥ a) && decide (x ≤ b), ()) := by
  unfold m_spec_l01In; cases decide (x ≥ a) <;> rfl
theorem within_eq (x a b : Int) : m_impl_within x a b = some (decide (x ≥ a) && decide (x ≤ b), ()) := by
  unfold m_impl_within; cases decide (x ≥ a) <;> rfl
theorem all_drop {α : Type} (p : α → Bool) (d : α) {s : List α} {i : Nat} (h : i < s.length) : (s.drop i).all p = (p (s.getD i d) && (s.drop (i + 1)).all p) := by
  rw [List.drop_eq_getElem_cons h, List.all_cons, List.getD_eq_getElem?_getD, List.getElem?_eq_getElem h]; rfl
theorem len_ge (s : List UInt8) : decide ((s.length : Int) ≥ 1) = decide (1 ≤ s.length) := decide_eq_decide.2 (by omega)
theorem len_le (s : List UInt8) : decide ((s.length : Int) ≤ 20) = decide (s.length ≤ 20) := decide_eq_decide.2 (by omega)
theorem spec_nameOk (s : List UInt8) (hs : s.length ≤ 1099511627776) : m_spec_NameOk s = some (nameOk s, ()) := by
  unfold m_spec_NameOk
  rw [in_eq, Option.bind_some, len_ge, len_le]
  unfold nameOk
  cases h1 : (decide (1 ≤ s.length) && decide (s.length ≤ 20)) with
  | false => rfl
  | true =>
    simp only [Bool.not_true, cond_false, Bool.true_and]
    cases h2 : (s == [46]) with
    | true => rfl
    | false =>
      simp only [cond_false, Bool.not_false, Bool.true_and]
      cases h3 : (s == [46, 46]) with
      | true => rfl
      | false =>
        simp only [Option.bind_some, cond_false, Bool.not_false, Bool.true_and]
        refine joinC_of (loopC_inv _ (fun n t => ∃ i : Nat, t = ((s, (i : Int), ()), ()) ∧ i ≤ s.length ∧ n = s.length - i)
          (fun t => some (if (s.drop t.1.2.1.toNat).all okB then .inl ((), ()) else .inr (false, ()))) ?_ _ s.length _ ⟨0, rfl, by omega, rfl⟩ (by omega)) ?_
        rotate_left
        · show joinC (some (if (s.drop 0).all okB = true then _ else _)) _ = _
          rw [List.drop_zero]
          cases s.all okB <;> rfl
        · rintro n t k ⟨i, rfl, hi, rfl⟩ hk
          dsimp only
          by_cases hl : i < s.length
          · have hx : 0 ≤ (i : Int) ∧ (i : Int) < (s.length : Int) := by omega
            rw [decide_eq_true (by omega), cond_true, if_pos hx]
            refine bind_eq (x := ((s, (i : Int), !okB (s.getD i 0), ()), ())) ?_ ?_
            · simp only [in_eq, Option.bind_some, if_pos hx, bne, okB, okCh, Int.toNat_natCast]
              have hb : (s.getD i 0).toNat < 256 := UInt8.toNat_lt _
              rw [wr _ (by omega)]
              generalize ((s.getD i 0).toNat : Int) = c
              cases decide (c ≥ 97) <;> cases decide (c ≤ 122) <;> cases decide (c ≥ 65) <;> cases decide (c ≤ 90) <;> cases decide (c ≥ 48) <;> cases decide (c ≤ 57) <;> cases c == 46 <;> cases c == 95 <;> cases c == 45 <;> rfl
            · dsimp only
              rw [Int.toNat_natCast, all_drop okB 0 hl]
              cases okB (s.getD i 0) with
              | false => rfl
              | true =>
                show k _ = _
                rw [wr1 i (by omega)]
                exact hk (s.length - (i + 1)) _ (by omega) ⟨i + 1, rfl, by omega, rfl⟩
          · rw [decide_eq_false (by omega), cond_false, Int.toNat_natCast, List.drop_eq_nil_of_le (by omega)]
            rfl
theorem impl_nameOk (s : List UInt8) (hs : s.length ≤ 1099511627776) : m_impl_NameOk s = some (nameOk s, ()) := by
  unfold m_impl_NameOk
  refine joinC_of (loopC_inv _ (fun n t => ∃ i : Nat, t = ((s, (s.length : Int), (i : Int), ()), ()) ∧ i ≤ s.length ∧ n = s.length - i)
          (fun t => some (if (s.drop t.1.2.2.1.toNat).all okB then .inl ((s, ()), ()) else .inr (false, ()))) ?_ _ s.length _ ⟨0, rfl, by omega, rfl⟩ (by omega)) ?_
  rotate_left
  · show joinC (some (if (s.drop 0).all okB = true then _ else _)) _ = _
    rw [List.drop_zero]
    unfold nameOk
    cases s.all okB with
    | false => simp only [Bool.and_false]; rfl
    | true =>
      show Option.bind (Option.bind (m_impl_within _ _ _) _) _ = _
      rw [within_eq, Option.bind_some, len_ge, len_le]
      dsimp only
      cases (decide (1 ≤ s.length) && decide (s.length ≤ 20)) <;> cases s == [46] <;> cases s == [46, 46] <;> rfl
  · rintro n t k ⟨i, rfl, hi, rfl⟩ hk
    dsimp only
    by_cases hl : i < s.length
    · have hx : 0 ≤ (i : Int) ∧ (i : Int) < (s.length : Int) := by omega
      rw [decide_eq_true (by omega), cond_true, if_pos hx]
      refine bind_eq (x := ((s, (s.length : Int), (i : Int), !okB (s.getD i 0), ()), ())) ?_ ?_
      · simp only [okB, okCh, Int.toNat_natCast]
        cases decide ((((s.getD i 0).toNat : Nat) : Int) ≥ 97) <;> cases decide ((((s.getD i 0).toNat : Nat) : Int) ≤ 122) <;> cases decide ((((s.getD i 0).toNat : Nat) : Int) ≥ 65) <;> cases decide ((((s.getD i 0).toNat : Nat) : Int) ≤ 90) <;> cases decide ((((s.getD i 0).toNat : Nat) : Int) ≥ 48) <;> cases decide ((((s.getD i 0).toNat : Nat) : Int) ≤ 57) <;> cases (((s.getD i 0).toNat : Nat) : Int) == 46 <;> cases (((s.getD i 0).toNat : Nat) : Int) == 95 <;> cases (((s.getD i 0).toNat : Nat) : Int) == 45 <;> rfl
      · dsimp only
        rw [Int.toNat_natCast, all_drop okB 0 hl]
        cases okB (s.getD i 0) with
        | false => rfl
        | true =>
          show k _ = _
          rw [wr1 i (by omega)]
          exact hk (s.length - (i + 1)) _ (by omega) ⟨i + 1, rfl, by omega, rfl⟩
    · rw [decide_eq_false (by omega), cond_false, Int.toNat_natCast, List.drop_eq_nil_of_le (by omega)]
      rfl
/-- What stands between the slashes. -/
def split : List UInt8 → List (List UInt8)
  | [] => [[]]
  | c :: r => if c = 47 then [] :: split r else match split r with
    | [] => [[c]]
    | h :: t => (c :: h) :: t
def prep (x : List UInt8) : List (List UInt8) → List (List UInt8)
  | [] => [x]
  | h :: t => (x ++ h) :: t
theorem split_ne (s : List UInt8) : split s ≠ [] := by
  cases s with
  | nil => simp [split]
  | cons c r => unfold split; split; simp; split <;> simp
theorem split_slash {c : UInt8} {r : List UInt8} (h : c = 47) : split (c :: r) = [] :: split r := by rw [split, if_pos h]
theorem split_other {c : UInt8} {r : List UInt8} (h : c ≠ 47) : split (c :: r) = prep [c] (split r) := by
  rw [split, if_neg h]; unfold prep; rcases split r with _ | ⟨h, t⟩ <;> rfl
theorem prep_prep (x y : List UInt8) (l : List (List UInt8)) (h : l ≠ []) : prep x (prep y l) = prep (x ++ y) l := by
  cases l with
  | nil => exact absurd rfl h
  | cons a t => simp [prep]
theorem split_len : ∀ s : List UInt8, (split s).length ≤ s.length + 1
  | [] => by simp [split]
  | c :: r => by
    have := split_len r
    by_cases h : c = 47
    · rw [split_slash h]; simp; omega
    · rw [split_other h]; unfold prep; split <;> simp_all; omega
theorem getD_cons {s : List UInt8} {i : Nat} (h : i < s.length) : s.drop i = s.getD i 0 :: s.drop (i + 1) := by
  rw [List.drop_eq_getElem_cons h, List.getD_eq_getElem?_getD, List.getElem?_eq_getElem h]; rfl
theorem take_snoc {s : List UInt8} {i f : Nat} (h : i < s.length) (hf : f ≤ i) : (s.take (i + 1)).drop f = (s.take i).drop f ++ [s.getD i 0] := by
  rw [List.take_add_one, List.drop_append_of_le_length (by simp; omega), List.getD_eq_getElem?_getD, List.getElem?_eq_getElem h]; rfl
theorem spec_names (s : List UInt8) (hs : s.length ≤ 8796093022206) : m_spec_l02Names s = some (split s, ()) := by
  unfold m_spec_l02Names
  refine bind_ex (loopC_some' _ (fun n t => ∃ (f i : Nat) (o : List (List UInt8)), t = ((s, (), (f : Int), (i : Int), ()), o, ()) ∧ f ≤ i ∧ i ≤ s.length ∧ o.length ≤ i ∧ o ++ prep ((s.take i).drop f) (split (s.drop i)) = split s ∧ n = s.length - i)
    (fun r => ∃ (f : Nat) (o : List (List UInt8)), r = ((s, (), (f : Int), ()), o, ()) ∧ f ≤ s.length ∧ o.length ≤ s.length ∧ o ++ [s.drop f] = split s) ?_ _ s.length _ ⟨0, 0, [], rfl, by omega, by omega, by simp, ?_, rfl⟩ (by omega)) ?_
  rotate_left 2
  · rintro r ⟨f, o, rfl, h1, h2, h3⟩
    dsimp only
    rw [if_pos (by omega), if_pos (by simp only [List.length_cons, List.length_nil]; omega)]
    rw [Int.toNat_natCast, Int.toNat_natCast, List.take_length, h3]
  · rintro n t k ⟨f, i, o, rfl, hf, hi, ho, he, rfl⟩ hk
    dsimp only
    by_cases hl : i < s.length
    · have hx : 0 ≤ (i : Int) ∧ (i : Int) < (s.length : Int) := by omega
      rw [decide_eq_true (by omega), cond_true, if_pos hx]
      simp only [Int.toNat_natCast]
      have hd := getD_cons hl
      rw [hd] at he
      by_cases hc : s.getD i 0 = 47
      · rw [show (((s.getD i 0).toNat : Int) == 47) = true by rw [hc]; rfl, cond_true, if_pos (by omega), if_pos (by simp only [List.length_cons, List.length_nil]; omega), Option.bind_some]
        dsimp only
        rw [wr1 i (by omega)]
        refine hk (s.length - (i + 1)) _ (by omega) ⟨i + 1, i + 1, _, rfl, by omega, by omega, by simp; omega, ?_, rfl⟩
        rw [split_slash hc] at he
        rw [← he, List.append_assoc, show (s.take (i + 1)).drop (i + 1) = [] from List.drop_eq_nil_of_le (by rw [List.length_take]; omega)]
        unfold prep
        rcases hsp : split (s.drop (i + 1)) with _ | ⟨a, b⟩
        · exact absurd hsp (split_ne _)
        · simp
      · rw [show (((s.getD i 0).toNat : Int) == 47) = false by
          rw [beq_eq_false_iff_ne]; intro h; exact hc (UInt8.toNat.inj (by show _ = 47; omega)), cond_false, Option.bind_some]
        dsimp only
        rw [wr1 i (by omega)]
        refine hk (s.length - (i + 1)) _ (by omega) ⟨f, i + 1, _, rfl, by omega, by omega, by omega, ?_, rfl⟩
        rw [split_other hc, prep_prep _ _ _ (split_ne _)] at he
        rw [take_snoc hl hf]
        exact he
    · rw [decide_eq_false (by omega), cond_false]
      refine ⟨_, rfl, f, o, rfl, by omega, by omega, ?_⟩
      rw [← he, List.drop_eq_nil_of_le (by omega : s.length ≤ i), List.take_of_length_le (by omega)]
      simp [split, prep]
  · simp only [List.drop_zero, List.nil_append, List.take_zero, List.drop_nil]
    rcases hsp : split s with _ | ⟨a, b⟩
    · exact absurd hsp (split_ne _)
    · rfl
theorem index_slash (s : List UInt8) : (Go.Lib.indexByte s 47 = -1 ∧ split s = [s]) ∨ ∃ k : Nat, k < s.length ∧ Go.Lib.indexByte s 47 = k ∧ split s = s.take k :: split (s.drop (k + 1)) ∧ s.count 47 = (s.drop (k + 1)).count 47 + 1 := by
  induction s with
  | nil => exact .inl ⟨rfl, rfl⟩
  | cons c r ih =>
    by_cases hc : c = 47
    · refine .inr ⟨0, by simp, ?_, ?_, ?_⟩
      · rw [hc]; rfl
      · rw [split_slash hc]; rfl
      · rw [hc]; simp
    · have hb : (c == 47) = false := by simp [hc]
      rcases ih with ⟨h1, h2⟩ | ⟨k, hk, h1, h2, h3⟩
      · refine .inl ⟨?_, ?_⟩
        · unfold Go.Lib.indexByte; rw [hb, h1]; rfl
        · rw [split_other hc, h2]; rfl
      · refine .inr ⟨k + 1, by simp; omega, ?_, ?_, ?_⟩
        · unfold Go.Lib.indexByte; rw [hb, h1]
          have : ((k : Int) == -1) = false := by rw [beq_eq_false_iff_ne]; omega
          simp [this]
        · rw [split_other hc, h2]; rfl
        · rw [List.count_cons, hb, h3]; simp
theorem count_slash (s : List UInt8) : (split s).length = s.count 47 + 1 := by
  induction s with
  | nil => rfl
  | cons c r ih =>
    by_cases hc : c = 47
    · rw [split_slash hc, hc]; simp [ih]
    · rw [split_other hc, List.count_cons]
      have hb : (c == 47) = false := by simp [hc]
      unfold prep
      rcases hsp : split r with _ | ⟨a, b⟩
      · exact absurd hsp (split_ne _)
      · rw [hsp] at ih; simp [hb] at ih ⊢; omega
theorem index_eq (s : List UInt8) : m_strings_Index s = some (Go.Lib.indexByte s 47, ()) := by
  unfold m_strings_Index m_stringslite_Index
  by_cases h : s = [47]
  · subst h; rfl
  · rw [show (([47] : List UInt8) == s) = false by rw [beq_eq_false_iff_ne]; exact fun h' => h h'.symm]
    rfl
theorem genSplit_eq (s : List UInt8) (hs : s.length ≤ 8796093022206) : m_strings_genSplit s = some (split s, ()) := by
  unfold m_strings_genSplit
  refine bind_eq (x := (((s.count 47 : Nat) : Int), ())) rfl ?_
  have hcl : s.count 47 ≤ s.length := List.count_le_length
  dsimp only
  rw [wr ((s.length : Int) + 1) (by omega), wr (((s.count 47 : Nat) : Int) + 1) (by omega), if_neg (show ¬((s.length : Int) + 1 < ((s.count 47 : Nat) : Int) + 1) by omega), if_pos (by omega), wr (((s.count 47 : Nat) : Int) + 1 - 1) (by omega)]
  have hn : (((s.count 47 : Nat) : Int) + 1).toNat = s.count 47 + 1 := by omega
  rw [hn]
  refine bind_ex (loopC_some' _ (fun n t => ∃ (r : List UInt8) (i : Nat) (a : List (List UInt8)), t = ((r, (), (), ((s.count 47 : Nat) : Int) + 1 - 1, (), (i : Int), ()), a, ()) ∧ i + r.count 47 = s.count 47 ∧ r.length ≤ s.length ∧ a.length = s.count 47 + 1 ∧ a.take i ++ split r = split s ∧ n = r.length)
    (fun t => ∃ (r : List UInt8) (i : Nat) (a : List (List UInt8)), t = ((r, (), (i : Int), ()), a, ()) ∧ i ≤ s.count 47 ∧ a.length = s.count 47 + 1 ∧ a.take i ++ [r] = split s) ?_ _ s.length _ ⟨s, 0, _, rfl, by omega, by omega, by simp, rfl, rfl⟩ (by omega)) ?_
  · rintro n t k ⟨r, i, a, rfl, h1, h2, h3, h4, rfl⟩ hk
    dsimp only
    by_cases hl : i < s.count 47
    · rw [decide_eq_true (by omega), cond_true, index_eq, Option.bind_some]
      dsimp only
      rcases index_slash r with ⟨g1, g2⟩ | ⟨m, hm, g1, g2, g3⟩
      · rw [g1, decide_eq_true (by omega), cond_true]
        exact ⟨_, rfl, r, i, a, rfl, by omega, h3, by rw [g2] at h4; exact h4⟩
      · rw [g1, decide_eq_false (by omega), cond_false, wr ((m : Int) + 0) (by omega)]
        simp only [List.length_cons, List.length_nil]
        rw [show ((0 + 1 : Nat) : Int) = 1 from rfl, wr1 m (by omega), if_pos (by omega), if_pos (by omega), if_pos (by omega), if_pos (by omega), wr1 i (by omega)]
        refine hk (r.drop (m + 1)).length _ (by rw [List.length_drop]; omega) ⟨r.drop (m + 1), i + 1, a.set i (r.take m), ?_, by omega, by rw [List.length_drop]; omega, ?_, ?_, rfl⟩
        · simp only [Int.toNat_natCast, List.take_length, Int.add_zero]; rfl
        · rw [List.length_set]; exact h3
        · rw [List.take_add_one, List.take_set_of_le (by omega), ← h4, g2]
          rw [List.getElem?_set_self (by omega)]
          simp
    · rw [decide_eq_false (by omega), cond_false]
      refine ⟨_, rfl, r, i, a, rfl, by omega, h3, ?_⟩
      rcases index_slash r with ⟨g1, g2⟩ | ⟨m, hm, g1, g2, g3⟩
      · rw [g2] at h4; exact h4
      · omega
  · rintro t ⟨r, i, a, rfl, h1, h2, h3⟩
    dsimp only
    rw [if_pos (by omega), if_pos (by omega), wr1 i (by omega), if_pos (by rw [List.length_set]; omega)]
    rw [Int.toNat_natCast, Int.toNat_natCast, List.take_add_one, List.take_set_of_le (by omega), List.getElem?_set_self (by omega)]
    show some (a.take i ++ [r], ()) = _
    rw [h3]
theorem split_eq (s : List UInt8) (hs : s.length ≤ 8796093022206) : m_strings_Split s = some (split s, ()) := by
  unfold m_strings_Split; rw [genSplit_eq s hs]; rfl
def names (s : List UInt8) : List (List UInt8) := if s.length ≤ 168 ∧ (split s).length ≤ 8 ∧ (split s).all nameOk = true then split s else []
def pathOk (s : List UInt8) : Bool := decide (s.length ≤ 168) && (decide ((split s).length ≤ 8) && (split s).all nameOk)
theorem names_ok (s : List UInt8) : names s = if pathOk s then split s else [] := by
  unfold names pathOk
  by_cases h1 : s.length ≤ 168 <;> by_cases h2 : (split s).length ≤ 8 <;> by_cases h3 : (split s).all nameOk = true <;> simp [h1, h2, h3]
theorem split_mem_len (s : List UInt8) : ∀ x ∈ split s, x.length ≤ s.length := by
  induction s with
  | nil => intro x hx; simp [split] at hx; subst hx; simp
  | cons c r ih =>
    intro x hx
    by_cases hc : c = 47
    · rw [split_slash hc] at hx
      rcases List.mem_cons.1 hx with rfl | hx
      · simp
      · have := ih x hx; simp; omega
    · rw [split_other hc] at hx
      unfold prep at hx
      rcases hsp : split r with _ | ⟨a, b⟩
      · exact absurd hsp (split_ne _)
      · rw [hsp] at hx ih
        rcases List.mem_cons.1 hx with rfl | hx
        · have := ih a (by simp); simp; omega
        · have := ih x (by simp [hx]); simp; omega
/-- Names of at most twenty bytes, at most eight: the text is of at most 167. -/
theorem split_sum (s : List UInt8) : s.length + 1 = ((split s).map (fun x => x.length + 1)).sum := by
  induction s with
  | nil => rfl
  | cons c r ih =>
    by_cases hc : c = 47
    · rw [split_slash hc]; simp at ih ⊢; omega
    · rw [split_other hc]; unfold prep
      rcases hsp : split r with _ | ⟨a, b⟩
      · exact absurd hsp (split_ne _)
      · rw [hsp] at ih; simp at ih ⊢; omega
theorem sum_le {l : List (List UInt8)} (h : l.all nameOk = true) : (l.map (fun x => x.length + 1)).sum ≤ 21 * l.length := by
  induction l with
  | nil => simp
  | cons a t ih =>
    rw [List.all_cons, Bool.and_eq_true] at h
    have := ih h.2
    have h1 := h.1
    unfold nameOk at h1
    simp only [Bool.and_eq_true, decide_eq_true_eq] at h1
    simp; omega
theorem path_len {s : List UInt8} (h1 : (split s).length ≤ 8) (h2 : (split s).all nameOk = true) : s.length ≤ 167 := by
  have := split_sum s; have := sum_le h2; omega
theorem spec_pathOk (s : List UInt8) : m_spec_PathOk s = some (pathOk s, ()) := by
  unfold m_spec_PathOk
  by_cases hs : s.length ≤ 200
  · rw [decide_eq_false (by omega), cond_false, spec_names s (by omega), Option.bind_some]
    have hl := split_len s
    refine joinC_of (loopC_inv _ (fun n t => ∃ i : Nat, t = ((split s, (i : Int), ()), ()) ∧ i ≤ (split s).length ∧ n = (split s).length - i)
          (fun t => some (if ((split s).drop t.1.2.1.toNat).all nameOk then .inl ((split s, ()), ()) else .inr (false, ()))) ?_ _ (split s).length _ ⟨0, rfl, by omega, rfl⟩ (by show _ < (split s).length + _ + _; omega)) ?_
    · rintro n t k ⟨i, rfl, hi, rfl⟩ hk
      dsimp only
      by_cases hl2 : i < (split s).length
      · rw [decide_eq_true (by omega), cond_true, if_pos (by omega), Int.toNat_natCast, all_drop nameOk (nilOf UInt8) hl2]
        have hm : ((split s).getD i (nilOf UInt8)).length ≤ s.length := by
          rw [List.getD_eq_getElem?_getD, List.getElem?_eq_getElem hl2]; exact split_mem_len s _ (List.getElem_mem hl2)
        rw [spec_nameOk _ (by omega), Option.bind_some]
        dsimp only
        cases nameOk ((split s).getD i (nilOf UInt8)) with
        | false => rfl
        | true =>
          show k _ = _
          rw [wr1 i (by omega)]
          exact hk ((split s).length - (i + 1)) _ (by omega) ⟨i + 1, rfl, by omega, rfl⟩
      · rw [decide_eq_false (by omega), cond_false, Int.toNat_natCast, List.drop_eq_nil_of_le (by omega)]
        rfl
    · show joinC (some (if ((split s).drop 0).all nameOk = true then _ else _)) _ = _
      rw [List.drop_zero]
      unfold pathOk
      cases h2 : (split s).all nameOk with
      | false => simp; rfl
      | true =>
        show some (decide (((split s).length : Int) ≤ 8), ()) = _
        by_cases h1 : (split s).length ≤ 8
        · have := path_len h1 h2
          rw [decide_eq_true (by omega), decide_eq_true (by omega), decide_eq_true h1]; rfl
        · rw [decide_eq_false (by omega), decide_eq_false h1]; simp
  · rw [decide_eq_true (by omega), cond_true]
    unfold pathOk
    rw [decide_eq_false (by omega), Bool.false_and]
theorem impl_names (s : List UInt8) : m_impl_Names s = some (names s, ()) := by
  unfold m_impl_Names
  by_cases hs : s.length ≤ 168
  · rw [decide_eq_false (by omega), cond_false, split_eq s (by omega), Option.bind_some]
    have hl := split_len s
    dsimp only
    by_cases h1 : (split s).length ≤ 8
    · rw [decide_eq_false (by omega), cond_false]
      refine joinC_of (loopC_inv _ (fun n t => ∃ i : Nat, t = ((split s, split s, ((split s).length : Int), (i : Int), ()), ()) ∧ i ≤ (split s).length ∧ n = (split s).length - i)
          (fun t => some (if ((split s).drop t.1.2.2.2.1.toNat).all nameOk then .inl ((split s, ()), ()) else .inr ([], ()))) ?_ _ (split s).length _ ⟨0, rfl, by omega, rfl⟩ (by omega)) ?_
      · rintro n t k ⟨i, rfl, hi, rfl⟩ hk
        dsimp only
        by_cases hl2 : i < (split s).length
        · rw [decide_eq_true (by omega), cond_true, if_pos (by omega), Int.toNat_natCast, all_drop nameOk (nilOf UInt8) hl2]
          have hm : ((split s).getD i (nilOf UInt8)).length ≤ s.length := by
            rw [List.getD_eq_getElem?_getD, List.getElem?_eq_getElem hl2]; exact split_mem_len s _ (List.getElem_mem hl2)
          rw [impl_nameOk _ (by omega), Option.bind_some]
          dsimp only
          cases nameOk ((split s).getD i (nilOf UInt8)) with
          | false => rfl
          | true =>
            show k _ = _
            rw [wr1 i (by omega)]
            exact hk ((split s).length - (i + 1)) _ (by omega) ⟨i + 1, rfl, by omega, rfl⟩
        · rw [decide_eq_false (by omega), cond_false, Int.toNat_natCast, List.drop_eq_nil_of_le (by omega)]
          rfl
      · show joinC (some (if ((split s).drop 0).all nameOk = true then _ else _)) _ = _
        rw [List.drop_zero]
        unfold names
        cases h2 : (split s).all nameOk with
        | false => simp; rfl
        | true => rw [if_pos (show s.length ≤ 168 ∧ (split s).length ≤ 8 ∧ true = true from And.intro hs (And.intro h1 rfl))]; rfl
    · rw [decide_eq_true (by omega), cond_true]
      unfold names
      rw [if_neg (fun h => h1 h.2.1)]
  · rw [decide_eq_true (by omega), cond_true]
    unfold names
    rw [if_neg (fun h => hs h.1)]
theorem impl_pathOk (s : List UInt8) : m_impl_PathOk s = some (pathOk s, ()) := by
  unfold m_impl_PathOk
  rw [impl_names, Option.bind_some, names_ok]
  cases pathOk s with
  | false => rfl
  | true =>
    show some (decide (((split s).length : Int) > 0), ()) = _
    rw [decide_eq_true (by have := List.length_pos_iff.2 (split_ne s); omega)]
end Go.AM
set_option linter.unusedVariables false
set_option linter.unusedSimpArgs false
namespace Go.AM
open Go
/-! ### options -/
abbrev OptsT := Bool × (Bool × (Bool × (Bool × (Bool × (Bool × (Bool × (Bool × (Bool × (Bool × (Bool × (Bool × (Bool × (Int × (Bool × (List UInt8 × List UInt8)))))))))))))))
def sufOk (s : List UInt8) : Bool := s == [] || (decide (s.length ≤ 8) && nameOk ([120] ++ s))
theorem spec_suffix (s : List UInt8) (hs : s.length ≤ 1048576) : m_spec_l11Suffix s = some (sufOk s, ()) := by
  unfold m_spec_l11Suffix sufOk
  simp only [nilOf]
  cases s == [] with
  | true => rfl
  | false =>
    simp only [cond_false, Bool.false_or]
    by_cases h : s.length ≤ 8
    · rw [decide_eq_true (by omega), decide_eq_true h, cond_true, if_pos (by show 1 + s.length < 9223372036854775808; omega), spec_nameOk _ (by simp; omega)]
      simp
    · rw [decide_eq_false (by omega), decide_eq_false h]; rfl
theorem impl_suffix (s : List UInt8) (hs : s.length ≤ 1048576) (hn : (s == []) = false) : m_impl_isSuffix s = some (sufOk s, ()) := by
  unfold m_impl_isSuffix sufOk
  rw [within_eq, Option.bind_some, hn, Bool.false_or]
  have h0 : 1 ≤ s.length := by
    rcases s with _ | ⟨a, b⟩
    · simp at hn
    · simp
  dsimp only
  rw [decide_eq_true (by omega), Bool.true_and]
  by_cases h : s.length ≤ 8
  · rw [decide_eq_true (by omega), decide_eq_true h, cond_true, if_pos (by show 1 + s.length < 9223372036854775808; omega), impl_nameOk _ (by simp; omega)]
    simp
  · rw [decide_eq_false (by omega), decide_eq_false h]; rfl
def optsOk : OptsT → Bool
  | (r, _, _, _, _, ck, so, _, _, _, _, _, _, del, bk, suf, dir) =>
    (decide (del ≥ 0) && decide (del ≤ 3)) && (!(!(del == 0) && !r) && (!(ck && so) && (cond bk (sufOk suf && ((dir == [] || pathOk dir) && !(suf == [] && dir == []))) (suf == [] && dir == []))))
theorem app_nil (a b : List UInt8) : (a ++ b == []) = (a == [] && b == []) := by cases a <;> cases b <;> rfl
theorem spec_optsOk (o : OptsT) (h1 : o.2.2.2.2.2.2.2.2.2.2.2.2.2.2.2.1.length ≤ 1048576) (h2 : o.2.2.2.2.2.2.2.2.2.2.2.2.2.2.2.2.length ≤ 1048576) : m_spec_OptsOk o = some (optsOk o, ()) := by
  obtain ⟨r, l, p, t, hd, ck, so, dry, wh, up, ex, ig, fz, del, bk, suf, dir⟩ := o
  dsimp only at h1 h2
  unfold m_spec_OptsOk optsOk
  simp only [in_eq, Option.bind_some, bne, nilOf]
  refine bind_eq (x := (((), !((decide (del ≥ 0) && decide (del ≤ 3)) && (!(!(del == 0) && !r) && !(ck && so))), ()), (r, l, p, t, hd, ck, so, dry, wh, up, ex, ig, fz, del, bk, suf, dir, ()), ())) ?_ ?_
  · cases (decide (del ≥ 0) && decide (del ≤ 3)) <;> cases del == 0 <;> cases r <;> cases ck <;> cases so <;> rfl
  · dsimp only
    have e : ((decide (del ≥ 0) && decide (del ≤ 3)) && (!(!(del == 0) && !r) && (!(ck && so) && (cond bk (sufOk suf && ((dir == [] || pathOk dir) && !(suf == [] && dir == []))) (suf == [] && dir == []))))) = (((decide (del ≥ 0) && decide (del ≤ 3)) && (!(!(del == 0) && !r) && !(ck && so))) && (cond bk (sufOk suf && ((dir == [] || pathOk dir) && !(suf == [] && dir == []))) (suf == [] && dir == []))) := by
      simp only [Bool.and_assoc]
    rw [e]
    cases ((decide (del ≥ 0) && decide (del ≤ 3)) && (!(!(del == 0) && !r) && !(ck && so))) with
    | false => rfl
    | true =>
      simp only [Bool.not_true, cond_false, Bool.true_and]
      cases bk with
      | false =>
        simp only [Bool.not_false, cond_true, cond_false]
        cases suf == [] <;> rfl
      | true =>
        simp only [Bool.not_true, cond_true, cond_false]
        rw [spec_suffix _ h1, Option.bind_some]
        dsimp only
        cases sufOk suf with
        | false => rfl
        | true =>
          have hl : suf.length + dir.length < 2 ^ 63 := by show _ < 9223372036854775808; omega
          simp only [cond_true, Bool.true_and, if_pos hl, app_nil, spec_pathOk, Option.bind_some]
          cases dir == [] <;> cases pathOk dir <;> rfl
theorem impl_optsOk (o : OptsT) (h1 : o.2.2.2.2.2.2.2.2.2.2.2.2.2.2.2.1.length ≤ 1048576) (h2 : o.2.2.2.2.2.2.2.2.2.2.2.2.2.2.2.2.length ≤ 1048576) : m_impl_OptsOk o = some (optsOk o, ()) := by
  obtain ⟨r, l, p, t, hd, ck, so, dry, wh, up, ex, ig, fz, del, bk, suf, dir⟩ := o
  dsimp only at h1 h2
  unfold m_impl_OptsOk optsOk
  simp only [within_eq, Option.bind_some, bne, nilOf]
  refine bind_eq (x := (((), !((decide (del ≥ 0) && decide (del ≤ 3)) && (!(!(del == 0) && !r) && !(ck && so))), ()), (r, l, p, t, hd, ck, so, dry, wh, up, ex, ig, fz, del, bk, suf, dir, ()), ())) ?_ ?_
  · cases (decide (del ≥ 0) && decide (del ≤ 3)) <;> cases del == 0 <;> cases r <;> cases ck <;> cases so <;> rfl
  · dsimp only
    have e : ((decide (del ≥ 0) && decide (del ≤ 3)) && (!(!(del == 0) && !r) && (!(ck && so) && (cond bk (sufOk suf && ((dir == [] || pathOk dir) && !(suf == [] && dir == []))) (suf == [] && dir == []))))) = (((decide (del ≥ 0) && decide (del ≤ 3)) && (!(!(del == 0) && !r) && !(ck && so))) && (cond bk (sufOk suf && ((dir == [] || pathOk dir) && !(suf == [] && dir == []))) (suf == [] && dir == []))) := by
      simp only [Bool.and_assoc]
    rw [e]
    cases ((decide (del ≥ 0) && decide (del ≤ 3)) && (!(!(del == 0) && !r) && !(ck && so))) with
    | false => rfl
    | true =>
      simp only [Bool.not_true, cond_false, Bool.true_and]
      cases bk with
      | false =>
        simp only [Bool.not_false, cond_true, cond_false]
        cases suf == [] <;> rfl
      | true =>
        simp only [Bool.not_true, cond_true, cond_false, impl_pathOk, Option.bind_some]
        cases hsn : suf == [] with
        | true =>
          have : sufOk suf = true := by unfold sufOk; rw [hsn]; rfl
          rw [this]
          cases dir == [] <;> cases pathOk dir <;> rfl
        | false =>
          rw [impl_suffix _ h1 hsn]
          simp only [Option.bind_some, cond_false]
          cases sufOk suf <;> cases dir == [] <;> cases pathOk dir <;> rfl
theorem szOpts_eq (o : OptsT) (n : Int) (hn : 0 ≤ n ∧ n ≤ 1048576) (h1 : o.2.2.2.2.2.2.2.2.2.2.2.2.2.2.2.1.length ≤ 9223372036854775807) (h2 : o.2.2.2.2.2.2.2.2.2.2.2.2.2.2.2.2.length ≤ 9223372036854775807) :
    ∃ m, m_laws_szOpts o n = some (m, ()) ∧ (0 ≤ m → m = n - o.2.2.2.2.2.2.2.2.2.2.2.2.2.2.2.1.length - o.2.2.2.2.2.2.2.2.2.2.2.2.2.2.2.2.length) := by
  unfold m_laws_szOpts
  rw [wr (n - _) (by omega)]
  by_cases q1 : n - (o.2.2.2.2.2.2.2.2.2.2.2.2.2.2.2.1.length : Int) < 0
  · rw [decide_eq_true q1]; exact ⟨_, rfl, fun h => by omega⟩
  · rw [decide_eq_false q1, cond_false, wr _ (by omega)]
    by_cases q2 : n - (o.2.2.2.2.2.2.2.2.2.2.2.2.2.2.2.1.length : Int) - (o.2.2.2.2.2.2.2.2.2.2.2.2.2.2.2.2.length : Int) < 0
    · rw [decide_eq_true q2]; exact ⟨_, rfl, fun h => by omega⟩
    · rw [decide_eq_false q2]; exact ⟨_, rfl, fun _ => rfl⟩
theorem toOpts_eq (o : OptsT) : m_laws_toOpts o = some (o, ()) := rfl
end Go.AM
set_option linter.unusedVariables false
set_option linter.unusedSimpArgs false
namespace Go.AM
open Go
/-! ### nodes and entries -/
abbrev NodeT := List UInt8 × (Int × (Int × (Int × (List UInt8 × (List UInt8 × Int)))))
abbrev EntryT := List UInt8 × (Int × (Int × (Int × (Int × (List UInt8 × Int)))))
def inI (x a b : Int) : Bool := decide (x ≥ a) && decide (x ≤ b)
def nodeKind (k m : Int) (data target : List UInt8) (g : Int) : Bool :=
  cond (k == 0) (data == [] && (target == [] && g == 0)) (cond (k == 1) (decide ((data.length : Int) ≤ 20000) && (target == [] && inI g 0 200))
    (cond (k == 2) ((data == [] && (m == 0 && (g == 0 && inI (target.length : Int) 1 60))) && !(target.any (· == 10))) false))
def nodeOk (x : NodeT) : Bool := (pathOk x.1 && (inI x.2.2.1 0 511 && inI x.2.2.2.1 0 1000000000)) && nodeKind x.2.1 x.2.2.1 x.2.2.2.2.1 x.2.2.2.2.2.1 x.2.2.2.2.2.2
theorem any_index (c : UInt8) (s : List UInt8) : decide (Go.Lib.indexByte s c ≥ 0) = s.any (· == c) := by
  induction s with
  | nil => rfl
  | cons a r ih =>
    unfold Go.Lib.indexByte
    rw [List.any_cons]
    cases h : a == c with
    | true => rfl
    | false =>
      rw [Bool.false_or, ← ih, if_neg (by simp)]
      have := Go.Lib.indexByte_ge r c
      split
      · rename_i h1; rw [beq_iff_eq] at h1; rw [h1]
      · rename_i h1
        have : ¬(Go.Lib.indexByte r c = -1) := fun h => h1 (by rw [h]; rfl)
        exact decide_eq_decide.2 (by omega)
theorem contains_nl (s : List UInt8) : m_strings_Contains s = some (s.any (· == 10), ()) := by
  unfold m_strings_Contains m_strings_Index_2 m_stringslite_Index_2
  by_cases h : s = [10]
  · subst h; rfl
  · rw [show (([10] : List UInt8) == s) = false by rw [beq_eq_false_iff_ne]; exact fun h' => h h'.symm]
    show some (decide (Go.Lib.indexByte s 10 ≥ 0), ()) = _
    rw [any_index]
theorem any_drop {s : List UInt8} {i : Nat} (h : i < s.length) : (s.drop i).any (· == 10) = ((s.getD i 0 == 10) || (s.drop (i + 1)).any (· == 10)) := by
  rw [getD_cons h, List.any_cons]
theorem byte_beq (b : UInt8) (c : Nat) (hc : c < 256) : ((b.toNat : Int) == (c : Int)) = (b == c.toUInt8) := by
  have hb := UInt8.toNat_lt b
  by_cases h : b = c.toUInt8
  · subst h
    rw [show (c.toUInt8 == c.toUInt8) = true by simp]
    rw [beq_iff_eq]
    show ((c % 256 : Nat) : Int) = _
    omega
  · rw [show (b == c.toUInt8) = false by rw [beq_eq_false_iff_ne]; exact h, beq_eq_false_iff_ne]
    intro h'; apply h; apply UInt8.toNat.inj; show _ = c % 256; omega
theorem spec_nodeOk (x : NodeT) (h : x.2.2.2.2.2.1.length ≤ 1099511627776) : m_spec_NodeOk x = some (nodeOk x, ()) := by
  obtain ⟨p, kd, md, tm, data, target, g⟩ := x
  dsimp only at h
  unfold m_spec_NodeOk nodeOk
  refine bind_eq (x := (((), !(pathOk p && (inI md 0 511 && inI tm 0 1000000000)), ()), (p, kd, md, tm, data, target, g, ()), ())) ?_ ?_
  · rw [spec_pathOk, Option.bind_some]
    simp only [in_eq, Option.bind_some]
    unfold inI
    cases pathOk p <;> cases (decide (md ≥ 0) && decide (md ≤ 511)) <;> rfl
  · dsimp only
    cases (pathOk p && (inI md 0 511 && inI tm 0 1000000000)) with
    | false => rfl
    | true =>
      simp only [Bool.not_true, cond_false, Bool.true_and, nilOf]
      unfold nodeKind
      cases kd == 0 with
      | true => cases data == [] <;> cases target == [] <;> rfl
      | false =>
        simp only [cond_false]
        cases kd == 1 with
        | true =>
          simp only [cond_true, in_eq, Option.bind_some]
          cases decide ((data.length : Int) ≤ 20000) <;> cases target == [] <;> rfl
        | false =>
          simp only [cond_false]
          cases kd == 2 with
          | false => rfl
          | true =>
            simp only [cond_true, in_eq, Option.bind_some, bne]
            refine bind_eq (x := (((), !(data == [] && (md == 0 && (g == 0 && inI (target.length : Int) 1 60))), ()), (p, kd, md, tm, data, target, g, ()), ())) ?_ ?_
            · unfold inI
              cases data == [] <;> cases md == 0 <;> cases g == 0 <;> rfl
            · dsimp only
              cases (data == [] && (md == 0 && (g == 0 && inI (target.length : Int) 1 60))) with
              | false => rfl
              | true =>
                simp only [Bool.not_true, cond_false, Bool.true_and]
                refine joinC_of (loopC_inv _ (fun n t => ∃ i : Nat, t = (((), (i : Int), ()), (p, kd, md, tm, data, target, g, ()), ()) ∧ i ≤ target.length ∧ n = target.length - i)
                  (fun t => some (if (target.drop t.1.2.1.toNat).any (· == 10) then .inr (false, ()) else .inl ((), ()))) ?_ _ target.length _ ⟨0, rfl, by omega, rfl⟩ (by omega)) ?_
                · rintro n t k ⟨i, rfl, hi, rfl⟩ hk
                  dsimp only
                  by_cases hl : i < target.length
                  · rw [decide_eq_true (by omega), cond_true, if_pos (by omega), Int.toNat_natCast, any_drop hl]
                    rw [show (((target.getD i 0).toNat : Int) == 10) = (target.getD i 0 == 10) from byte_beq _ 10 (by decide)]
                    cases target.getD i 0 == 10 with
                    | true => rfl
                    | false =>
                      rw [cond_false, Bool.false_or, wr1 i (by omega)]
                      exact hk (target.length - (i + 1)) _ (by omega) ⟨i + 1, rfl, by omega, rfl⟩
                  · rw [decide_eq_false (by omega), cond_false, Int.toNat_natCast, List.drop_eq_nil_of_le (by omega)]
                    rfl
                · show joinC (some (if (target.drop 0).any (· == 10) = true then _ else _)) _ = _
                  rw [List.drop_zero]
                  cases target.any (· == 10) <;> rfl
theorem impl_nodeOk (x : NodeT) : m_impl_NodeOk x = some (nodeOk x, ()) := by
  obtain ⟨p, kd, md, tm, data, target, g⟩ := x
  unfold m_impl_NodeOk nodeOk
  refine bind_eq (x := (((), !(pathOk p && (inI md 0 511 && inI tm 0 1000000000)), ()), (p, kd, md, tm, data, target, g, ()), ())) ?_ ?_
  · rw [impl_pathOk, Option.bind_some]
    simp only [within_eq, Option.bind_some]
    unfold inI
    cases pathOk p <;> cases (decide (md ≥ 0) && decide (md ≤ 511)) <;> rfl
  · dsimp only
    cases (pathOk p && (inI md 0 511 && inI tm 0 1000000000)) with
    | false => rfl
    | true =>
      simp only [Bool.not_true, cond_false, Bool.true_and, nilOf]
      unfold nodeKind
      cases kd == 0 with
      | true => cases data == [] <;> cases target == [] <;> rfl
      | false =>
        simp only [cond_false]
        cases kd == 1 with
        | true =>
          simp only [cond_true, within_eq, Option.bind_some]
          cases decide ((data.length : Int) ≤ 20000) <;> cases target == [] <;> rfl
        | false =>
          simp only [cond_false]
          cases kd == 2 with
          | false => rfl
          | true =>
            simp only [cond_true, within_eq, Option.bind_some, contains_nl]
            unfold inI
            cases data == [] <;> cases md == 0 <;> cases g == 0 <;> cases (decide ((target.length : Int) ≥ 1) && decide ((target.length : Int) ≤ 60)) <;> rfl
end Go.AM
set_option linter.unusedVariables false
set_option linter.unusedSimpArgs false
namespace Go.AM
open Go
/-! ### itemised lines -/
abbrev ChangeT := Int × (List UInt8 × (NodeT × NodeT))
def sgn (b : Bool) (s : List UInt8) : List UInt8 := cond b s [46]
theorem sgn1 (b : Bool) (x : UInt8) : (sgn b [x]).length = 1 := by cases b <;> rfl
theorem sgn2 (b c : Bool) (x y : UInt8) : (sgn b (cond c [x] [y])).length = 1 := by cases b <;> cases c <;> rfl
theorem spec_sign (b : Bool) (s : List UInt8) : m_spec_l15Sign b s = some (sgn b s, ()) := by unfold m_spec_l15Sign; cases b <;> rfl
theorem impl_sign (b : Bool) (s : List UInt8) : m_impl_sign b s = some (sgn b s, ()) := by unfold m_impl_sign; cases b <;> rfl
def sub3 (k : Int) : List UInt8 := List.drop (Int.toNat k) (List.take (Int.toNat (k + 1)) [100, 102, 76])
theorem sub3_len (k : Int) : (List.drop (Int.toNat k) (List.take (Int.toNat (k + 1)) ([100, 102, 76] : List UInt8))).length ≤ 3 := by
  rw [List.length_drop, List.length_take]; show min _ 3 - _ ≤ 3; omega
def del11 : List UInt8 := [42, 100, 101, 108, 101, 116, 105, 110, 103, 32, 32]
def head3 (kd nk : Int) : List UInt8 := cond (kd == 3) [46] (cond (nk == 1) [62] [99])
theorem head3_len (kd nk : Int) : (head3 kd nk).length = 1 := by unfold head3; cases kd == 3 <;> cases nk == 1 <;> rfl
def itemB (times : Bool) (kd nk : Int) (content lens tm md : Bool) : List UInt8 :=
  cond (kd == 0) del11 (cond (kd == 1 || kd == 4) (head3 kd nk ++ sub3 nk ++ [43, 43, 43, 43, 43, 43, 43, 43, 43])
    (head3 kd nk ++ sub3 nk ++ sgn content [99] ++ sgn lens [115] ++ sgn tm (cond times [116] [84]) ++ sgn md [112] ++ [46, 46, 46, 46, 46]))
theorem rep9 : m_strings_Repeat [43] 9 = some ([43, 43, 43, 43, 43, 43, 43, 43, 43], ()) := by
  unfold m_strings_Repeat repeatM; rfl
theorem rep5 : m_strings_Repeat [46] 5 = some ([46, 46, 46, 46, 46], ()) := by
  unfold m_strings_Repeat repeatM; rfl
theorem impl_item (c : ChangeT) (o : OptsT) (h : c.1 = 0 ∨ 0 ≤ c.2.2.2.2.1 ∧ c.2.2.2.2.1 ≤ 2) :
    m_impl_item c o = some (itemB o.2.2.2.1 c.1 c.2.2.2.2.1 ((o.2.2.2.2.2.1 && (c.2.2.2.2.1 == 1 && !(c.2.2.2.2.2.2.2.1 == c.2.2.1.2.2.2.2.1))) || (c.2.2.2.2.1 == 2 && !(c.2.2.2.2.2.2.2.2.1 == c.2.2.1.2.2.2.2.2.1)))
      ((c.2.2.2.2.2.2.2.1.length : Int) != (c.2.2.1.2.2.2.2.1.length : Int)) (c.2.2.2.2.2.2.1 != c.2.2.1.2.2.2.1) (c.2.2.2.2.2.1 != c.2.2.1.2.2.1), ()) := by
  obtain ⟨kd, path, ⟨op, ok, om, ot, od, otg, og⟩, ⟨np, nk, nm, nt, nd, ntg, ng⟩⟩ := c
  obtain ⟨r, l, pp, t, hd, ck, so, dry, wh, up, ex, ig, fz, dl, bk, suf, dir⟩ := o
  dsimp only at h
  unfold m_impl_item itemB
  dsimp only
  cases hk0 : kd == 0 with
  | true => rfl
  | false =>
    simp only [cond_false]
    have h := h.resolve_left (by simpa using hk0)
    refine bind_eq (x := (((), (), (), (), head3 kd nk, ()), (kd, path, op, ok, om, ot, od, otg, og, np, nk, nm, nt, nd, ntg, ng, ()), (r, l, pp, t, hd, ck, so, dry, wh, up, ex, ig, fz, dl, bk, suf, dir, ()), (np, nk, nm, nt, nd, ntg, ng, ()), (op, ok, om, ot, od, otg, og, ()), ())) ?_ ?_
    · unfold head3; cases kd == 3 <;> cases nk == 1 <;> rfl
    · dsimp only
      have hs3 := sub3_len nk
      have hh := head3_len kd nk
      rw [wr (nk + 1) (by omega), if_pos (by simp only [List.length_cons, List.length_nil]; omega), if_pos (by show _ < 9223372036854775808; omega)]
      refine bind_eq (x := (((), (), (), head3 kd nk ++ sub3 nk, (kd == 1 || kd == 4), ()), (r, l, pp, t, hd, ck, so, dry, wh, up, ex, ig, fz, dl, bk, suf, dir, ()), (np, nk, nm, nt, nd, ntg, ng, ()), (op, ok, om, ot, od, otg, og, ()), ())) ?_ ?_
      · cases kd == 1 <;> rfl
      · dsimp only
        have hs3' : (sub3 nk).length ≤ 3 := hs3
        cases (kd == 1 || kd == 4) with
        | true =>
          simp only [cond_true, rep9, Option.bind_some]
          rw [if_pos (by simp only [List.length_append, List.length_cons, List.length_nil]; show _ < 9223372036854775808; omega)]
        | false =>
          simp only [cond_false]
          refine bind_eq (x := (((), (), (), head3 kd nk ++ sub3 nk, cond t [116] [84], ()), (r, l, pp, t, hd, ck, so, dry, wh, up, ex, ig, fz, dl, bk, suf, dir, ()), (np, nk, nm, nt, nd, ntg, ng, ()), (op, ok, om, ot, od, otg, og, ()), ())) ?_ ?_
          · cases t <;> rfl
          · dsimp only
            refine bind_eq (x := (((), (), head3 kd nk ++ sub3 nk, cond t [116] [84], ((ck && (nk == 1 && !(nd == od))) || (nk == 2 && !(ntg == otg))), ()), (np, nk, nm, nt, nd, ntg, ng, ()), (op, ok, om, ot, od, otg, og, ()), ())) ?_ ?_
            · cases ck <;> cases nk == 1 <;> cases nd == od <;> cases nk == 2 <;> rfl
            · simp only [impl_sign, Option.bind_some, rep5]
              have e1 := sgn1 ((ck && (nk == 1 && !(nd == od))) || (nk == 2 && !(ntg == otg))) 99
              have e2 := sgn1 ((nd.length : Int) != (od.length : Int)) 115
              have e3 := sgn2 (nt != ot) t 116 84
              have e4 := sgn1 (nm != om) 112
              rw [if_pos (by simp only [List.length_append]; show _ < 9223372036854775808; omega), if_pos (by simp only [List.length_append]; show _ < 9223372036854775808; omega), if_pos (by simp only [List.length_append]; show _ < 9223372036854775808; omega), if_pos (by simp only [List.length_append]; show _ < 9223372036854775808; omega), if_pos (by simp only [List.length_append, List.length_cons, List.length_nil]; show _ < 9223372036854775808; omega)]
theorem thing_eq (c : ChangeT) : m_impl_Change_thing c = some (cond (c.1 == 0) c.2.2.1 c.2.2.2, ()) := by
  unfold m_impl_Change_thing; cases c.1 == 0 <;> rfl
def itemOk (c : ChangeT) (o : OptsT) : Bool := inI c.1 0 4 && (optsOk o && nodeOk (cond (c.1 == 0) c.2.2.1 c.2.2.2))
def itemOk2 (c : ChangeT) : Bool := c.1 == 0 || ((c.1 == 1 || c.1 == 4) || (nodeOk c.2.2.1 && c.2.2.1.2.1 == c.2.2.2.2.1))
def itemV (c : ChangeT) (o : OptsT) : List UInt8 :=
  cond (itemOk c o && itemOk2 c) (itemB o.2.2.2.1 c.1 c.2.2.2.2.1 ((o.2.2.2.2.2.1 && (c.2.2.2.2.1 == 1 && !(c.2.2.2.2.2.2.2.1 == c.2.2.1.2.2.2.2.1))) || (c.2.2.2.2.1 == 2 && !(c.2.2.2.2.2.2.2.2.1 == c.2.2.1.2.2.2.2.2.1)))
      ((c.2.2.2.2.2.2.2.1.length : Int) != (c.2.2.1.2.2.2.2.1.length : Int)) (c.2.2.2.2.2.2.1 != c.2.2.1.2.2.2.1) (c.2.2.2.2.2.1 != c.2.2.1.2.2.1)) []
theorem nodeKind_range {k m g : Int} {d t : List UInt8} (h : nodeKind k m d t g = true) : (k = 0 ∧ d = [] ∧ t = []) ∨ (k = 1 ∧ t = []) ∨ (k = 2 ∧ d = []) := by
  unfold nodeKind at h
  cases h0 : k == 0 with
  | true =>
    rw [h0] at h
    simp at h h0
    exact .inl ⟨h0, h.1, h.2.1⟩
  | false =>
    rw [h0] at h
    simp only [cond_false] at h
    cases h1 : k == 1 with
    | true =>
      rw [h1] at h
      simp at h h1
      exact .inr (.inl ⟨h1, h.2.1⟩)
    | false =>
      rw [h1] at h
      simp only [cond_false] at h
      cases h2 : k == 2 with
      | true =>
        rw [h2] at h
        simp at h h2
        exact .inr (.inr ⟨h2, h.1.1⟩)
      | false => rw [h2] at h; cases h
theorem nodeOk_kind {x : NodeT} (h : nodeOk x = true) : (x.2.1 = 0 ∧ x.2.2.2.2.1 = [] ∧ x.2.2.2.2.2.1 = []) ∨ (x.2.1 = 1 ∧ x.2.2.2.2.2.1 = []) ∨ (x.2.1 = 2 ∧ x.2.2.2.2.1 = []) := by
  unfold nodeOk at h
  rw [Bool.and_eq_true] at h
  exact nodeKind_range h.2
theorem impl_Item (c : ChangeT) (o : OptsT) (h1 : o.2.2.2.2.2.2.2.2.2.2.2.2.2.2.2.1.length ≤ 1048576) (h2 : o.2.2.2.2.2.2.2.2.2.2.2.2.2.2.2.2.length ≤ 1048576) : m_impl_Item c o = some (itemV c o, ()) := by
  have hI := impl_item c o
  unfold m_impl_Item itemV
  refine bind_eq (x := (((), (), !itemOk c o, ()), (c.1, c.2.1, c.2.2.1.1, c.2.2.1.2.1, c.2.2.1.2.2.1, c.2.2.1.2.2.2.1, c.2.2.1.2.2.2.2.1, c.2.2.1.2.2.2.2.2.1, c.2.2.1.2.2.2.2.2.2, c.2.2.2.1, c.2.2.2.2.1, c.2.2.2.2.2.1, c.2.2.2.2.2.2.1, c.2.2.2.2.2.2.2.1, c.2.2.2.2.2.2.2.2.1, c.2.2.2.2.2.2.2.2.2, ()), (o.1, o.2.1, o.2.2.1, o.2.2.2.1, o.2.2.2.2.1, o.2.2.2.2.2.1, o.2.2.2.2.2.2.1, o.2.2.2.2.2.2.2.1, o.2.2.2.2.2.2.2.2.1, o.2.2.2.2.2.2.2.2.2.1, o.2.2.2.2.2.2.2.2.2.2.1, o.2.2.2.2.2.2.2.2.2.2.2.1, o.2.2.2.2.2.2.2.2.2.2.2.2.1, o.2.2.2.2.2.2.2.2.2.2.2.2.2.1, o.2.2.2.2.2.2.2.2.2.2.2.2.2.2.1, o.2.2.2.2.2.2.2.2.2.2.2.2.2.2.2.1, o.2.2.2.2.2.2.2.2.2.2.2.2.2.2.2.2, ()), ())) ?_ ?_
  · unfold itemOk inI
    rw [within_eq, Option.bind_some]
    cases (decide (c.1 ≥ 0) && decide (c.1 ≤ 4)) with
    | false => rfl
    | true =>
      simp only [Bool.not_true, cond_false, Bool.true_and]
      rw [impl_optsOk o h1 h2, Option.bind_some]
      cases optsOk o with
      | false => rfl
      | true =>
        simp only [Bool.not_true, cond_false, Bool.true_and]
        rw [thing_eq, Option.bind_some, impl_nodeOk, Option.bind_some]
  · dsimp only
    cases hok : itemOk c o with
    | false => rfl
    | true =>
      simp only [Bool.not_true, cond_false, Bool.true_and]
      have hin : 0 ≤ c.1 ∧ c.1 ≤ 4 := by
        unfold itemOk inI at hok
        simp only [Bool.and_eq_true, decide_eq_true_eq] at hok
        exact hok.1
      have hno : nodeOk (cond (c.1 == 0) c.2.2.1 c.2.2.2) = true := by
        unfold itemOk at hok
        simp only [Bool.and_eq_true] at hok
        exact hok.2.2
      refine bind_eq (x := (((), (), !itemOk2 c, ()), (c.1, c.2.1, c.2.2.1.1, c.2.2.1.2.1, c.2.2.1.2.2.1, c.2.2.1.2.2.2.1, c.2.2.1.2.2.2.2.1, c.2.2.1.2.2.2.2.2.1, c.2.2.1.2.2.2.2.2.2, c.2.2.2.1, c.2.2.2.2.1, c.2.2.2.2.2.1, c.2.2.2.2.2.2.1, c.2.2.2.2.2.2.2.1, c.2.2.2.2.2.2.2.2.1, c.2.2.2.2.2.2.2.2.2, ()), (o.1, o.2.1, o.2.2.1, o.2.2.2.1, o.2.2.2.2.1, o.2.2.2.2.2.1, o.2.2.2.2.2.2.1, o.2.2.2.2.2.2.2.1, o.2.2.2.2.2.2.2.2.1, o.2.2.2.2.2.2.2.2.2.1, o.2.2.2.2.2.2.2.2.2.2.1, o.2.2.2.2.2.2.2.2.2.2.2.1, o.2.2.2.2.2.2.2.2.2.2.2.2.1, o.2.2.2.2.2.2.2.2.2.2.2.2.2.1, o.2.2.2.2.2.2.2.2.2.2.2.2.2.2.1, o.2.2.2.2.2.2.2.2.2.2.2.2.2.2.2.1, o.2.2.2.2.2.2.2.2.2.2.2.2.2.2.2.2, ()), ())) ?_ ?_
      · have hn1 : m_impl_NodeOk c.2.2.1 = some (nodeOk c.2.2.1, ()) := impl_nodeOk _
        unfold itemOk2
        have hc : c.1 = 0 ∨ c.1 = 1 ∨ c.1 = 2 ∨ c.1 = 3 ∨ c.1 = 4 := by omega
        rcases hc with e | e | e | e | e <;> rw [e]
        · rfl
        · rfl
        · show Option.bind (m_impl_NodeOk c.2.2.1) _ = _
          rw [hn1, Option.bind_some]
          cases nodeOk c.2.2.1 with
          | false => rfl
          | true => rfl
        · show Option.bind (m_impl_NodeOk c.2.2.1) _ = _
          rw [hn1, Option.bind_some]
          cases nodeOk c.2.2.1 with
          | false => rfl
          | true => rfl
        · rfl
      · dsimp only
        cases itemOk2 c with
        | false => rfl
        | true =>
          simp only [Bool.not_true, cond_false, cond_true]
          show Option.bind (m_impl_item c o) _ = _
          rw [hI ?_, Option.bind_some]
          by_cases e0 : c.1 = 0
          · exact .inl e0
          · right
            have hb : (c.1 == 0) = false := by simp [e0]
            rw [hb] at hno
            have hno : nodeOk c.2.2.2 = true := hno
            rcases nodeOk_kind hno with h | h | h <;> omega
theorem content_eq {ck : Bool} {N D : NodeT} (hn : nodeOk N = true) (hd : nodeOk D = true) (hk : (D.2.1 == N.2.1) = true) :
    ((ck && !(N.2.2.2.2.1 == D.2.2.2.2.1)) || !(N.2.2.2.2.2.1 == D.2.2.2.2.2.1)) = ((ck && (N.2.1 == 1 && !(N.2.2.2.2.1 == D.2.2.2.2.1))) || (N.2.1 == 2 && !(N.2.2.2.2.2.1 == D.2.2.2.2.2.1))) := by
  have hk : D.2.1 = N.2.1 := by simpa using hk
  rcases nodeOk_kind hn with ⟨h1, h2, h3⟩ | ⟨h1, h2⟩ | ⟨h1, h2⟩ <;> rcases nodeOk_kind hd with ⟨g1, g2, g3⟩ | ⟨g1, g2⟩ | ⟨g1, g2⟩ <;> try omega
  · rw [h1, h2, h3, g2, g3]; cases ck <;> rfl
  · rw [h1, h2, g2]; cases ck <;> simp
  · rw [h1, h2, g2]; cases ck <;> simp
theorem spec_Item (c : ChangeT) (o : OptsT) (h1 : o.2.2.2.2.2.2.2.2.2.2.2.2.2.2.2.1.length ≤ 1048576) (h2 : o.2.2.2.2.2.2.2.2.2.2.2.2.2.2.2.2.length ≤ 1048576) (h3 : c.2.2.1.2.2.2.2.2.1.length ≤ 1048576) (h4 : c.2.2.2.2.2.2.2.2.1.length ≤ 1048576) :
    m_spec_Item c o = some (itemV c o, ()) := by
  have hO := spec_optsOk o h1 h2
  have hOld := spec_nodeOk c.2.2.1 (by omega)
  have hNew := spec_nodeOk c.2.2.2 (by omega)
  have hce := @content_eq o.2.2.2.2.2.1 c.2.2.2 c.2.2.1
  obtain ⟨kd, path, ⟨op, ok, om, ot, od, otg, og⟩, ⟨np, nk, nm, nt, nd, ntg, ng⟩⟩ := c
  obtain ⟨r, l, pp, t, hd, ck, so, dry, wh, up, ex, ig, fz, dl, bk, suf, dir⟩ := o
  dsimp only at h1 h2 h3 h4 hO hOld hNew hce
  unfold m_spec_Item itemV itemOk itemOk2
  dsimp only
  cases hk0 : kd == 0 with
  | true =>
    simp only [cond_true, Option.bind_some, in_eq]
    unfold inI
    cases (decide (kd ≥ 0) && decide (kd ≤ 4)) with
    | false => rfl
    | true =>
      simp only [Bool.not_true, cond_false, Bool.true_and]
      rw [hO]
      simp only [Option.bind_some]
      cases optsOk (r, l, pp, t, hd, ck, so, dry, wh, up, ex, ig, fz, dl, bk, suf, dir) with
      | false => rfl
      | true =>
        simp only [Bool.not_true, cond_false, Bool.true_and]
        rw [hOld]
        simp only [Option.bind_some]
        cases nodeOk (op, ok, om, ot, od, otg, og) with
        | false => rfl
        | true =>
          simp only [Bool.not_true, cond_false, hk0, cond_true, Bool.true_and, Bool.true_or]
          unfold itemB
          rw [hk0]; rfl
  | false =>
    simp only [cond_false, Option.bind_some, in_eq]
    cases hin : inI kd 0 4 with
    | false =>
      have hin' : (decide (kd ≥ 0) && decide (kd ≤ 4)) = false := hin
      rw [hin']; rfl
    | true =>
      have hin' : (decide (kd ≥ 0) && decide (kd ≤ 4)) = true := hin
      rw [hin']
      simp only [Bool.not_true, cond_false, Bool.true_and]
      rw [hO]
      simp only [Option.bind_some]
      cases optsOk (r, l, pp, t, hd, ck, so, dry, wh, up, ex, ig, fz, dl, bk, suf, dir) with
      | false => rfl
      | true =>
        simp only [Bool.not_true, cond_false, Bool.true_and]
        rw [hNew]
        simp only [Option.bind_some]
        cases hno : nodeOk (np, nk, nm, nt, nd, ntg, ng) with
        | false => rfl
        | true =>
          have hnk := nodeOk_kind hno
          dsimp only at hnk
          have hnk : 0 ≤ nk ∧ nk ≤ 2 := by rcases hnk with h | h | h <;> omega
          simp only [Bool.not_true, cond_false, hk0, Bool.true_and, Bool.false_or]
          refine bind_eq (x := (((), (), (), (), cond (nk == 1) [62] [99], ()), (kd, path, op, ok, om, ot, od, otg, og, np, nk, nm, nt, nd, ntg, ng, ()), (r, l, pp, t, hd, ck, so, dry, wh, up, ex, ig, fz, dl, bk, suf, dir, ()), (np, nk, nm, nt, nd, ntg, ng, ()), (op, ok, om, ot, od, otg, og, ()), ())) (by cases nk == 1 <;> rfl) ?_
          dsimp only
          refine bind_eq (x := (((), (), (), (), head3 kd nk, ()), (kd, path, op, ok, om, ot, od, otg, og, np, nk, nm, nt, nd, ntg, ng, ()), (r, l, pp, t, hd, ck, so, dry, wh, up, ex, ig, fz, dl, bk, suf, dir, ()), (np, nk, nm, nt, nd, ntg, ng, ()), (op, ok, om, ot, od, otg, og, ()), ())) (by unfold head3; cases kd == 3 <;> rfl) ?_
          dsimp only
          have hs3 := sub3_len nk
          have hh := head3_len kd nk
          rw [wr (nk + 1) (by omega), if_pos (by simp only [List.length_cons, List.length_nil]; omega), if_pos (by show _ < 9223372036854775808; omega)]
          refine bind_eq (x := (((), (), (), head3 kd nk ++ sub3 nk, (kd == 1 || kd == 4), ()), (r, l, pp, t, hd, ck, so, dry, wh, up, ex, ig, fz, dl, bk, suf, dir, ()), (np, nk, nm, nt, nd, ntg, ng, ()), (op, ok, om, ot, od, otg, og, ()), ())) (by cases kd == 1 <;> rfl) ?_
          dsimp only
          have hs3' : (sub3 nk).length ≤ 3 := hs3
          cases h14 : (kd == 1 || kd == 4) with
          | true =>
            simp only [cond_true, Bool.true_or]
            rw [if_pos (by simp only [List.length_append, List.length_cons, List.length_nil]; show _ < 9223372036854775808; omega)]
            unfold itemB
            rw [hk0, h14]; rfl
          | false =>
            simp only [cond_false, Bool.false_or]
            rw [hOld]
            simp only [Option.bind_some]
            cases hdo : nodeOk (op, ok, om, ot, od, otg, og) with
            | false => rfl
            | true =>
              simp only [Bool.not_true, cond_false, Option.bind_some, bne, Bool.true_and]
              cases hok : ok == nk with
              | false => rfl
              | true =>
                simp only [Bool.not_true, cond_false, cond_true]
                have hce := hce hno hdo hok
                refine bind_eq (x := (((), (), (), head3 kd nk ++ sub3 nk ++ sgn ((ck && !(nd == od)) || !(ntg == otg)) [99] ++ sgn (!((nd.length : Int) == (od.length : Int))) [115], ()), (r, l, pp, t, hd, ck, so, dry, wh, up, ex, ig, fz, dl, bk, suf, dir, ()), (np, nk, nm, nt, nd, ntg, ng, ()), (op, ok, om, ot, od, otg, og, ()), ())) ?_ ?_
                · simp only [spec_sign, Option.bind_some]
                  have q1 : ∀ b : Bool, (head3 kd nk ++ sub3 nk).length + (sgn b [99]).length < 2 ^ 63 := fun b => by rw [sgn1]; simp only [List.length_append]; show _ < 9223372036854775808; omega
                  have q2 : ∀ b b' : Bool, (head3 kd nk ++ sub3 nk ++ sgn b [99]).length + (sgn b' [115]).length < 2 ^ 63 := fun b b' => by rw [sgn1]; simp only [List.length_append, sgn1]; show _ < 9223372036854775808; omega
                  simp only [if_pos (q1 _), if_pos (q2 _ _)]
                  cases ck <;> cases nd == od <;> rfl
                · dsimp only
                  rw [hce]
                  generalize hC : ((ck && (nk == 1 && !(nd == od))) || (nk == 2 && !(ntg == otg))) = C
                  have e1 := sgn1 C 99
                  have e2 := sgn1 (!((nd.length : Int) == (od.length : Int))) 115
                  have e3 := sgn2 (!(nt == ot)) t 116 84
                  have e4 := sgn1 (!(nm == om)) 112
                  refine bind_eq (x := (((), (), head3 kd nk ++ sub3 nk ++ sgn C [99] ++ sgn (!((nd.length : Int) == (od.length : Int))) [115] ++ sgn (!(nt == ot)) (cond t [116] [84]), ()), (np, nk, nm, nt, nd, ntg, ng, ()), (op, ok, om, ot, od, otg, og, ()), ())) ?_ ?_
                  · simp only [spec_sign, Option.bind_some]
                    cases t with
                    | true =>
                      simp only [cond_true] at e3 ⊢
                      rw [if_pos (by simp only [List.length_append]; show _ < 9223372036854775808; omega)]
                    | false =>
                      simp only [cond_false] at e3 ⊢
                      rw [if_pos (by simp only [List.length_append]; show _ < 9223372036854775808; omega)]
                  · simp only [spec_sign, Option.bind_some]
                    rw [if_pos (by simp only [List.length_append]; show _ < 9223372036854775808; omega), if_pos (by simp only [List.length_append, List.length_cons, List.length_nil]; show _ < 9223372036854775808; omega)]
                    unfold itemB
                    rw [hk0, h14]; rfl
end Go.AM
set_option linter.unusedVariables false
set_option linter.unusedSimpArgs false
namespace Go.AM
open Go
def NodeH (x : NodeT) : Prop := x.1.length ≤ 9223372036854775807 ∧ x.2.2.2.2.1.length ≤ 9223372036854775807 ∧ x.2.2.2.2.2.1.length ≤ 9223372036854775807
def NodeB (x : NodeT) : Prop := x.1.length ≤ 1048576 ∧ x.2.2.2.2.1.length ≤ 1048576 ∧ x.2.2.2.2.2.1.length ≤ 1048576
theorem szNode_eq (x : NodeT) (n : Int) (h : NodeH x) (h0 : 0 ≤ n) (h1 : n ≤ 1048576) : ∃ m, m_laws_szNode x n = some (m, ()) ∧ (0 ≤ m → m ≤ n ∧ NodeB x) := by
  obtain ⟨g1, g2, g3⟩ := h
  unfold m_laws_szNode NodeB
  rw [wr (n - _) (by omega)]
  by_cases q1 : n - (x.1.length : Int) < 0
  · rw [decide_eq_true q1]; exact ⟨_, rfl, fun h => by omega⟩
  · rw [decide_eq_false q1, cond_false, wr (_ - (x.2.2.2.2.1.length : Int)) (by omega)]
    by_cases q2 : n - (x.1.length : Int) - (x.2.2.2.2.1.length : Int) < 0
    · rw [decide_eq_true q2]; exact ⟨_, rfl, fun h => by omega⟩
    · rw [decide_eq_false q2, cond_false, wr _ (by omega)]
      by_cases q3 : n - (x.1.length : Int) - (x.2.2.2.2.1.length : Int) - (x.2.2.2.2.2.1.length : Int) < 0
      · rw [decide_eq_true q3]; exact ⟨_, rfl, fun h => by omega⟩
      · rw [decide_eq_false q3]; exact ⟨_, rfl, fun _ => by omega⟩
theorem szChange_eq (c : ChangeT) (n : Int) (hp : c.2.1.length ≤ 9223372036854775807) (ho : NodeH c.2.2.1) (hn : NodeH c.2.2.2) (h0 : 0 ≤ n) (h1 : n ≤ 1048576) :
    ∃ m, m_laws_szChange c n = some (m, ()) ∧ (0 ≤ m → m ≤ n ∧ (c.2.1.length ≤ 1048576 ∧ NodeB c.2.2.1 ∧ NodeB c.2.2.2)) := by
  unfold m_laws_szChange
  rw [wr (n - _) (by omega)]
  by_cases q1 : n - (c.2.1.length : Int) < 0
  · rw [decide_eq_true q1]; exact ⟨_, rfl, fun h => by omega⟩
  · rw [decide_eq_false q1, cond_false]
    obtain ⟨m, e, hm⟩ := szNode_eq c.2.2.1 (n - (c.2.1.length : Int)) ho (by omega) (by omega)
    rw [e, Option.bind_some]
    dsimp only
    by_cases q2 : m < 0
    · rw [decide_eq_true q2]; exact ⟨_, rfl, fun h => by omega⟩
    · rw [decide_eq_false q2, cond_false]
      obtain ⟨g1, g2⟩ := hm (by omega)
      obtain ⟨m', e', hm'⟩ := szNode_eq c.2.2.2 m hn (by omega) (by omega)
      rw [e', Option.bind_some]
      dsimp only
      by_cases q3 : m' < 0
      · rw [decide_eq_true q3]; exact ⟨_, rfl, fun h => by omega⟩
      · rw [decide_eq_false q3]
        refine ⟨_, rfl, fun _ => ?_⟩
        obtain ⟨g3, g4⟩ := hm' (by omega)
        exact ⟨by omega, by omega, g2, g4⟩
theorem toChange_eq (c : ChangeT) : m_laws_toChange c = some (c, ()) := rfl
end Go.AM
set_option linter.unusedVariables false
set_option linter.unusedSimpArgs false
namespace Go.AM
theorem itemB_len (t : Bool) (kd nk : Int) (a b c d : Bool) : (itemB t kd nk a b c d).length ≤ 40 := by
  unfold itemB
  have h1 := head3_len kd nk
  have h2 : (sub3 nk).length ≤ 3 := sub3_len nk
  have e1 := sgn1 a 99
  have e2 := sgn1 b 115
  have e3 := sgn2 c t 116 84
  have e4 := sgn1 d 112
  cases kd == 0 with
  | true => show del11.length ≤ 40; decide
  | false =>
    cases (kd == 1 || kd == 4) with
    | true => simp only [cond_true, cond_false, List.length_append, List.length_cons, List.length_nil]; omega
    | false => simp only [cond_true, cond_false, List.length_append, List.length_cons, List.length_nil]; omega
theorem itemV_len (c : ChangeT) (o : OptsT) : (itemV c o).length ≤ 40 := by
  unfold itemV
  cases (itemOk c o && itemOk2 c) with
  | false => exact Nat.zero_le _
  | true => exact itemB_len _ _ _ _ _ _ _
def lineV (c : ChangeT) (o : OptsT) : List UInt8 :=
  cond (itemV c o == []) [] (itemV c o ++ [32] ++ c.2.1 ++ cond ((cond (c.1 == 0) c.2.2.1 c.2.2.2).2.1 == 0) [47] [])
theorem impl_Line (c : ChangeT) (o : OptsT) (h1 : o.2.2.2.2.2.2.2.2.2.2.2.2.2.2.2.1.length ≤ 1048576) (h2 : o.2.2.2.2.2.2.2.2.2.2.2.2.2.2.2.2.length ≤ 1048576) (hp : c.2.1.length ≤ 1048576) : m_impl_ItemLine c o = some (lineV c o, ()) := by
  unfold m_impl_ItemLine lineV
  have hl := itemV_len c o
  refine bind_eq (impl_Item c o h1 h2) ?_
  dsimp only
  simp only [nilOf]
  cases itemV c o == [] with
  | true => rfl
  | false =>
    simp only [cond_false]
    rw [if_pos (by simp only [List.length_cons, List.length_nil]; show _ < 9223372036854775808; omega), if_pos (by simp only [List.length_append, List.length_cons, List.length_nil]; show _ < 9223372036854775808; omega)]
    refine bind_eq (thing_eq c) ?_
    dsimp only
    unfold m_impl_slash
    cases (cond (c.1 == 0) c.2.2.1 c.2.2.2).2.1 == 0 with
    | true =>
      simp only [cond_true, Option.bind_some]
      rw [if_pos (by simp only [List.length_append, List.length_cons, List.length_nil]; show _ < 9223372036854775808; omega)]
    | false =>
      simp only [cond_false, Option.bind_some, nilOf]
      rw [if_pos (by simp only [List.length_append, List.length_cons, List.length_nil]; show _ < 9223372036854775808; omega)]
theorem spec_Line (c : ChangeT) (o : OptsT) (h1 : o.2.2.2.2.2.2.2.2.2.2.2.2.2.2.2.1.length ≤ 1048576) (h2 : o.2.2.2.2.2.2.2.2.2.2.2.2.2.2.2.2.length ≤ 1048576) (h3 : c.2.2.1.2.2.2.2.2.1.length ≤ 1048576) (h4 : c.2.2.2.2.2.2.2.2.1.length ≤ 1048576) (hp : c.2.1.length ≤ 1048576) : m_spec_ItemLine c o = some (lineV c o, ()) := by
  unfold m_spec_ItemLine lineV
  have hl := itemV_len c o
  refine bind_eq (spec_Item c o h1 h2 h3 h4) ?_
  dsimp only
  simp only [nilOf]
  cases itemV c o == [] with
  | true => rfl
  | false =>
    simp only [cond_false]
    have tail : ∀ k : Int, (if List.length (itemV c o) + List.length ([32] : List UInt8) < 2 ^ 63 then
          if List.length (itemV c o ++ [32]) + List.length c.2.1 < 2 ^ 63 then
            Option.bind
              (bif k == 0 then
                if List.length (itemV c o ++ [32] ++ c.2.1) + List.length ([47] : List UInt8) < 2 ^ 63 then
                  some ((itemV c o ++ [32] ++ c.2.1 ++ [47], ()), ())
                else none
              else some ((itemV c o ++ [32] ++ c.2.1, ()), ()))
              (fun s : (List UInt8 × Unit) × Unit => some s.fst)
          else none
        else none) = some (itemV c o ++ [32] ++ c.2.1 ++ cond (k == 0) [47] [], ()) := by
      intro k
      rw [if_pos (by simp only [List.length_cons, List.length_nil]; show _ < 9223372036854775808; omega), if_pos (by simp only [List.length_append, List.length_cons, List.length_nil]; show _ < 9223372036854775808; omega)]
      cases k == 0 with
      | true =>
        simp only [cond_true]
        rw [if_pos (by simp only [List.length_append, List.length_cons, List.length_nil]; show _ < 9223372036854775808; omega)]
        rfl
      | false => simp only [cond_false, List.append_nil]; rfl
    cases c.1 == 0 with
    | true => exact tail _
    | false => exact tail _
end Go.AM
set_option linter.unusedVariables false
set_option linter.unusedSimpArgs false
namespace Go.AM
open Go
/-! ### texts and rows of bytes -/
def iOf (s : List UInt8) : List Int := s.map (fun b => (b.toNat : Int))
theorem iOf_nil : iOf [] = [] := rfl
theorem iOf_app (a b : List UInt8) : iOf (a ++ b) = iOf a ++ iOf b := List.map_append
theorem iOf_len (a : List UInt8) : (iOf a).length = a.length := List.length_map ..
theorem strOf_iOf (s : List UInt8) : strOf (iOf s) = s := by
  unfold strOf iOf
  rw [List.map_map]
  exact (List.map_congr_left (fun x _ => by simp)).trans (List.map_id _)
theorem mapU_iOf (s : List UInt8) : List.map (fun (n : Int) => UInt8.ofNat (Int.toNat n)) (iOf s) = s := strOf_iOf s
/-- A byte that is written as a number. -/
theorem byte_iOf (x : Int) (h0 : 0 ≤ x) (h1 : x < 256) : [x] = iOf [x.toNat.toUInt8] := by
  unfold iOf
  simp only [List.map_cons, List.map_nil]
  congr 1
  show x = ((x.toNat % 256 : Nat) : Int)
  omega
/-! ### numbers of variable length -/
def vB : Nat → Nat → List UInt8
  | 0, x => [x.toUInt8]
  | f + 1, x => cond (decide (x ≥ 128)) ((128 + x % 128).toUInt8 :: vB f (x / 128)) [x.toUInt8]
theorem vB_len : ∀ f x, (vB f x).length ≤ f + 1
  | 0, x => Nat.le_refl _
  | f + 1, x => by
    have := vB_len f (x / 128)
    simp only [vB]
    cases decide (x ≥ 128)
    · rw [cond_false]; simp
    · rw [cond_true, List.length_cons]; omega
def vV (x : Int) : List UInt8 := vB 10 x.toNat
theorem vV_len (x : Int) : (vV x).length ≤ 11 := vB_len 10 _
theorem wrap8 (x : Nat) : IntKind.wrap .u8 (x : Int) = ((x % 256 : Nat) : Int) := by
  simp [IntKind.wrap, IntKind.signed, IntKind.bits]
theorem and127 (x : Nat) (h : x < 9223372036854775808) : bitsOf .and .i64 (x : Int) 127 = ((x % 128 : Nat) : Int) := by
  unfold bitsOf
  have e : (BitVec.ofInt (IntKind.bits .i64) (x : Int) &&& BitVec.ofInt (IntKind.bits .i64) 127).toNat = x % 128 := by
    rw [BitVec.toNat_and, BitVec.toNat_ofInt, BitVec.toNat_ofInt]
    have h1 : ((x : Int) % ((2 ^ IntKind.bits .i64 : Nat) : Int)).toNat = x := by
      show ((x : Int) % 18446744073709551616).toNat = x
      omega
    have h2 : ((127 : Int) % ((2 ^ IntKind.bits .i64 : Nat) : Int)).toNat = 127 := rfl
    rw [h1, h2]
    exact Nat.and_two_pow_sub_one_eq_mod x 7
  show IntKind.wrap .i64 ((BitVec.ofInt (IntKind.bits .i64) (x : Int) &&& BitVec.ofInt (IntKind.bits .i64) 127).toNat : Int) = _
  rw [e, wr _ (by omega)]
theorem or128 (y : Nat) (h : y < 128) : bitsOf .or .u8 (y : Int) 128 = ((128 + y : Nat) : Int) := by
  unfold bitsOf
  have e : (BitVec.ofInt (IntKind.bits .u8) (y : Int) ||| BitVec.ofInt (IntKind.bits .u8) 128).toNat = 128 + y := by
    rw [BitVec.toNat_or, BitVec.toNat_ofInt, BitVec.toNat_ofInt]
    have h1 : ((y : Int) % ((2 ^ IntKind.bits .u8 : Nat) : Int)).toNat = y := by
      show ((y : Int) % 256).toNat = y
      omega
    have h2 : ((128 : Int) % ((2 ^ IntKind.bits .u8 : Nat) : Int)).toNat = 128 := rfl
    rw [h1, h2, Nat.or_comm]
    exact (Nat.two_pow_add_eq_or_of_lt (i := 7) (b := y) h 1).symm
  show IntKind.wrap .u8 ((BitVec.ofInt (IntKind.bits .u8) (y : Int) ||| BitVec.ofInt (IntKind.bits .u8) 128).toNat : Int) = _
  rw [e, wrap8, Nat.mod_eq_of_lt (by omega)]
end Go.AM
set_option linter.unusedVariables false
set_option linter.unusedSimpArgs false
namespace Go.AM
open Go
theorem writeString (a : List UInt8) (s : List Int) (h : s.length + a.length ≤ 140737488355328) : m_strings_Builder_WriteString a () s = some (((a.length : Int), (), ()), (), s ++ iOf a, ()) := by
  unfold m_strings_Builder_WriteString m_strings_Builder_copyCheck
  rw [Option.bind_some]
  dsimp only
  rw [if_pos (by rw [List.length_map]; omega)]
  rfl
theorem builderString (s : List UInt8) (h : s.length ≤ 140737488355328) : m_strings_Builder_String () (iOf s) = some (s, (), [], ()) := by
  unfold m_strings_Builder_String
  rw [if_pos (by rw [iOf_len]; exact h), strOf_iOf]
def dNi : NodeT := (nilOf UInt8, Int.ofNat (nat_lit 0), Int.ofNat (nat_lit 0), Int.ofNat (nat_lit 0), nilOf UInt8, nilOf UInt8, Int.ofNat (nat_lit 0))
def dC : ChangeT := (Int.ofNat (nat_lit 0), nilOf UInt8, dNi, dNi)
def delO (o : OptsT) : Int := o.2.2.2.2.2.2.2.2.2.2.2.2.2.1
def itStep (o : OptsT) (c : ChangeT) (p : List UInt8 × List UInt8) : List UInt8 × List UInt8 :=
  cond (lineV c o == []) p (cond (c.1 == 0 && delO o == 3) (p.1, p.2 ++ (lineV c o ++ [10])) (p.1 ++ (lineV c o ++ [10]), p.2))
def itI (cs : List ChangeT) (o : OptsT) : Nat → List UInt8 × List UInt8
  | 0 => ([], [])
  | i + 1 => itStep o (cs.getD i dC) (itI cs o i)
def ChangeB (c : ChangeT) : Prop := c.2.1.length ≤ 1048576 ∧ NodeB c.2.2.1 ∧ NodeB c.2.2.2
theorem lineV_len (c : ChangeT) (o : OptsT) (h : c.2.1.length ≤ 1048576) : (lineV c o).length ≤ 1048700 := by
  unfold lineV
  have := itemV_len c o
  cases itemV c o == [] with
  | true => exact Nat.zero_le _
  | false =>
    rw [cond_false]
    simp only [List.length_append, List.length_cons, List.length_nil]
    cases (cond (c.1 == 0) c.2.2.1 c.2.2.2).2.1 == 0
    · simp only [cond_false, List.length_nil]; omega
    · simp only [cond_true, List.length_cons, List.length_nil]; omega
theorem itI_len (cs : List ChangeT) (o : OptsT) (h : ∀ c ∈ cs, ChangeB c) : ∀ i, i ≤ cs.length → (itI cs o i).1.length + (itI cs o i).2.length ≤ i * 1048704
  | 0, _ => by simp [itI]
  | i + 1, hi => by
    have ih := itI_len cs o h i (by omega)
    have hl := lineV_len (cs.getD i dC) o (h _ (getD_mem dC (by omega))).1
    simp only [itI, itStep]
    generalize itI cs o i = p at ih ⊢
    generalize lineV (cs.getD i dC) o = ln at hl ⊢
    have e : (i + 1) * 1048704 = i * 1048704 + 1048704 := Nat.succ_mul _ _
    rw [e]
    generalize i * 1048704 = b at ih ⊢
    cases ln == [] with
    | true => rw [cond_true]; omega
    | false =>
      cases ((cs.getD i dC).1 == 0 && delO o == 3) with
      | true => simp only [cond_false, cond_true, List.length_append, List.length_cons, List.length_nil]; omega
      | false => simp only [cond_false, List.length_append, List.length_cons, List.length_nil]; omega
def oc (o : OptsT) := (o.1, o.2.1, o.2.2.1, o.2.2.2.1, o.2.2.2.2.1, o.2.2.2.2.2.1, o.2.2.2.2.2.2.1, o.2.2.2.2.2.2.2.1, o.2.2.2.2.2.2.2.2.1, o.2.2.2.2.2.2.2.2.2.1, o.2.2.2.2.2.2.2.2.2.2.1, o.2.2.2.2.2.2.2.2.2.2.2.1, o.2.2.2.2.2.2.2.2.2.2.2.2.1, o.2.2.2.2.2.2.2.2.2.2.2.2.2.1, o.2.2.2.2.2.2.2.2.2.2.2.2.2.2.1, o.2.2.2.2.2.2.2.2.2.2.2.2.2.2.2.1, o.2.2.2.2.2.2.2.2.2.2.2.2.2.2.2.2, ())
def itemsV (cs : List ChangeT) (o : OptsT) : List UInt8 := cond (decide (cs.length ≤ 1000)) ((itI cs o cs.length).1 ++ (itI cs o cs.length).2) []
theorem impl_Items (cs : List ChangeT) (h : ∀ c ∈ cs, ChangeB c) (o : OptsT) (h1 : o.2.2.2.2.2.2.2.2.2.2.2.2.2.2.2.1.length ≤ 1048576) (h2 : o.2.2.2.2.2.2.2.2.2.2.2.2.2.2.2.2.length ≤ 1048576) : m_impl_Items cs o = some (itemsV cs o, ()) := by
  unfold m_impl_Items itemsV
  by_cases hl : cs.length ≤ 1000
  · rw [decide_eq_false (by omega), cond_false, decide_eq_true hl, cond_true]
    have hlen := fun i hi => itI_len cs o h i hi
    refine bind_eq (loopC_inv _ (fun n t => ∃ i : Nat, t = (((), (), (), cs, (cs.length : Int), (i : Int), ()), oc o, (), iOf (itI cs o i).1, (), iOf (itI cs o i).2, ()) ∧ i ≤ cs.length ∧ n = cs.length - i)
      (fun _ => some (((), (), ()), (), iOf (itI cs o cs.length).1, (), iOf (itI cs o cs.length).2, ())) ?_ _ cs.length _ ⟨0, rfl, by omega, rfl⟩ (by omega)) ?_
    · rintro n t k ⟨i, rfl, hi, rfl⟩ hk
      dsimp only
      by_cases hlt : i < cs.length
      · rw [decide_eq_true (by omega), cond_true, if_pos (by omega), Int.toNat_natCast]
        have hL : m_impl_ItemLine (cs.getD i dC) o = some (lineV (cs.getD i dC) o, ()) := impl_Line _ o h1 h2 (h _ (getD_mem dC hlt)).1
        have hll := lineV_len (cs.getD i dC) o (h _ (getD_mem dC hlt)).1
        have hli := hlen i hi
        refine bind_eq (show m_impl_ItemLine (cs.getD i dC) o = _ from hL) ?_
        dsimp only
        refine bind_eq (x := (((), (), (), cs, (cs.length : Int), (i : Int), ()), oc o, (), iOf (itI cs o (i + 1)).1, (), iOf (itI cs o (i + 1)).2, ())) ?_ ?_
        · simp only [itI, itStep, nilOf]
          cases lineV (cs.getD i dC) o == [] with
          | true => rfl
          | false =>
            simp only [cond_false]
            have hm : (if (lineV (cs.getD i dC) o).length + ([10] : List UInt8).length < 2 ^ 63 then True else False) := by
              rw [if_pos (by show _ < 9223372036854775808; simp only [List.length_cons, List.length_nil]; omega)]; trivial
            have hp : (lineV (cs.getD i dC) o).length + ([10] : List UInt8).length < 2 ^ 63 := by show _ < 9223372036854775808; simp only [List.length_cons, List.length_nil]; omega
            show Option.bind (bif (cs.getD i dC).1 == 0 then some (((), (), (), lineV (cs.getD i dC) o, cs, (cs.length : Int), (i : Int), delO o == 3, ()), oc o, (), iOf (itI cs o i).1, (), iOf (itI cs o i).2, ()) else some (((), (), (), lineV (cs.getD i dC) o, cs, (cs.length : Int), (i : Int), false, ()), oc o, (), iOf (itI cs o i).1, (), iOf (itI cs o i).2, ())) _ = _
            refine bind_eq (x := (((), (), (), lineV (cs.getD i dC) o, cs, (cs.length : Int), (i : Int), (cs.getD i dC).1 == 0 && delO o == 3, ()), oc o, (), iOf (itI cs o i).1, (), iOf (itI cs o i).2, ())) ?_ ?_
            · cases (cs.getD i dC).1 == 0 <;> rfl
            · dsimp only
              cases ((cs.getD i dC).1 == 0 && delO o == 3) with
              | true =>
                simp only [cond_true]
                rw [if_pos hp, writeString _ _ (by rw [iOf_len, List.length_append]; simp only [List.length_cons, List.length_nil]; omega)]
                simp only [Option.bind_some]
                rw [iOf_app (itI cs o i).2]
              | false =>
                simp only [cond_false]
                rw [if_pos hp, writeString _ _ (by rw [iOf_len, List.length_append]; simp only [List.length_cons, List.length_nil]; omega)]
                simp only [Option.bind_some]
                rw [iOf_app (itI cs o i).1]
        · dsimp only
          rw [wr1 i (by omega)]
          exact hk (cs.length - (i + 1)) _ (by omega) ⟨i + 1, rfl, by omega, rfl⟩
      · have : i = cs.length := by omega
        subst this
        rw [decide_eq_false (by omega)]; rfl
    · dsimp only
      have hli := hlen cs.length (by omega)
      rw [builderString _ (by omega), Option.bind_some, builderString _ (by omega), Option.bind_some]
      dsimp only
      rw [if_pos (by show _ < 9223372036854775808; omega)]
  · rw [decide_eq_true (by omega), decide_eq_false hl]; rfl
theorem spec_Items (cs : List ChangeT) (h : ∀ c ∈ cs, ChangeB c) (o : OptsT) (h1 : o.2.2.2.2.2.2.2.2.2.2.2.2.2.2.2.1.length ≤ 1048576) (h2 : o.2.2.2.2.2.2.2.2.2.2.2.2.2.2.2.2.length ≤ 1048576) : m_spec_Items cs o = some (itemsV cs o, ()) := by
  unfold m_spec_Items itemsV
  by_cases hl : cs.length ≤ 1000
  · rw [decide_eq_false (by omega), cond_false, decide_eq_true hl, cond_true]
    have hlen := fun i hi => itI_len cs o h i hi
    refine bind_eq (loopC_inv _ (fun n t => ∃ i : Nat, t = ((cs, (), (itI cs o i).1, (itI cs o i).2, (i : Int), ()), oc o, ()) ∧ i ≤ cs.length ∧ n = cs.length - i)
      (fun _ => some (((itI cs o cs.length).1, (itI cs o cs.length).2, ()), ())) ?_ _ cs.length _ ⟨0, rfl, by omega, rfl⟩ (by simp only [nilOf, List.length_nil]; omega)) ?_
    · rintro n t k ⟨i, rfl, hi, rfl⟩ hk
      dsimp only
      by_cases hlt : i < cs.length
      · rw [decide_eq_true (by omega), cond_true]
        have hC := h _ (getD_mem dC hlt)
        have hL : m_spec_ItemLine (cs.getD i dC) o = some (lineV (cs.getD i dC) o, ()) := spec_Line _ o h1 h2 hC.2.1.2.2 hC.2.2.2.2 hC.1
        have hll := lineV_len (cs.getD i dC) o hC.1
        have hli := hlen i hi
        have hb : (0 : Int) ≤ (i : Int) ∧ (i : Int) < (cs.length : Int) := by omega
        refine bind_eq (x := ((cs, (), (itI cs o (i + 1)).1, (itI cs o (i + 1)).2, (i : Int), ()), oc o, ())) ?_ ?_
        · simp only [if_pos hb, Int.toNat_natCast]
          refine bind_eq (show m_spec_ItemLine (cs.getD i dC) o = _ from hL) ?_
          dsimp only
          simp only [itI, itStep, nilOf]
          cases lineV (cs.getD i dC) o == [] with
          | true => rfl
          | false =>
            simp only [cond_false]
            refine bind_eq (x := ((cs, (), (itI cs o i).1, (itI cs o i).2, (i : Int), lineV (cs.getD i dC) o, (cs.getD i dC).1 == 0 && delO o == 3, ()), oc o, ())) ?_ ?_
            · show (bif delO o == 3 then some ((cs, (), (itI cs o i).1, (itI cs o i).2, (i : Int), lineV (cs.getD i dC) o, (cs.getD i dC).1 == 0, ()), oc o, ()) else _) = _
              cases delO o == 3
              · rw [Bool.and_false]; rfl
              · rw [Bool.and_true]; rfl
            · dsimp only
              cases ((cs.getD i dC).1 == 0 && delO o == 3) with
              | true =>
                simp only [cond_true]
                rw [if_pos (by show _ < 9223372036854775808; omega), if_pos (by show _ < 9223372036854775808; rw [List.length_append]; simp only [List.length_cons, List.length_nil]; omega)]
                simp only [Option.bind_some, List.append_assoc]
              | false =>
                simp only [cond_false]
                rw [if_pos (by show _ < 9223372036854775808; omega), if_pos (by show _ < 9223372036854775808; rw [List.length_append]; simp only [List.length_cons, List.length_nil]; omega)]
                simp only [Option.bind_some, List.append_assoc]
        · dsimp only
          rw [wr1 i (by omega)]
          exact hk (cs.length - (i + 1)) _ (by omega) ⟨i + 1, rfl, by omega, rfl⟩
      · have : i = cs.length := by omega
        subst this
        rw [decide_eq_false (by omega)]; rfl
    · dsimp only
      have hli := hlen cs.length (by omega)
      rw [if_pos (by show _ < 9223372036854775808; omega)]
  · rw [decide_eq_true (by omega), decide_eq_false hl]; rfl
def ChangeH (c : ChangeT) : Prop := c.2.1.length ≤ 9223372036854775807 ∧ NodeH c.2.2.1 ∧ NodeH c.2.2.2
theorem szChangeS_eq (l : List ChangeT) (hl : l.length ≤ 9223372036854775807) (h : ∀ e ∈ l, ChangeH e) : ∃ m, m_laws_szChangeS l 1048576 = some (m, ()) ∧ (0 ≤ m → m ≤ 1048576 - l.length ∧ ∀ e ∈ l, ChangeB e) :=
  szS_eq m_laws_szChange dC ChangeH ChangeB (fun x n hx h0 h1 => szChange_eq x n hx.1 hx.2.1 hx.2.2 h0 h1) l h hl 1048576 (by omega)
theorem toChangeS_eq (l : List ChangeT) (hl : l.length ≤ 1048576) : m_laws_toChangeS l = some (l, ()) := toS_eq m_laws_toChange dC 184 (fun _ => rfl) l hl (by omega)
theorem eqNode_self (e : NodeT) : m_laws_eqNode e e = some (true, ()) := by unfold m_laws_eqNode; simp
theorem eqChange_eq (e : ChangeT) : m_laws_eqChange e e = some (true, ()) := by unfold m_laws_eqChange; simp [eqNode_self]
theorem eqChangeS_eq (l : List ChangeT) (hl : l.length ≤ 1048576) : m_laws_eqChangeS l l = some (true, ()) := eqS_eq m_laws_eqChange dC eqChange_eq l (by omega)
theorem law_Items (l : List ChangeT) (hl : l.length ≤ 9223372036854775807) (h : ∀ e ∈ l, ChangeH e) (o : OptsT)
    (h1 : o.2.2.2.2.2.2.2.2.2.2.2.2.2.2.2.1.length ≤ 9223372036854775807) (h2 : o.2.2.2.2.2.2.2.2.2.2.2.2.2.2.2.2.length ≤ 9223372036854775807) : m_laws_FnExactItems l o = some (true, ()) := by
  unfold m_laws_FnExactItems
  obtain ⟨m, e, hm⟩ := szChangeS_eq l hl h
  refine bind_eq e ?_
  dsimp only
  by_cases q : m < 0
  · rw [decide_eq_true q]; rfl
  rw [decide_eq_false q, cond_false]
  obtain ⟨g1, g2⟩ := hm (by omega)
  have hl' : l.length ≤ 1048576 := by omega
  obtain ⟨m', e', hm'⟩ := szOpts_eq o m (by omega) h1 h2
  refine bind_eq e' ?_
  dsimp only
  by_cases q' : m' < 0
  · rw [decide_eq_true q']; rfl
  rw [decide_eq_false q', cond_false]
  have hm' := hm' (by omega)
  rw [toChangeS_eq l hl', toOpts_eq]
  simp only [Option.bind_some]
  rw [spec_Items l g2 o (by omega) (by omega), impl_Items l g2 o (by omega) (by omega)]
  simp [eqChangeS_eq l hl']
end Go.AM
