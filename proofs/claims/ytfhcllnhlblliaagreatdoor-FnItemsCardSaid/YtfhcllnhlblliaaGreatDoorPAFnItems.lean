/- The plain law: the model of the law answers true. -/
import Derived.Test.YtfhcllnhlblliaaGreatDoorMoFnItems
set_option linter.unusedVariables false
set_option linter.unusedSimpArgs false
namespace Go.AM
open Go
theorem qu {S α : Type} (F : S -> (S -> Option α) -> Option α) (I : Nat -> S -> Prop) (g : S -> Option α)
    (h : ∀ n s k, I n s -> (∀ m s', m < n -> I m s' -> k s' = g s') -> F s k = g s) : ∀ fuel n s, I n s -> n < fuel -> qT fuel F s = g s := by
 intro fuel
 induction fuel with
 | zero => intro n s _ h0; omega
 | succ f ih => intro n s hI hn; exact h n s _ hI (fun m s' hm hI' => ih m s' hI' (by omega))
theorem wr (x : Int) (h : -9223372036854775808 <= x /\ x <= 9223372036854775807) : IntKind.wrap .i64 x = x := by
 simp [IntKind.wrap, IntKind.signed, IntKind.bits]; omega
theorem qjc {S α : Type} (F : S -> (S -> Option α) -> Option α) (I : Nat -> S -> Prop) (Q : α -> Prop)
    (h : ∀ n s k, I n s -> (∀ m s', m < n -> I m s' -> ∃ r, k s' = some r /\ Q r) -> ∃ r, F s k = some r /\ Q r) : ∀ fuel n s, I n s -> n < fuel -> ∃ r, qT fuel F s = some r /\ Q r := by
 intro fuel
 induction fuel with
 | zero => intro n s _ h0; omega
 | succ f ih => intro n s hI hn; exact h n s _ hI (fun m s' hm hI' => ih m s' hI' (by omega))
theorem qb {α β : Type} {o : Option α} {f : α -> Option β} {Q : α -> Prop} {R : β -> Prop} (h : ∃ r, o = some r /\ Q r) (h2 : ∀ r, Q r -> ∃ t, f r = some t /\ R t) : ∃ t, Option.bind o f = some t /\ R t := by
 obtain ⟨r, rfl, hq⟩ := h
 exact h2 r hq
theorem qz {α β : Type} {o : Option α} {f : α -> Option β} {x : α} {r : Option β} (h : o = some x) (h2 : f x = r) : Option.bind o f = r := by rw [h]; exact h2
theorem ql {α β : Type} {o x : Option α} {f : α -> Option β} {r : Option β} (h : o = x) (h2 : Option.bind x f = r) : Option.bind o f = r := by rw [h]; exact h2
theorem qft {α β : Type} {o : Option α} {f : α -> Option β} {Q : α -> Prop} {r : Option β} (h : ∃ x, o = some x /\ Q x) (h2 : ∀ x, Q x -> f x = r) : Option.bind o f = r := by obtain ⟨x, rfl, hq⟩ := h; exact h2 x hq
theorem qbb {S α : Type} {o x : Option (S ⊕ α)} {k : S -> Option α} {r : Option α} (h : o = x) (h2 : qVb x k = r) : qVb o k = r := by rw [h]; exact h2
theorem wr1 (i : Nat) (h : i <= 4611686018427387904) : IntKind.wrap .i64 ((i : Int) + 1) = ((i + 1 : Nat) : Int) := by rw [wr _ (by omega)]; rfl
theorem qEk {S α : Type} {o : Option (S ⊕ α)} {k : S -> Option α} {s : S} (h : o = some (.inl s)) : qVb o k = k s := by rw [h]; rfl
def qHr : Nat -> Nat -> List Bool -> List Bool
 | 0, _, s => s
 | n + 1, i, s => qHr n (i + 1) (s.set i true)
theorem qWh : ∀ n i s, (qHr n i s).length = s.length
 | 0, _, _ => rfl
 | n + 1, i, s => by rw [qHr, qWh n]; simp
def by8 (p : List UInt8) (i : Nat) : Nat := (p.getD i 0).toNat
theorem qUj (p i) : by8 p i < 256 := (p.getD i 0).toNat_lt
def cls (p : List UInt8) (i : Nat) (first : Bool) (s : List Bool) : Nat × List Bool :=
 if i < p.length /\ (first = true ∨ by8 p i ≠ 93) then
  if i + 2 < p.length /\ by8 p (i + 1) = 45 /\ by8 p (i + 2) ≠ 93 then cls p (i + 3) false (qHr (by8 p (i + 2) + 1 - by8 p i) (by8 p i) s)
  else cls p (i + 1) false (s.set (by8 p i) true)
 else (i, s)
termination_by p.length - i
def okCh (c : Int) : Bool := (decide (c >= 97) && decide (c <= 122)) || ((decide (c >= 65) && decide (c <= 90)) || ((decide (c >= 48) && decide (c <= 57)) || (c == 46 || (c == 95 || c == 45))))
def okB (b : UInt8) : Bool := okCh (b.toNat : Int)
def qCb (s : List UInt8) : Bool := (decide (1 <= s.length) && decide (s.length <= 20)) && (!(s == [46]) && (!(s == [46, 46]) && s.all okB))
theorem qyu (x a b : Int) : qD x a b = some (decide (x >= a) && decide (x <= b), ()) := by
 unfold qD; cases decide (x >= a) <;> rfl
theorem qrg (x a b : Int) : qcb x a b = some (decide (x >= a) && decide (x <= b), ()) := by
 unfold qcb; cases decide (x >= a) <;> rfl
theorem qfm {α : Type} (p : α -> Bool) (d : α) {s : List α} {i : Nat} (h : i < s.length) : (s.drop i).all p = (p (s.getD i d) && (s.drop (i + 1)).all p) := by
 rw [List.drop_eq_getElem_cons h, List.all_cons, List.getD_eq_getElem?_getD, List.getElem?_eq_getElem h]; rfl
theorem qUx (s : List UInt8) : decide ((s.length : Int) >= 1) = decide (1 <= s.length) := decide_eq_decide.2 (by omega)
theorem qRx (s : List UInt8) : decide ((s.length : Int) <= 20) = decide (s.length <= 20) := decide_eq_decide.2 (by omega)
theorem qoj (s : List UInt8) (hs : s.length <= 1099511627776) : qJc s = some (qCb s, ()) := by
 unfold qJc
 rw [qyu, Option.bind_some, qUx, qRx]
 unfold qCb
 cases h1 : (decide (1 <= s.length) && decide (s.length <= 20)) with
 | false => rfl
 | true =>
  simp only [Bool.not_true, cond_false, Bool.true_and];cases h2 : (s == [46]) with
  | true => rfl
  | false =>
   simp only [cond_false, Bool.not_false, Bool.true_and];cases h3 : (s == [46, 46]) with
   | true => rfl
   | false =>
    simp only [Option.bind_some, cond_false, Bool.not_false, Bool.true_and];refine qbb (qu _ (fun n t => ∃ i : Nat, t = ((s, (i : Int), ()), ()) /\ i <= s.length /\ n = s.length - i)
     (fun t => some (if (s.drop t.1.2.1.toNat).all okB then .inl ((), ()) else .inr (false, ()))) ?_ _ s.length _ ⟨0, rfl, by omega, rfl⟩ (by omega)) ?_
    rotate_left
    .show qVb (some (if (s.drop 0).all okB = true then _ else _)) _ = _
     rw [List.drop_zero];cases s.all okB <;> rfl
    .rintro n t k ⟨i, rfl, hi, rfl⟩ hk
     dsimp only
     by_cases hl : i < s.length
     .have hx : 0 <= (i : Int) /\ (i : Int) < (s.length : Int) := by omega
      rw [decide_eq_true (by omega), cond_true, if_pos hx];refine qz (x := ((s, (i : Int), !okB (s.getD i 0), ()), ())) ?_ ?_
      .simp only [qyu, Option.bind_some, if_pos hx, bne, okB, okCh, Int.toNat_natCast]
       have hb : (s.getD i 0).toNat < 256 := UInt8.toNat_lt _;rw [wr _ (by omega)];generalize ((s.getD i 0).toNat : Int) = c;cases decide (c >= 97) <;> cases decide (c <= 122) <;> cases decide (c >= 65) <;> cases decide (c <= 90) <;> cases decide (c >= 48) <;> cases decide (c <= 57) <;> cases c == 46 <;> cases c == 95 <;> cases c == 45 <;> rfl
      .dsimp only
       rw [Int.toNat_natCast, qfm okB 0 hl];cases okB (s.getD i 0) with
       | false => rfl
       | true =>
        show k _ = _
        rw [wr1 i (by omega)];exact hk (s.length - (i + 1)) _ (by omega) ⟨i + 1, rfl, by omega, rfl⟩
     .rw [decide_eq_false (by omega), cond_false, Int.toNat_natCast, List.drop_eq_nil_of_le (by omega)]
      rfl
theorem qom (s : List UInt8) (hs : s.length <= 1099511627776) : qEe s = some (qCb s, ()) := by
 unfold qEe
 refine qbb (qu _ (fun n t => ∃ i : Nat, t = ((s, (s.length : Int), (i : Int), ()), ()) /\ i <= s.length /\ n = s.length - i)
         (fun t => some (if (s.drop t.1.2.2.1.toNat).all okB then .inl ((s, ()), ()) else .inr (false, ()))) ?_ _ s.length _ ⟨0, rfl, by omega, rfl⟩ (by omega)) ?_
 rotate_left
 .show qVb (some (if (s.drop 0).all okB = true then _ else _)) _ = _
  rw [List.drop_zero];unfold qCb;cases s.all okB with
  | false => simp only [Bool.and_false]; rfl
  | true =>
   show Option.bind (Option.bind (qcb _ _ _) _) _ = _
   rw [qrg, Option.bind_some, qUx, qRx];dsimp only;cases (decide (1 <= s.length) && decide (s.length <= 20)) <;> cases s == [46] <;> cases s == [46, 46] <;> rfl
 .rintro n t k ⟨i, rfl, hi, rfl⟩ hk
  dsimp only
  by_cases hl : i < s.length
  .have hx : 0 <= (i : Int) /\ (i : Int) < (s.length : Int) := by omega
   rw [decide_eq_true (by omega), cond_true, if_pos hx];refine qz (x := ((s, (s.length : Int), (i : Int), !okB (s.getD i 0), ()), ())) ?_ ?_
   .simp only [okB, okCh, Int.toNat_natCast]
    cases decide ((((s.getD i 0).toNat : Nat) : Int) >= 97) <;> cases decide ((((s.getD i 0).toNat : Nat) : Int) <= 122) <;> cases decide ((((s.getD i 0).toNat : Nat) : Int) >= 65) <;> cases decide ((((s.getD i 0).toNat : Nat) : Int) <= 90) <;> cases decide ((((s.getD i 0).toNat : Nat) : Int) >= 48) <;> cases decide ((((s.getD i 0).toNat : Nat) : Int) <= 57) <;> cases (((s.getD i 0).toNat : Nat) : Int) == 46 <;> cases (((s.getD i 0).toNat : Nat) : Int) == 95 <;> cases (((s.getD i 0).toNat : Nat) : Int) == 45 <;> rfl
   .dsimp only
    rw [Int.toNat_natCast, qfm okB 0 hl];cases okB (s.getD i 0) with
    | false => rfl
    | true =>
     show k _ = _
     rw [wr1 i (by omega)];exact hk (s.length - (i + 1)) _ (by omega) ⟨i + 1, rfl, by omega, rfl⟩
  .rw [decide_eq_false (by omega), cond_false, Int.toNat_natCast, List.drop_eq_nil_of_le (by omega)]
   rfl
def split : List UInt8 -> List (List UInt8)
 | [] => [[]]
 | c :: r => if c = 47 then [] :: split r else match split r with
  | [] => [[c]]
  | h :: t => (c :: h) :: t
def prep (x : List UInt8) : List (List UInt8) -> List (List UInt8)
 | [] => [x]
 | h :: t => (x ++ h) :: t
theorem qHc (s : List UInt8) : split s ≠ [] := by
 cases s with
 | nil => simp [split]
 | cons c r => unfold split; split; simp; split <;> simp
theorem qQb {c : UInt8} {r : List UInt8} (h : c = 47) : split (c :: r) = [] :: split r := by rw [split, if_pos h]
theorem qlb {c : UInt8} {r : List UInt8} (h : c ≠ 47) : split (c :: r) = prep [c] (split r) := by
 rw [split, if_neg h]; unfold prep; rcases split r with _ | ⟨h, t⟩ <;> rfl
theorem qov (x y : List UInt8) (l : List (List UInt8)) (h : l ≠ []) : prep x (prep y l) = prep (x ++ y) l := by
 cases l with
 | nil => exact absurd rfl h
 | cons a t => simp [prep]
theorem qym : ∀ s : List UInt8, (split s).length <= s.length + 1
 | [] => by simp [split]
 | c :: r => by
  have := qym r
  by_cases h : c = 47
  .rw [qQb h]; simp; omega
  .rw [qlb h]; unfold prep; split <;> simp_all; omega
theorem qDq {s : List UInt8} {i : Nat} (h : i < s.length) : s.drop i = s.getD i 0 :: s.drop (i + 1) := by
 rw [List.drop_eq_getElem_cons h, List.getD_eq_getElem?_getD, List.getElem?_eq_getElem h]; rfl
theorem qMv {s : List UInt8} {i f : Nat} (h : i < s.length) (hf : f <= i) : (s.take (i + 1)).drop f = (s.take i).drop f ++ [s.getD i 0] := by
 rw [List.take_add_one, List.drop_append_of_le_length (by simp; omega), List.getD_eq_getElem?_getD, List.getElem?_eq_getElem h]; rfl
theorem qkp (s : List UInt8) (hs : s.length <= 8796093022206) : qld s = some (split s, ()) := by
 unfold qld
 refine qft (qjc _ (fun n t => ∃ (f i : Nat) (o : List (List UInt8)), t = ((s, (), (f : Int), (i : Int), ()), o, ()) /\ f <= i /\ i <= s.length /\ o.length <= i /\ o ++ prep ((s.take i).drop f) (split (s.drop i)) = split s /\ n = s.length - i)
  (fun r => ∃ (f : Nat) (o : List (List UInt8)), r = ((s, (), (f : Int), ()), o, ()) /\ f <= s.length /\ o.length <= s.length /\ o ++ [s.drop f] = split s) ?_ _ s.length _ ⟨0, 0, [], rfl, by omega, by omega, by simp, ?_, rfl⟩ (by omega)) ?_
 rotate_left 2
 .rintro r ⟨f, o, rfl, h1, h2, h3⟩
  dsimp only;rw [if_pos (by omega), if_pos (by simp only [List.length_cons, List.length_nil]; omega)];rw [Int.toNat_natCast, Int.toNat_natCast, List.take_length, h3]
 .rintro n t k ⟨f, i, o, rfl, hf, hi, ho, he, rfl⟩ hk
  dsimp only
  by_cases hl : i < s.length
  .have hx : 0 <= (i : Int) /\ (i : Int) < (s.length : Int) := by omega
   rw [decide_eq_true (by omega), cond_true, if_pos hx];simp only [Int.toNat_natCast];have hd := qDq hl;rw [hd] at he
   by_cases hc : s.getD i 0 = 47
   .rw [show (((s.getD i 0).toNat : Int) == 47) = true by rw [hc]; rfl, cond_true, if_pos (by omega), if_pos (by simp only [List.length_cons, List.length_nil]; omega), Option.bind_some]
    dsimp only;rw [wr1 i (by omega)];refine hk (s.length - (i + 1)) _ (by omega) ⟨i + 1, i + 1, _, rfl, by omega, by omega, by simp; omega, ?_, rfl⟩;rw [qQb hc] at he;rw [<- he, List.append_assoc, show (s.take (i + 1)).drop (i + 1) = [] from List.drop_eq_nil_of_le (by rw [List.length_take]; omega)];unfold prep;rcases hsp : split (s.drop (i + 1)) with _ | ⟨a, b⟩
    .exact absurd hsp (qHc _)
    .simp
   .rw [show (((s.getD i 0).toNat : Int) == 47) = false by
     rw [beq_eq_false_iff_ne]; intro h; exact hc (UInt8.toNat.inj (by show _ = 47; omega)), cond_false, Option.bind_some]
    dsimp only;rw [wr1 i (by omega)];refine hk (s.length - (i + 1)) _ (by omega) ⟨f, i + 1, _, rfl, by omega, by omega, by omega, ?_, rfl⟩;rw [qlb hc, qov _ _ _ (qHc _)] at he;rw [qMv hl hf];exact he
  .rw [decide_eq_false (by omega), cond_false]
   refine ⟨_, rfl, f, o, rfl, by omega, by omega, ?_⟩;rw [<- he, List.drop_eq_nil_of_le (by omega : s.length <= i), List.take_of_length_le (by omega)];simp [split, prep]
 .simp only [List.drop_zero, List.nil_append, List.take_zero, List.drop_nil]
  rcases hsp : split s with _ | ⟨a, b⟩
  .exact absurd hsp (qHc _)
  .rfl
theorem qMm (s : List UInt8) : (Go.Lib.indexByte s 47 = -1 /\ split s = [s]) ∨ ∃ k : Nat, k < s.length /\ Go.Lib.indexByte s 47 = k /\ split s = s.take k :: split (s.drop (k + 1)) /\ s.count 47 = (s.drop (k + 1)).count 47 + 1 := by
 induction s with
 | nil => exact .inl ⟨rfl, rfl⟩
 | cons c r ih =>
  by_cases hc : c = 47
  .refine .inr ⟨0, by simp, ?_, ?_, ?_⟩
   .rw [hc]; rfl
   .rw [qQb hc]; rfl
   .rw [hc]; simp
  .have hb : (c == 47) = false := by simp [hc]
   rcases ih with ⟨h1, h2⟩ | ⟨k, hk, h1, h2, h3⟩
   .refine .inl ⟨?_, ?_⟩
    .unfold Go.Lib.indexByte; rw [hb, h1]; rfl
    .rw [qlb hc, h2]; rfl
   .refine .inr ⟨k + 1, by simp; omega, ?_, ?_, ?_⟩
    .unfold Go.Lib.indexByte; rw [hb, h1]
     have : ((k : Int) == -1) = false := by rw [beq_eq_false_iff_ne]; omega
     simp [this]
    .rw [qlb hc, h2]; rfl
    .rw [List.count_cons, hb, h3]; simp
theorem qZs (s : List UInt8) : (split s).length = s.count 47 + 1 := by
 induction s with
 | nil => rfl
 | cons c r ih =>
  by_cases hc : c = 47
  .rw [qQb hc, hc]; simp [ih]
  .rw [qlb hc, List.count_cons]
   have hb : (c == 47) = false := by simp [hc]
   unfold prep;rcases hsp : split r with _ | ⟨a, b⟩
   .exact absurd hsp (qHc _)
   .rw [hsp] at ih; simp [hb] at ih ⊢; omega
theorem qex (s : List UInt8) : qBe s = some (Go.Lib.indexByte s 47, ()) := by
 unfold qBe qle
 by_cases h : s = [47]
 .subst h; rfl
 .rw [show (([47] : List UInt8) == s) = false by rw [beq_eq_false_iff_ne]; exact fun h' => h h'.symm]
  rfl
theorem qds (s : List UInt8) (hs : s.length <= 8796093022206) : qfd s = some (split s, ()) := by
 unfold qfd
 refine qz (x := (((s.count 47 : Nat) : Int), ())) rfl ?_
 have hcl : s.count 47 <= s.length := List.count_le_length
 dsimp only
 rw [wr ((s.length : Int) + 1) (by omega), wr (((s.count 47 : Nat) : Int) + 1) (by omega), if_neg (show ¬((s.length : Int) + 1 < ((s.count 47 : Nat) : Int) + 1) by omega), if_pos (by omega), wr (((s.count 47 : Nat) : Int) + 1 - 1) (by omega)]
 have hn : (((s.count 47 : Nat) : Int) + 1).toNat = s.count 47 + 1 := by omega
 rw [hn]
 refine qft (qjc _ (fun n t => ∃ (r : List UInt8) (i : Nat) (a : List (List UInt8)), t = ((r, (), (), ((s.count 47 : Nat) : Int) + 1 - 1, (), (i : Int), ()), a, ()) /\ i + r.count 47 = s.count 47 /\ r.length <= s.length /\ a.length = s.count 47 + 1 /\ a.take i ++ split r = split s /\ n = r.length)
  (fun t => ∃ (r : List UInt8) (i : Nat) (a : List (List UInt8)), t = ((r, (), (i : Int), ()), a, ()) /\ i <= s.count 47 /\ a.length = s.count 47 + 1 /\ a.take i ++ [r] = split s) ?_ _ s.length _ ⟨s, 0, _, rfl, by omega, by omega, by simp, rfl, rfl⟩ (by omega)) ?_
 .rintro n t k ⟨r, i, a, rfl, h1, h2, h3, h4, rfl⟩ hk
  dsimp only
  by_cases hl : i < s.count 47
  .rw [decide_eq_true (by omega), cond_true, qex, Option.bind_some]
   dsimp only;rcases qMm r with ⟨g1, g2⟩ | ⟨m, hm, g1, g2, g3⟩
   .rw [g1, decide_eq_true (by omega), cond_true]
    exact ⟨_, rfl, r, i, a, rfl, by omega, h3, by rw [g2] at h4; exact h4⟩
   .rw [g1, decide_eq_false (by omega), cond_false, wr ((m : Int) + 0) (by omega)]
    simp only [List.length_cons, List.length_nil];rw [show ((0 + 1 : Nat) : Int) = 1 from rfl, wr1 m (by omega), if_pos (by omega), if_pos (by omega), if_pos (by omega), if_pos (by omega), wr1 i (by omega)];refine hk (r.drop (m + 1)).length _ (by rw [List.length_drop]; omega) ⟨r.drop (m + 1), i + 1, a.set i (r.take m), ?_, by omega, by rw [List.length_drop]; omega, ?_, ?_, rfl⟩
    .simp only [Int.toNat_natCast, List.take_length, Int.add_zero]; rfl
    .rw [List.length_set]; exact h3
    .rw [List.take_add_one, List.take_set_of_le (by omega), <- h4, g2]
     rw [List.getElem?_set_self (by omega)];simp
  .rw [decide_eq_false (by omega), cond_false]
   refine ⟨_, rfl, r, i, a, rfl, by omega, h3, ?_⟩;rcases qMm r with ⟨g1, g2⟩ | ⟨m, hm, g1, g2, g3⟩
   .rw [g2] at h4; exact h4
   .omega
 .rintro t ⟨r, i, a, rfl, h1, h2, h3⟩
  dsimp only;rw [if_pos (by omega), if_pos (by omega), wr1 i (by omega), if_pos (by rw [List.length_set]; omega)];rw [Int.toNat_natCast, Int.toNat_natCast, List.take_add_one, List.take_set_of_le (by omega), List.getElem?_set_self (by omega)]
  show some (a.take i ++ [r], ()) = _
  rw [h3]
theorem qax (s : List UInt8) (hs : s.length <= 8796093022206) : qWe s = some (split s, ()) := by
 unfold qWe; rw [qds s hs]; rfl
def names (s : List UInt8) : List (List UInt8) := if s.length <= 168 /\ (split s).length <= 8 /\ (split s).all qCb = true then split s else []
def qj (s : List UInt8) : Bool := decide (s.length <= 168) && (decide ((split s).length <= 8) && (split s).all qCb)
theorem qOi (s : List UInt8) : names s = if qj s then split s else [] := by
 unfold names qj
 by_cases h1 : s.length <= 168 <;> by_cases h2 : (split s).length <= 8 <;> by_cases h3 : (split s).all qCb = true <;> simp [h1, h2, h3]
theorem qNj (s : List UInt8) : ∀ x ∈ split s, x.length <= s.length := by
 induction s with
 | nil => intro x hx; simp [split] at hx; subst hx; simp
 | cons c r ih =>
  intro x hx
  by_cases hc : c = 47
  .rw [qQb hc] at hx
   rcases List.mem_cons.1 hx with rfl | hx
   .simp
   .have := ih x hx; simp; omega
  .rw [qlb hc] at hx
   unfold prep at hx;rcases hsp : split r with _ | ⟨a, b⟩
   .exact absurd hsp (qHc _)
   .rw [hsp] at hx ih
    rcases List.mem_cons.1 hx with rfl | hx
    .have := ih a (by simp); simp; omega
    .have := ih x (by simp [hx]); simp; omega
theorem qrr (s : List UInt8) : s.length + 1 = ((split s).map (fun x => x.length + 1)).sum := by
 induction s with
 | nil => rfl
 | cons c r ih =>
  by_cases hc : c = 47
  .rw [qQb hc]; simp at ih ⊢; omega
  .rw [qlb hc]; unfold prep
   rcases hsp : split r with _ | ⟨a, b⟩
   .exact absurd hsp (qHc _)
   .rw [hsp] at ih; simp at ih ⊢; omega
theorem qDy {l : List (List UInt8)} (h : l.all qCb = true) : (l.map (fun x => x.length + 1)).sum <= 21 * l.length := by
 induction l with
 | nil => simp
 | cons a t ih =>
  rw [List.all_cons, Bool.and_eq_true] at h;have := ih h.2;have h1 := h.1;unfold qCb at h1;simp only [Bool.and_eq_true, decide_eq_true_eq] at h1;simp; omega
theorem qBx {s : List UInt8} (h1 : (split s).length <= 8) (h2 : (split s).all qCb = true) : s.length <= 167 := by
 have := qrr s; have := qDy h2; omega
theorem qMb (s : List UInt8) : qQ s = some (qj s, ()) := by
 unfold qQ
 by_cases hs : s.length <= 200
 .rw [decide_eq_false (by omega), cond_false, qkp s (by omega), Option.bind_some]
  have hl := qym s;refine qbb (qu _ (fun n t => ∃ i : Nat, t = ((split s, (i : Int), ()), ()) /\ i <= (split s).length /\ n = (split s).length - i)
        (fun t => some (if ((split s).drop t.1.2.1.toNat).all qCb then .inl ((split s, ()), ()) else .inr (false, ()))) ?_ _ (split s).length _ ⟨0, rfl, by omega, rfl⟩ (by show _ < (split s).length + _ + _; omega)) ?_
  .rintro n t k ⟨i, rfl, hi, rfl⟩ hk
   dsimp only
   by_cases hl2 : i < (split s).length
   .rw [decide_eq_true (by omega), cond_true, if_pos (by omega), Int.toNat_natCast, qfm qCb (qc UInt8) hl2]
    have hm : ((split s).getD i (qc UInt8)).length <= s.length := by
     rw [List.getD_eq_getElem?_getD, List.getElem?_eq_getElem hl2]; exact qNj s _ (List.getElem_mem hl2)
    rw [qoj _ (by omega), Option.bind_some];dsimp only;cases qCb ((split s).getD i (qc UInt8)) with
    | false => rfl
    | true =>
     show k _ = _
     rw [wr1 i (by omega)];exact hk ((split s).length - (i + 1)) _ (by omega) ⟨i + 1, rfl, by omega, rfl⟩
   .rw [decide_eq_false (by omega), cond_false, Int.toNat_natCast, List.drop_eq_nil_of_le (by omega)]
    rfl
  .show qVb (some (if ((split s).drop 0).all qCb = true then _ else _)) _ = _
   rw [List.drop_zero];unfold qj;cases h2 : (split s).all qCb with
   | false => simp; rfl
   | true =>
    show some (decide (((split s).length : Int) <= 8), ()) = _
    by_cases h1 : (split s).length <= 8
    .have := qBx h1 h2
     rw [decide_eq_true (by omega), decide_eq_true (by omega), decide_eq_true h1]; rfl
    .rw [decide_eq_false (by omega), decide_eq_false h1]; simp
 .rw [decide_eq_true (by omega), cond_true]
  unfold qj;rw [decide_eq_false (by omega), Bool.false_and]
theorem qQu (s : List UInt8) : qNg s = some (names s, ()) := by
 unfold qNg
 by_cases hs : s.length <= 168
 .rw [decide_eq_false (by omega), cond_false, qax s (by omega), Option.bind_some]
  have hl := qym s;dsimp only
  by_cases h1 : (split s).length <= 8
  .rw [decide_eq_false (by omega), cond_false]
   refine qbb (qu _ (fun n t => ∃ i : Nat, t = ((split s, split s, ((split s).length : Int), (i : Int), ()), ()) /\ i <= (split s).length /\ n = (split s).length - i)
       (fun t => some (if ((split s).drop t.1.2.2.2.1.toNat).all qCb then .inl ((split s, ()), ()) else .inr ([], ()))) ?_ _ (split s).length _ ⟨0, rfl, by omega, rfl⟩ (by omega)) ?_
   .rintro n t k ⟨i, rfl, hi, rfl⟩ hk
    dsimp only
    by_cases hl2 : i < (split s).length
    .rw [decide_eq_true (by omega), cond_true, if_pos (by omega), Int.toNat_natCast, qfm qCb (qc UInt8) hl2]
     have hm : ((split s).getD i (qc UInt8)).length <= s.length := by
      rw [List.getD_eq_getElem?_getD, List.getElem?_eq_getElem hl2]; exact qNj s _ (List.getElem_mem hl2)
     rw [qom _ (by omega), Option.bind_some];dsimp only;cases qCb ((split s).getD i (qc UInt8)) with
     | false => rfl
     | true =>
      show k _ = _
      rw [wr1 i (by omega)];exact hk ((split s).length - (i + 1)) _ (by omega) ⟨i + 1, rfl, by omega, rfl⟩
    .rw [decide_eq_false (by omega), cond_false, Int.toNat_natCast, List.drop_eq_nil_of_le (by omega)]
     rfl
   .show qVb (some (if ((split s).drop 0).all qCb = true then _ else _)) _ = _
    rw [List.drop_zero];unfold names;cases h2 : (split s).all qCb with
    | false => simp; rfl
    | true => rw [if_pos (show s.length <= 168 /\ (split s).length <= 8 /\ true = true from And.intro hs (And.intro h1 rfl))]; rfl
  .rw [decide_eq_true (by omega), cond_true]
   unfold names;rw [if_neg (fun h => h1 h.2.1)]
 .rw [decide_eq_true (by omega), cond_true]
  unfold names;rw [if_neg (fun h => hs h.1)]
theorem qRn (s : List UInt8) : qGd s = some (qj s, ()) := by
 unfold qGd
 rw [qQu, Option.bind_some, qOi]
 cases qj s with
 | false => rfl
 | true =>
  show some (decide (((split s).length : Int) > 0), ()) = _
  rw [decide_eq_true (by have := List.length_pos_iff.2 (qHc s); omega)]
section
variable {α : Type}
theorem qZb {l : List α} {i : Nat} (d : α) (h : i < l.length) : l.getD i d ∈ l := by
 rw [List.getD_eq_getElem?_getD, List.getElem?_eq_getElem h]; exact List.getElem_mem h
theorem qVq {l : List α} {i : Nat} (d : α) (h : i < l.length) : l.drop i = l.getD i d :: l.drop (i + 1) := by
 rw [List.drop_eq_getElem_cons h, List.getD_eq_getElem?_getD, List.getElem?_eq_getElem h]; rfl
theorem qdi {S R : Type} (F : S -> (S -> Option R) -> Option R) (st : Nat -> S) (len : Nat) (ok : Nat -> Bool) (yes no : R)
    (hstep : ∀ i k, i < len -> F (st i) k = cond (ok i) (k (st (i + 1))) (some no)) (hend : ∀ k, F (st len) k = some yes) (fuel : Nat) (hf : len < fuel) :
    qT fuel F (st 0) = some (cond ((List.range len).all ok) yes no) := by
 have key := qu F (fun n s => ∃ i, i <= len /\ s = st i /\ n = len - i /\ ∀ j, j < i -> ok j = true) (fun _ => some (cond ((List.range len).all ok) yes no)) (by
  rintro n s k ⟨i, hi, rfl, rfl, hj⟩ hk
  by_cases hlt : i < len
  .rw [hstep i k hlt]
   cases ho : ok i with
   | false =>
    have : (List.range len).all ok = false := by
     rw [List.all_eq_false]; exact ⟨i, List.mem_range.2 hlt, by simp [ho]⟩
    rw [this]; rfl
   | true =>
    rw [cond_true];refine hk (len - (i + 1)) _ (by omega) ⟨i + 1, by omega, rfl, rfl, fun j hj' => ?_⟩
    by_cases h : j = i
    .subst h; exact ho
    .exact hj j (by omega)
  .have : i = len := by omega
   subst this;rw [hend];have : (List.range i).all ok = true := by rw [List.all_eq_true]; exact fun j hj' => hj j (List.mem_range.1 hj')
   rw [this]; rfl)
 exact key fuel len _ ⟨0, by omega, rfl, by omega, fun j hj => by omega⟩ hf
end
abbrev qa := List UInt8 × (Int × (Int × (Int × (List UInt8 × (List UInt8 × Int)))))
def inI (x a b : Int) : Bool := decide (x >= a) && decide (x <= b)
def qbc (k m : Int) (data target : List UInt8) (g : Int) : Bool :=
 cond (k == 0) (data == [] && (target == [] && g == 0)) (cond (k == 1) (decide ((data.length : Int) <= 20000) && (target == [] && inI g 0 200))
  (cond (k == 2) ((data == [] && (m == 0 && (g == 0 && inI (target.length : Int) 1 60))) && !(target.any (· == 10))) false))
def qt (x : qa) : Bool := (qj x.1 && (inI x.2.2.1 0 511 && inI x.2.2.2.1 0 1000000000)) && qbc x.2.1 x.2.2.1 x.2.2.2.2.1 x.2.2.2.2.2.1 x.2.2.2.2.2.2
theorem qEv (c : UInt8) (s : List UInt8) : decide (Go.Lib.indexByte s c >= 0) = s.any (· == c) := by
 induction s with
 | nil => rfl
 | cons a r ih =>
  unfold Go.Lib.indexByte;rw [List.any_cons];cases h : a == c with
  | true => rfl
  | false =>
   rw [Bool.false_or, <- ih, if_neg (by simp)];have := Go.Lib.indexByte_ge r c
   split
   .rename_i h1; rw [beq_iff_eq] at h1; rw [h1]
   .rename_i h1
    have : ¬(Go.Lib.indexByte r c = -1) := fun h => h1 (by rw [h]; rfl)
    exact decide_eq_decide.2 (by omega)
theorem qgs (s : List UInt8) : qgd s = some (s.any (· == 10), ()) := by
 unfold qgd qhf qtd
 by_cases h : s = [10]
 .subst h; rfl
 .rw [show (([10] : List UInt8) == s) = false by rw [beq_eq_false_iff_ne]; exact fun h' => h h'.symm]
  show some (decide (Go.Lib.indexByte s 10 >= 0), ()) = _
  rw [qEv]
theorem qsx {s : List UInt8} {i : Nat} (h : i < s.length) : (s.drop i).any (· == 10) = ((s.getD i 0 == 10) || (s.drop (i + 1)).any (· == 10)) := by
 rw [qDq h, List.any_cons]
theorem qcx (b : UInt8) (c : Nat) (hc : c < 256) : ((b.toNat : Int) == (c : Int)) = (b == c.toUInt8) := by
 have hb := UInt8.toNat_lt b
 by_cases h : b = c.toUInt8
 .subst h
  rw [show (c.toUInt8 == c.toUInt8) = true by simp];rw [beq_iff_eq]
  show ((c % 256 : Nat) : Int) = _
  omega
 .rw [show (b == c.toUInt8) = false by rw [beq_eq_false_iff_ne]; exact h, beq_eq_false_iff_ne]
  intro h'; apply h; apply UInt8.toNat.inj; show _ = c % 256; omega
theorem qRs (x : qa) (h : x.2.2.2.2.2.1.length <= 1099511627776) : qMd x = some (qt x, ()) := by
 obtain ⟨p, kd, md, tm, data, target, g⟩ := x
 dsimp only at h
 unfold qMd qt
 refine qz (x := (((), !(qj p && (inI md 0 511 && inI tm 0 1000000000)), ()), (p, kd, md, tm, data, target, g, ()), ())) ?_ ?_
 .rw [qMb, Option.bind_some]
  simp only [qyu, Option.bind_some];unfold inI;cases qj p <;> cases (decide (md >= 0) && decide (md <= 511)) <;> rfl
 .dsimp only
  cases (qj p && (inI md 0 511 && inI tm 0 1000000000)) with
  | false => rfl
  | true =>
   simp only [Bool.not_true, cond_false, Bool.true_and, qc];unfold qbc;cases kd == 0 with
   | true => cases data == [] <;> cases target == [] <;> rfl
   | false =>
    simp only [cond_false];cases kd == 1 with
    | true =>
     simp only [cond_true, qyu, Option.bind_some];cases decide ((data.length : Int) <= 20000) <;> cases target == [] <;> rfl
    | false =>
     simp only [cond_false];cases kd == 2 with
     | false => rfl
     | true =>
      simp only [cond_true, qyu, Option.bind_some, bne];refine qz (x := (((), !(data == [] && (md == 0 && (g == 0 && inI (target.length : Int) 1 60))), ()), (p, kd, md, tm, data, target, g, ()), ())) ?_ ?_
      .unfold inI
       cases data == [] <;> cases md == 0 <;> cases g == 0 <;> rfl
      .dsimp only
       cases (data == [] && (md == 0 && (g == 0 && inI (target.length : Int) 1 60))) with
       | false => rfl
       | true =>
        simp only [Bool.not_true, cond_false, Bool.true_and];refine qbb (qu _ (fun n t => ∃ i : Nat, t = (((), (i : Int), ()), (p, kd, md, tm, data, target, g, ()), ()) /\ i <= target.length /\ n = target.length - i)
         (fun t => some (if (target.drop t.1.2.1.toNat).any (· == 10) then .inr (false, ()) else .inl ((), ()))) ?_ _ target.length _ ⟨0, rfl, by omega, rfl⟩ (by omega)) ?_
        .rintro n t k ⟨i, rfl, hi, rfl⟩ hk
         dsimp only
         by_cases hl : i < target.length
         .rw [decide_eq_true (by omega), cond_true, if_pos (by omega), Int.toNat_natCast, qsx hl]
          rw [show (((target.getD i 0).toNat : Int) == 10) = (target.getD i 0 == 10) from qcx _ 10 (by decide)];cases target.getD i 0 == 10 with
          | true => rfl
          | false =>
           rw [cond_false, Bool.false_or, wr1 i (by omega)];exact hk (target.length - (i + 1)) _ (by omega) ⟨i + 1, rfl, by omega, rfl⟩
         .rw [decide_eq_false (by omega), cond_false, Int.toNat_natCast, List.drop_eq_nil_of_le (by omega)]
          rfl
        .show qVb (some (if (target.drop 0).any (· == 10) = true then _ else _)) _ = _
         rw [List.drop_zero];cases target.any (· == 10) <;> rfl
theorem qen (x : qa) : qFb x = some (qt x, ()) := by
 obtain ⟨p, kd, md, tm, data, target, g⟩ := x
 unfold qFb qt
 refine qz (x := (((), !(qj p && (inI md 0 511 && inI tm 0 1000000000)), ()), (p, kd, md, tm, data, target, g, ()), ())) ?_ ?_
 .rw [qRn, Option.bind_some]
  simp only [qrg, Option.bind_some];unfold inI;cases qj p <;> cases (decide (md >= 0) && decide (md <= 511)) <;> rfl
 .dsimp only
  cases (qj p && (inI md 0 511 && inI tm 0 1000000000)) with
  | false => rfl
  | true =>
   simp only [Bool.not_true, cond_false, Bool.true_and, qc];unfold qbc;cases kd == 0 with
   | true => cases data == [] <;> cases target == [] <;> rfl
   | false =>
    simp only [cond_false];cases kd == 1 with
    | true =>
     simp only [cond_true, qrg, Option.bind_some];cases decide ((data.length : Int) <= 20000) <;> cases target == [] <;> rfl
    | false =>
     simp only [cond_false];cases kd == 2 with
     | false => rfl
     | true =>
      simp only [cond_true, qrg, Option.bind_some, qgs];unfold inI;cases data == [] <;> cases md == 0 <;> cases g == 0 <;> cases (decide ((target.length : Int) >= 1) && decide ((target.length : Int) <= 60)) <;> rfl
theorem qrd : ∀ a : List UInt8, Op.bytesLess a a = false
 | [] => rfl
 | x :: r => by simp [Op.bytesLess, qrd r]
theorem qng : ∀ {a b c : List UInt8}, Op.bytesLess a b = true -> Op.bytesLess b c = true -> Op.bytesLess a c = true
 | _, [], _, h, _ => by cases ‹List UInt8› <;> simp [Op.bytesLess] at h
 | _, _ :: _, [], _, h => by simp [Op.bytesLess] at h
 | [], y :: b, z :: c, _, _ => rfl
 | x :: a, y :: b, z :: c, h1, h2 => by
  simp only [Op.bytesLess, Bool.or_eq_true, Bool.and_eq_true, decide_eq_true_eq, beq_iff_eq] at h1 h2 ⊢;rcases h1 with h1 | ⟨rfl, h1⟩ <;> rcases h2 with h2 | ⟨rfl, h2⟩
  .left; exact UInt8.lt_trans h1 h2
  .left; exact h1
  .left; exact h2
  .right; exact ⟨rfl, qng h1 h2⟩
theorem qtt : ∀ (a b : List UInt8), (Go.Lib.compareBytes a b = -1 /\ Op.bytesLess a b = true) ∨ (Go.Lib.compareBytes a b = 0 /\ a = b) ∨ (Go.Lib.compareBytes a b = 1 /\ Op.bytesLess b a = true)
 | [], [] => .inr (.inl ⟨rfl, rfl⟩)
 | [], _ :: _ => .inl ⟨rfl, rfl⟩
 | _ :: _, [] => .inr (.inr ⟨rfl, rfl⟩)
 | x :: a, y :: b => by
  by_cases h1 : x < y
  .exact .inl ⟨by simp [Go.Lib.compareBytes, h1], by simp [Op.bytesLess, h1]⟩
  .by_cases h2 : y < x
   .exact .inr (.inr ⟨by simp [Go.Lib.compareBytes, h1, h2], by simp [Op.bytesLess, h2]⟩)
   .have hxy : x = y := UInt8.le_antisymm (UInt8.not_lt.1 h2) (UInt8.not_lt.1 h1)
    subst hxy;rcases qtt a b with ⟨g1, g2⟩ | ⟨g1, g2⟩ | ⟨g1, g2⟩
    .exact .inl ⟨by simp [Go.Lib.compareBytes, g1], by simp [Op.bytesLess, g2]⟩
    .exact .inr (.inl ⟨by simp [Go.Lib.compareBytes, g1], by rw [g2]⟩)
    .exact .inr (.inr ⟨by simp [Go.Lib.compareBytes, g1], by simp [Op.bytesLess, g2]⟩)
theorem qty {a b : List UInt8} (h : Op.bytesLess a b = true) : a ≠ b := by rintro rfl; rw [qrd] at h; cases h
theorem qFk (a b : List UInt8) : Op.bytesLess a b = true ∨ a = b ∨ Op.bytesLess b a = true := by
 rcases qtt a b with ⟨_, h⟩ | ⟨_, h⟩ | ⟨_, h⟩
 .exact .inl h
 .exact .inr (.inl h)
 .exact .inr (.inr h)
theorem qqn : ∀ (a : List UInt8) (c : UInt8) (r : List UInt8), Op.bytesLess a (a ++ c :: r) = true
 | [], _, _ => rfl
 | x :: a, c, r => by simp [Op.bytesLess, qqn a c r]
def qhd : List (List UInt8) -> List UInt8
 | [] => []
 | [a] => a
 | a :: b :: r => a ++ 47 :: qhd (b :: r)
theorem qMj : ∀ (l : List (List UInt8)) (x : List UInt8), l ≠ [] -> qhd (l ++ [x]) = qhd l ++ 47 :: x
 | [], x, h => absurd rfl h
 | [a], x, _ => rfl
 | a :: b :: l, x, _ => by
  have := qMj (b :: l) x (by simp);simp only [List.cons_append] at this ⊢;simp only [qhd, this, List.append_assoc, List.cons_append]
theorem qTv (c : UInt8) (l : List (List UInt8)) (h : l ≠ []) : qhd (prep [c] l) = c :: qhd l := by
 rcases l with _ | ⟨a, _ | ⟨b, r⟩⟩
 .exact absurd rfl h
 .simp [prep, qhd]
 .simp [prep, qhd]
theorem qAd : ∀ s : List UInt8, qhd (split s) = s
 | [] => rfl
 | c :: r => by
  by_cases hc : c = 47
  .rw [qQb hc, hc]
   rcases hsp : split r with _ | ⟨a, b⟩
   .exact absurd hsp (qHc _)
   .have := qAd r
    rw [hsp] at this
    show [] ++ 47 :: qhd (a :: b) = _
    rw [this]; rfl
  .rw [qlb hc, qTv _ _ (qHc _), qAd r]
theorem qjx (l : List (List UInt8)) : (qhd l).length <= (l.map (fun x => x.length + 1)).sum := by
 induction l with
 | nil => exact Nat.zero_le _
 | cons a r ih =>
  rcases r with _ | ⟨b, r⟩
  .simp [qhd]
  .simp only [qhd, List.length_append, List.map_cons, List.sum_cons, List.length_cons] at ih ⊢
   omega
def qg (s : List UInt8) : List UInt8 := qhd (names s).dropLast
theorem qZn (s : List UInt8) : (names s).length <= 8 := by
 unfold names
 split
 .rename_i h; exact h.2.1
 .exact Nat.zero_le _
theorem qBv (s : List UInt8) : ((names s).map (fun x => x.length + 1)).sum <= 169 := by
 unfold names
 split
 .rename_i h; rw [<- qrr]; omega
 .exact Nat.zero_le _
theorem qjt (l : List (List UInt8)) (i : Nat) : ((l.take i).map (fun x => x.length + 1)).sum <= (l.map (fun x => x.length + 1)).sum := by
 conv => rhs; rw [<- List.take_append_drop i l]
 rw [List.map_append, List.sum_append]; omega
theorem qil (s : List UInt8) (i : Nat) : (qhd ((names s).take i)).length <= 169 :=
 Nat.le_trans (qjx _) (Nat.le_trans (qjt _ _) (qBv s))
theorem qBj (s : List UInt8) : qse s = some (names s, ()) := by
 unfold qse
 rw [qMb, Option.bind_some, qOi]
 cases hp : qj s with
 | false => rfl
 | true =>
  have hl : s.length <= 168 := by unfold qj at hp; rw [Bool.and_eq_true, decide_eq_true_eq] at hp; exact hp.1
  simp only [Bool.not_true, cond_false, if_true];rw [qkp s (by omega)]; rfl
theorem qpf (s : List UInt8) : qgb s = some (qg s, ()) := by
 unfold qgb qg
 rw [qBj, Option.bind_some]
 dsimp only
 have hl := qZn s
 have key := qu (fun (t : (List (List UInt8) × List UInt8 × Int × Unit) × Unit) (k : (List (List UInt8) × List UInt8 × Int × Unit) × Unit -> Option ((List UInt8 × Unit) × Unit)) =>
     bif decide (IntKind.wrap .i64 (t.fst.snd.snd.fst + 1) < (↑(List.length t.fst.fst) : Int)) then
      Option.bind
       (bif decide (t.fst.snd.snd.fst > 0) then
        if List.length t.fst.snd.fst + List.length ([47] : List UInt8) < 2 ^ 63 then some ((t.fst.fst, t.fst.snd.fst ++ [47], t.fst.snd.snd), ()) else none
       else some t)
       fun t =>
       if 0 <= t.fst.snd.snd.fst /\ t.fst.snd.snd.fst < (↑(List.length t.fst.fst) : Int) then
        if List.length t.fst.snd.fst + List.length (List.getD t.fst.fst (Int.toNat t.fst.snd.snd.fst) (qc UInt8)) < 2 ^ 63 then
         k ((t.fst.fst, t.fst.snd.fst ++ List.getD t.fst.fst (Int.toNat t.fst.snd.snd.fst) (qc UInt8), IntKind.wrap .i64 (t.fst.snd.snd.fst + 1), ()), ())
        else none
       else none
     else some ((t.fst.snd.fst, ()), ()))
  (fun n t => ∃ i : Nat, t = ((names s, qhd ((names s).take i), (i : Int), ()), ()) /\ (i <= (names s).length - 1 ∨ i = 0) /\ n = (names s).length - i)
  (fun _ => some ((qhd (names s).dropLast, ()), ())) (by
  rintro n t k ⟨i, rfl, hi, rfl⟩ hk;dsimp only;rw [wr1 i (by omega)]
  by_cases hlt : i + 1 < (names s).length
  .rw [decide_eq_true (by omega), cond_true]
   have hj := qil s i;have hj1 := qil s (i + 1);have hget : (names s).getD i (qc UInt8) ∈ names s := qZb _ (by omega);have htake : (names s).take (i + 1) = (names s).take i ++ [(names s).getD i (qc UInt8)] := by
    rw [List.take_add_one, List.getElem?_eq_getElem (show i < (names s).length by omega), List.getD_eq_getElem?_getD, List.getElem?_eq_getElem (show i < (names s).length by omega)];rfl
   have step : (if (i : Int) > 0 then qhd ((names s).take i) ++ [47] else qhd ((names s).take i)) ++ (names s).getD i (qc UInt8) = qhd ((names s).take (i + 1)) := by
    rw [htake]
    by_cases h0 : i = 0
    .subst h0; simp [qhd]
    .rw [if_pos (by omega), qMj _ _ (by
      intro h;have := congrArg List.length h;rw [List.length_take] at this; have this : min i (names s).length = 0 := this; omega)]
     simp
   refine qz (x := ((names s, (if (i : Int) > 0 then qhd ((names s).take i) ++ [47] else qhd ((names s).take i)), (i : Int), ()), ())) ?_ ?_
   .by_cases h0 : (i : Int) > 0
    .rw [decide_eq_true h0, cond_true, if_pos h0, if_pos (by simp only [List.length_cons, List.length_nil]; show _ < 9223372036854775808; omega)]
    .rw [decide_eq_false h0, if_neg h0]; rfl
   .dsimp only
    rw [if_pos (by omega), Int.toNat_natCast];rw [if_pos (by rw [<- List.length_append, step]; show _ < 9223372036854775808; omega), step];exact hk ((names s).length - (i + 1)) _ (by omega) ⟨i + 1, by rw [wr1 i (by omega)], .inl (by omega), rfl⟩
  .rw [decide_eq_false (by omega), cond_false]
   have : (names s).take i = (names s).dropLast := by
    rw [List.dropLast_eq_take];congr 1; omega
   rw [this])
  ((names s).length + 0 + 0 + 300) ((names s).length - 0) ((names s, [], 0, ()), ()) ⟨0, rfl, by omega, rfl⟩ (by omega)
 exact qz key rfl
theorem qpj {s : List UInt8} (h : qj s = true) : Op.bytesLess (qg s) s = true := by
 have hn : names s = split s := by rw [qOi, if_pos h]
 unfold qg
 rw [hn]
 have hs := qAd s
 have hne := qHc s
 have hd : split s = (split s).dropLast ++ [(split s).getLast hne] := (List.dropLast_concat_getLast hne).symm
 have hlast : qCb ((split s).getLast hne) = true := by
  unfold qj at h;simp only [Bool.and_eq_true] at h;exact List.all_eq_true.1 h.2.2 _ (List.getLast_mem hne)
 have hl1 : 1 <= ((split s).getLast hne).length := by
  unfold qCb at hlast;simp only [Bool.and_eq_true, decide_eq_true_eq] at hlast;exact hlast.1.1
 by_cases h0 : (split s).dropLast = []
 .rw [h0]
  rw [h0] at hd;rw [hd] at hs;have : s ≠ [] := by
   rintro rfl;have e : (split []).getLast hne = [] := hs;rw [e] at hl1; simp at hl1
  cases s with
  | nil => exact absurd rfl this
  | cons c r => rfl
 .rw [hd, qMj _ _ h0] at hs
  have := qqn (qhd (split s).dropLast) 47 ((split s).getLast hne);rw [hs] at this;exact this
def dN : qa := (qc UInt8, Int.ofNat (nat_lit 0), Int.ofNat (nat_lit 0), Int.ofNat (nat_lit 0), qc UInt8, qc UInt8, Int.ofNat (nat_lit 0))
def pth (l : List qa) (i : Nat) : List UInt8 := (l.getD i dN).1
def qmc (l : List qa) : Prop := ∀ i, i + 1 < l.length -> Op.bytesLess (pth l i) (pth l (i + 1)) = true
theorem qmc.lt {l : List qa} (h : qmc l) : ∀ {j i : Nat}, i < j -> j < l.length -> Op.bytesLess (pth l i) (pth l j) = true
 | 0, i, hij, _ => by omega
 | j + 1, i, hij, hj => by
  by_cases e : i = j
  .subst e; exact h i hj
  .exact qng (h.lt (show i < j by omega) (by omega)) (h j hj)
theorem qmc.take {l : List qa} (h : qmc l) (n : Nat) : qmc (l.take n) := by
 intro i hi
 rw [List.length_take] at hi
 have e : ∀ k, k < n -> pth (l.take n) k = pth l k := by
  intro k hk;unfold pth;rw [List.getD_eq_getElem?_getD, List.getD_eq_getElem?_getD, List.getElem?_take, if_pos hk]
 rw [e i (by omega), e (i + 1) (by omega)]
 exact h i (by omega)
def qHx (l : List qa) (p : List UInt8) (i : Nat) : Prop := i <= l.length /\ (∀ k, k < i -> Op.bytesLess (pth l k) p = true) /\ ∀ k, i <= k -> k < l.length -> Op.bytesLess (pth l k) p = false
theorem qgm (l : List qa) (hs : qmc l) (p : List UInt8) : ∃ i, qHx l p i := by
 have key : ∀ n i, l.length - i <= n -> i <= l.length -> (∀ k, k < i -> Op.bytesLess (pth l k) p = true) -> ∃ i, qHx l p i := by
  intro n
  induction n with
  | zero =>
   intro i h1 h2 h3;exact ⟨i, h2, h3, fun k hk hkl => by omega⟩
  | succ n ih =>
   intro i h1 h2 h3
   by_cases hl : i < l.length
   .cases hb : Op.bytesLess (pth l i) p with
    | true => exact ih (i + 1) (by omega) (by omega) (fun k hk => by
        by_cases e : k = i
        .subst e; exact hb
        .exact h3 k (by omega))
    | false =>
     refine ⟨i, h2, h3, fun k hk hkl => ?_⟩
     by_cases e : i = k
     .subst e; exact hb
     .cases hc : Op.bytesLess (pth l k) p with
      | false => rfl
      | true =>
       have := qng (hs.lt (show i < k by omega) hkl) hc;rw [hb] at this; cases this
   .exact ⟨i, h2, h3, fun k hk hkl => by omega⟩
 exact key l.length 0 (by omega) (by omega) (fun k hk => by omega)
def atO (l : List qa) (p : List UInt8) : Option Nat := (List.range l.length).find? (fun i => pth l i == p)
def atV (l : List qa) (p : List UInt8) : Int := match atO l p with | some i => (i : Int) | none => -1
theorem qCi (l : List qa) (p : List UInt8) : (∃ i, atO l p = some i /\ i < l.length /\ pth l i = p) ∨ (atO l p = none /\ ∀ i, i < l.length -> pth l i ≠ p) := by
 unfold atO
 cases h : (List.range l.length).find? (fun i => pth l i == p) with
 | some i =>
  left;have h1 := List.find?_some h;have h2 := List.mem_of_find?_eq_some h;exact ⟨i, rfl, List.mem_range.1 h2, by simpa using h1⟩
 | none =>
  right;rw [List.find?_eq_none] at h;exact ⟨rfl, fun i hi e => h i (List.mem_range.2 hi) (by simp [e])⟩
theorem qBs {n : Nat} {f : Nat -> Bool} : (List.range n).all f = true ↔ ∀ i, i < n -> f i = true := by
 rw [List.all_eq_true]
 exact ⟨fun h i hi => h i (List.mem_range.2 hi), fun h i hi => h i (List.mem_range.1 hi)⟩
def nd (l : List qa) (i : Nat) : qa := l.getD i dN
def grp (l : List qa) (i : Nat) : Int := (nd l i).2.2.2.2.2.2
def dat (l : List qa) (i : Nat) : List UInt8 := (nd l i).2.2.2.2.1
def qKl (a b : qa) : Bool := a.2.2.1 == b.2.2.1 && (a.2.2.2.1 == b.2.2.2.1 && a.2.2.2.2.1 == b.2.2.2.2.1)
def qKe (l : List qa) : Nat -> Nat
 | 0 => 0
 | i + 1 => qKe l i + (dat l i).length
def qmx (l : List qa) : Prop := l.length <= 1048576 /\ ∀ x ∈ l, x.2.2.2.2.1.length <= 1048576 /\ x.2.2.2.2.2.1.length <= 1048576
theorem qBt {l : List qa} (h : qmx l) : ∀ {i : Nat}, i <= l.length -> qKe l i <= i * 1048576
 | 0, _ => Nat.zero_le _
 | i + 1, hi => by
  have h1 := qBt h (show i <= l.length by omega);have h2 : (dat l i).length <= 1048576 := (h.2 _ (qZb dN (show i < l.length by omega))).1;simp only [qKe]; omega
def upS (l : List qa) (p : List UInt8) : Bool := p == [] || (match atO l p with | some k => (nd l k).2.1 == 0 | none => false)
def qkl (l : List qa) (i : Nat) : Bool := i == 0 || Op.bytesLess (pth l (i - 1)) (pth l i)
def qYv (l : List qa) (i : Nat) : Bool := qt (nd l i) && (qkl l i && upS l (qg (pth l i)))
def qRe (l : List qa) (g : Int) : Nat -> Nat
 | 0 => 0
 | k + 1 => qRe l g k + (cond (grp l k == g) 1 0)
theorem qLp (l : List qa) (g : Int) : ∀ n, qRe l g n <= n
 | 0 => Nat.le_refl _
 | n + 1 => by
  have := qLp l g n;simp only [qRe];cases grp l n == g
  .show _ + 0 <= _; omega
  .show _ + 1 <= _; omega
def qqm (l : List qa) (i k : Nat) : Bool := !(grp l k == grp l i) || qKl (nd l k) (nd l i)
def okG (l : List qa) (i : Nat) : Bool := grp l i == 0 || ((List.range l.length).all (qqm l i) && decide (2 <= qRe l (grp l i) l.length))
def qrs (l : List qa) : Bool := decide (l.length <= 200) && ((List.range l.length).all (qYv l) && ((List.range l.length).all (okG l) && decide (qKe l l.length <= 20000)))
theorem qGr {l : List qa} {g : Int} {n : Nat} (h : grp l n = g) : qRe l g (n + 1) = qRe l g n + 1 := by
 simp only [qRe]; rw [show (grp l n == g) = true by simp [h]]; rfl
theorem qXt {l : List qa} {g : Int} {n : Nat} (h : ¬grp l n = g) : qRe l g (n + 1) = qRe l g n := by
 simp only [qRe]; rw [show (grp l n == g) = false by simp [h]]; rfl
theorem qG {x : qa} (h : qt x = true) : qj x.1 = true := by
 unfold qt at h
 rw [Bool.and_eq_true, Bool.and_eq_true] at h
 exact h.1.1
theorem qVx {l : List qa} {p : List UInt8} {i : Nat} (hi : i < l.length) (he : pth l i = p) (hm : ∀ j, j < i -> pth l j ≠ p) : atO l p = some i := by
 unfold atO
 rw [List.find?_range_eq_some]
 exact ⟨by simp [he], by simpa using hi, fun j hj => by simp [hm j hj]⟩
theorem qFh (l : List qa) (hl : l.length <= 1099511627776) (p : List UInt8) : qjb l p = some (atV l p, ()) := by
 unfold qjb
 refine qbb (qu _ (fun n t => ∃ i : Nat, t = ((l, p, (i : Int), ()), ()) /\ i <= l.length /\ n = l.length - i /\ ∀ j, j < i -> pth l j ≠ p)
  (fun _ => some (match atO l p with | some i => .inr ((i : Int), ()) | none => .inl ((), ()))) ?_ _ l.length _ ⟨0, rfl, by omega, rfl, fun j hj => by omega⟩ (by omega)) ?_
 .rintro n t k ⟨i, rfl, hi, rfl, hj⟩ hk
  dsimp only
  by_cases hlt : i < l.length
  .rw [decide_eq_true (by omega), cond_true, if_pos (by omega), Int.toNat_natCast]
   show (bif pth l i == p then _ else _) = _
   cases hp : pth l i == p with
   | true =>
    rw [qVx hlt (by simpa using hp) hj]; rfl
   | false =>
    rw [cond_false, wr1 i (by omega)];refine hk (l.length - (i + 1)) _ (by omega) ⟨i + 1, rfl, by omega, rfl, fun j hj' => ?_⟩
    by_cases e : j = i
    .subst e; simpa using hp
    .exact hj j (by omega)
  .rw [decide_eq_false (by omega), cond_false]
   rcases qCi l p with ⟨k', _, hk', e⟩ | ⟨e, _⟩
   .exact absurd e (hj k' (by omega))
   .rw [e]
 .unfold atV
  cases atO l p <;> rfl
theorem qUy (l : List qa) (q : List UInt8) (α : Type) (f : Bool -> α) :
    (bif !(q == []) then (bif decide (atV l q < 0) then some (f true) else if 0 <= atV l q /\ atV l q < (l.length : Int) then some (f ((nd l (atV l q).toNat).2.1 != 0)) else none) else some (f false)) = some (f (!upS l q)) := by
 unfold upS
 cases q == [] with
 | true => rfl
 | false =>
  simp only [Bool.not_false, cond_true, Bool.false_or];unfold atV;rcases qCi l q with ⟨k, e, hk, _⟩ | ⟨e, _⟩
  .rw [e]
   dsimp only;rw [decide_eq_false (by omega), cond_false, if_pos (by omega), Int.toNat_natCast];rfl
  .rw [e]; rfl
theorem qkx {α : Type} {l : List qa} {i : Nat} (hi : i <= 1099511627776) (hl : i <= l.length) (f : Bool -> α) :
    (bif decide ((i : Int) > 0) then (if (0 : Int) <= IntKind.wrap IntKind.i64 ((i : Int) - 1) /\ IntKind.wrap IntKind.i64 ((i : Int) - 1) < (l.length : Int) then some (f (!Op.bytesLess (l.getD (Int.toNat (IntKind.wrap IntKind.i64 ((i : Int) - 1))) dN).1 (l.getD i dN).1)) else none) else some (f false)) = some (f (!qkl l i)) := by
 unfold qkl pth
 by_cases h0 : i = 0
 .subst h0; rfl
 .have e : IntKind.wrap .i64 ((i : Int) - 1) = ((i - 1 : Nat) : Int) := by rw [wr _ (by omega)]; omega
  rw [decide_eq_true (by omega), cond_true, e, if_pos (by omega), Int.toNat_natCast, show (i == 0) = false by simp [h0], Bool.false_or]
theorem qAh (l : List qa) (h : qmx l) : qEc l = some (qrs l, ()) := by
 unfold qEc qrs
 by_cases hl : l.length <= 200
 .rw [decide_eq_false (by omega), cond_false, decide_eq_true hl, Bool.true_and]
  have hsum : ∀ i, i <= l.length -> qKe l i <= 209715200 := fun i hi => by have := qBt h hi; omega
  refine qbb (qdi _ (fun i => ((l, (qKe l i : Int), (i : Int), ()), ())) l.length (qYv l) (.inl ((l, (qKe l l.length : Int), ()), ())) (.inr (false, ())) ?_ ?_ _ (by omega)) ?_
  .intro i k hi
   dsimp only;rw [decide_eq_true (by omega), cond_true, if_pos (by omega), Int.toNat_natCast];have hn : qMd (nd l i) = some (qt (nd l i), ()) := qRs _ (Nat.le_trans (h.2 _ (qZb dN hi)).2 (by omega));refine qz (x := ((l, (qKe l i : Int), (i : Int), (), !(qt (nd l i) && qkl l i), ()), ((nd l i).1, (nd l i).2.1, (nd l i).2.2.1, (nd l i).2.2.2.1, (nd l i).2.2.2.2.1, (nd l i).2.2.2.2.2.1, (nd l i).2.2.2.2.2.2, ()), ())) ?_ ?_
   .show Option.bind (qMd (nd l i)) _ = _
    rw [hn, Option.bind_some];cases qt (nd l i) with
    | false => rfl
    | true =>
     simp only [Bool.not_true, cond_false, Bool.true_and];exact qkx (by omega) (by omega) (fun b => (((l, (qKe l i : Int), (i : Int), (), b, ()), ((nd l i).1, (nd l i).2.1, (nd l i).2.2.1, (nd l i).2.2.2.1, (nd l i).2.2.2.2.1, (nd l i).2.2.2.2.2.1, (nd l i).2.2.2.2.2.2, ()), ())))
   .dsimp only
    unfold qYv;cases hnl : (qt (nd l i) && qkl l i) with
    | false =>
     have : (qt (nd l i) && (qkl l i && upS l (qg (pth l i)))) = false := by rw [<- Bool.and_assoc, hnl]; rfl
     rw [this]; rfl
    | true =>
     have : (qt (nd l i) && (qkl l i && upS l (qg (pth l i)))) = upS l (qg (pth l i)) := by rw [<- Bool.and_assoc, hnl]; rfl
     rw [this];simp only [Bool.not_true, cond_false]
     show Option.bind (qgb (pth l i)) _ = _
     rw [qpf, Option.bind_some];dsimp only;rw [qFh l (by omega), Option.bind_some];dsimp only;have hd : (dat l i).length <= 1048576 := (h.2 _ (qZb dN hi)).1;have hw : IntKind.wrap .i64 ((qKe l i : Int) + ((nd l i).2.2.2.2.1.length : Int)) = (qKe l (i + 1) : Int) := by
      have := hsum i (by omega)
      show IntKind.wrap .i64 ((qKe l i : Int) + ((dat l i).length : Int)) = _
      rw [wr _ (by omega)]; simp [qKe]
     rw [hw];refine qz (qUy l (qg (pth l i)) _ (fun b => ((l, (qKe l (i + 1) : Int), (i : Int), b, ()), ()))) ?_;dsimp only;rw [wr1 i (by omega)];cases upS l (qg (pth l i)) <;> rfl
  .intro k; dsimp only; rw [decide_eq_false (by omega)]; rfl
  .cases (List.range l.length).all (qYv l) with
   | false => rfl
   | true =>
    rw [cond_true, Bool.true_and, qEk rfl];dsimp only;refine qbb (qdi _ (fun i => ((l, (qKe l l.length : Int), (i : Int), ()), ())) l.length (okG l) (.inl (((qKe l l.length : Int), ()), ())) (.inr (false, ())) ?_ ?_ _ (by omega)) ?_
    .intro i k hi
     dsimp only;rw [decide_eq_true (by omega), cond_true];refine qbb (x := some (cond (okG l i) (.inl ((l, (qKe l l.length : Int), (i : Int), ()), ())) (.inr (.inr (false, ()))))) ?_ ?_
     .rw [if_pos (by omega), Int.toNat_natCast]
      show (bif grp l i == 0 then _ else _) = _
      unfold okG;cases grp l i == 0 with
      | true => rfl
      | false =>
       rw [cond_false, Bool.false_or];refine qbb (qdi _ (fun q => ((l, (qKe l l.length : Int), (i : Int), (qRe l (grp l i) q : Int), (q : Int), ()), ())) l.length (qqm l i)
        (.inl ((l, (qKe l l.length : Int), (i : Int), (qRe l (grp l i) l.length : Int), ()), ())) (.inr (.inr (.inr (false, ())))) ?_ ?_ _ (by omega)) ?_
       .intro q k hq
        have hb : (0 : Int) <= (i : Int) /\ (i : Int) < (l.length : Int) := by omega
        have hb' : (0 : Int) <= (q : Int) /\ (q : Int) < (l.length : Int) := by omega
        dsimp only;rw [decide_eq_true (by omega), cond_true];simp only [if_pos hb, if_pos hb', Int.toNat_natCast];have hm := qLp l (grp l i) q;refine qbb (x := some (cond (qqm l i q) (.inl ((l, (qKe l l.length : Int), (i : Int), (qRe l (grp l i) (q + 1) : Int), (q : Int), ()), ())) (.inr (.inr (.inr (.inr (false, ()))))))) ?_ ?_
        .show (bif grp l q == grp l i then _ else _) = _
         unfold qqm;cases hg : grp l q == grp l i with
         | false =>
          rw [qXt (by simpa using hg)]; rfl
         | true =>
          rw [cond_true, qGr (by simpa using hg), Bool.not_true, Bool.false_or, wr1 _ (by omega)];refine qz (x := ((l, (qKe l l.length : Int), (i : Int), ((qRe l (grp l i) q + 1 : Nat) : Int), (q : Int), !qKl (nd l q) (nd l i), ()), ())) ?_ ?_
          .unfold qKl
           show (bif (nd l q).2.2.1 != (nd l i).2.2.1 then _ else bif (nd l q).2.2.2.1 != (nd l i).2.2.2.1 then _ else some ((l, (qKe l l.length : Int), (i : Int), ((qRe l (grp l i) q + 1 : Nat) : Int), (q : Int), !((nd l q).2.2.2.2.1 == (nd l i).2.2.2.2.1), ()), ())) = _
           unfold bne;cases (nd l q).2.2.1 == (nd l i).2.2.1 <;> cases (nd l q).2.2.2.1 == (nd l i).2.2.2.1 <;> rfl
          .cases qKl (nd l q) (nd l i) <;> rfl
        .cases qqm l i q with
         | false => rfl
         | true =>
          rw [cond_true, qEk rfl];dsimp only;rw [wr1 q (by omega)]; rfl
       .intro k; dsimp only; rw [decide_eq_false (by omega)]; rfl
       .cases (List.range l.length).all (qqm l i) with
        | false => rfl
        | true =>
         rw [cond_true, Bool.true_and]
         show (bif decide ((qRe l (grp l i) l.length : Int) < 2) then _ else _) = _
         by_cases h2 : 2 <= qRe l (grp l i) l.length
         .rw [decide_eq_true h2, decide_eq_false (by omega)]; rfl
         .rw [decide_eq_false h2, decide_eq_true (by omega)]; rfl
     .cases okG l i with
      | false => rfl
      | true =>
       rw [cond_true, qEk rfl];dsimp only;rw [wr1 i (by omega)]; rfl
    .intro k; dsimp only; rw [decide_eq_false (by omega)]; rfl
    .cases (List.range l.length).all (okG l) with
     | false => rfl
     | true =>
      show some (decide ((qKe l l.length : Int) <= 20000), ()) = _
      rw [show decide ((qKe l l.length : Int) <= 20000) = decide (qKe l l.length <= 20000) from decide_eq_decide.2 (by omega)];rfl
 .rw [decide_eq_true (by omega), decide_eq_false hl]; rfl
def qjr (x : qa) : Prop := x.1.length <= 1048576 /\ x.2.2.2.2.1.length <= 1048576 /\ x.2.2.2.2.2.1.length <= 1048576
def qHb (p q : List UInt8) : Bool := q == p || (p ++ [47]).isPrefixOf q
theorem qet (c : List UInt8) : ∀ (a b : List (List UInt8)), a ≠ [] -> prep c (a ++ b) = prep c a ++ b
 | [], _, h => absurd rfl h
 | x :: r, b, _ => rfl
theorem qIj : ∀ (a b : List UInt8), split (a ++ 47 :: b) = split a ++ split b
 | [], b => by
  show split (47 :: b) = _
  rw [qQb rfl]; rfl
 | c :: r, b => by
  have ih := qIj r b;rw [List.cons_append]
  by_cases hc : c = 47
  .rw [qQb hc, qQb hc, ih]; rfl
  .rw [qlb hc, qlb hc, ih, qet _ _ _ (qHc r)]
theorem qiy (p q : List UInt8) : qHb p q = true ↔ (split p).isPrefixOf (split q) = true := by
 unfold qHb
 rw [Bool.or_eq_true, beq_iff_eq, List.isPrefixOf_iff_prefix, List.isPrefixOf_iff_prefix]
 constructor
 .rintro (rfl | ⟨t, h⟩)
  .exact List.prefix_rfl
  .rw [<- h, List.append_assoc]
   show split p <+: split (p ++ 47 :: t)
   rw [qIj];exact List.prefix_append _ _
 .rintro ⟨r, h⟩
  have hq := qAd q;rw [<- h] at hq;cases r with
  | nil => rw [List.append_nil, qAd] at hq; exact .inl hq.symm
  | cons x r =>
   right;have key : ∀ (a : List (List UInt8)) (x : List UInt8) (r : List (List UInt8)), a ≠ [] -> ∃ t, qhd (a ++ x :: r) = qhd a ++ 47 :: t := by
    intro a
    induction a with
    | nil => intro _ _ h; exact absurd rfl h
    | cons y a ih =>
     intro x r _;cases a with
     | nil => exact ⟨qhd (x :: r), rfl⟩
     | cons z a =>
      obtain ⟨t, ht⟩ := ih x r (by simp);refine ⟨t, ?_⟩
      show y ++ 47 :: qhd (z :: a ++ x :: r) = (y ++ 47 :: qhd (z :: a)) ++ 47 :: t
      rw [ht]; simp
   obtain ⟨t, ht⟩ := key (split p) x r (qHc p);rw [ht, qAd] at hq;exact ⟨t, by rw [<- hq]; simp⟩
theorem qek {p : List UInt8} (hp : qj p = true) : names p = split p := by rw [qOi, if_pos hp]
def qof (p : List UInt8) (n : qa) : Bool := !qHb p n.1
def AllP (l : List qa) : Prop := ∀ i, i < l.length -> qj (pth l i) = true
theorem qer (l : List qa) {j : Nat} (h : j < l.length) : l.take (j + 1) = l.take j ++ [nd l j] := by
 rw [List.take_add_one, List.getElem?_eq_getElem h]
 unfold nd
 rw [List.getD_eq_getElem?_getD, List.getElem?_eq_getElem h]; rfl
def noG (n : qa) : qa := (n.1, n.2.1, n.2.2.1, n.2.2.2.1, n.2.2.2.2.1, n.2.2.2.2.2.1, 0)
def qKo (l : List qa) (i : Nat) : qa := cond (decide (qRe l (grp l i) l.length < 2)) (noG (nd l i)) (nd l i)
def qpc (l : List qa) : List qa := (List.range l.length).map (qKo l)
theorem qkd (l : List qa) : (qpc l).length = l.length := by unfold qpc; simp
theorem qmp (l : List qa) {i : Nat} (h : i < l.length) : (qpc l).take (i + 1) = (qpc l).take i ++ [qKo l i] := by
 rw [List.take_add_one]
 unfold qpc
 rw [List.getElem?_map, List.getElem?_range h]; rfl
theorem qhv (l o : List qa) {i : Nat} (hi : i < l.length) (ho : o.length = l.length) (h1 : o.take i = (qpc l).take i) (h2 : o.drop i = l.drop i) :
    o.getD i dN = nd l i /\ (∀ y, y = qKo l i -> (o.set i y).length = l.length /\ (o.set i y).take (i + 1) = (qpc l).take (i + 1) /\ (o.set i y).drop (i + 1) = l.drop (i + 1)) /\ (qKo l i = nd l i -> o.take (i + 1) = (qpc l).take (i + 1) /\ o.drop (i + 1) = l.drop (i + 1)) := by
 have hoi : o[i]? = l[i]? := by
  have := congrArg (fun x : List qa => x[0]?) h2;simpa only [List.getElem?_drop, Nat.add_zero] using this
 have hg : o.getD i dN = nd l i := by unfold nd; rw [List.getD_eq_getElem?_getD, List.getD_eq_getElem?_getD, hoi]
 have hd2 : o.drop (i + 1) = l.drop (i + 1) := by rw [<- List.drop_drop (i := 1) (j := i) (l := o), <- List.drop_drop (i := 1) (j := i) (l := l), h2]
 refine ⟨hg, ?_, ?_⟩
 .rintro y rfl
  refine ⟨by rw [List.length_set]; exact ho, ?_, ?_⟩
  .rw [List.take_add_one, List.take_set_of_le (by omega), List.getElem?_set_self (by omega), qmp l hi, h1]; rfl
  .rw [List.drop_set_of_lt (by omega)]; exact hd2
 .intro e
  refine ⟨?_, hd2⟩;rw [List.take_add_one, qmp l hi, h1, e, hoi, List.getElem?_eq_getElem hi];unfold nd;rw [List.getD_eq_getElem?_getD, List.getElem?_eq_getElem hi]; rfl
def Cur (s : List Int × Int × Int × Unit) : Prop := 0 <= s.2.1 /\ s.2.1 <= (s.1.length : Int) /\ s.1.length <= 1048576
theorem qwl (x : Int) : 0 <= qnd .and .i64 x 255 /\ qnd .and .i64 x 255 <= 255 := by
 have h : (BitVec.ofInt 64 x &&& BitVec.ofInt 64 255).toNat <= 255 := by rw [BitVec.toNat_and]; exact Nat.and_le_right
 show 0 <= IntKind.wrap .i64 ((BitVec.ofInt 64 x &&& BitVec.ofInt 64 255).toNat : Int) /\ IntKind.wrap .i64 ((BitVec.ofInt 64 x &&& BitVec.ofInt 64 255).toNat : Int) <= 255
 rw [wr _ (by omega)]; omega
theorem qci (s : List Int × Int × Int × Unit) (h : Cur s) : ∃ b s', qab s = some (b, s', ()) /\ 0 <= b /\ b <= 255 /\ Cur s' := by
 obtain ⟨c, i, x, u⟩ := s
 obtain ⟨h1, h2, h3⟩ := h
 simp only at h1 h2 h3
 unfold qab
 rw [if_pos (by decide), if_pos (by decide)]
 dsimp only
 by_cases hl : i < (c.length : Int)
 .rw [decide_eq_true hl, cond_true, if_pos ⟨h1, hl⟩]
  refine ⟨_, _, rfl, (qwl _).1, (qwl _).2, ?_⟩;refine ⟨?_, ?_, h3⟩
  .show 0 <= IntKind.wrap .i64 (i + 1); rw [wr _ (by omega)]; omega
  .show IntKind.wrap .i64 (i + 1) <= _; rw [wr _ (by omega)]; show i + 1 <= (c.length : Int); omega
 .rw [decide_eq_false hl, cond_false]
  exact ⟨_, _, rfl, (qwl _).1, (qwl _).2, h1, h2, h3⟩
theorem qih (n : Int) (hn : 0 < n) (s : List Int × Int × Int × Unit) (h : Cur s) : ∃ b s', qh n s = some (b, s', ()) /\ (n <= 256 -> 0 <= b /\ b < n) /\ Cur s' := by
 obtain ⟨c, i, x, u⟩ := s
 unfold qh
 rw [decide_eq_false (show ¬ n <= 0 by omega), cond_false]
 by_cases h256 : n <= 256
 .rw [decide_eq_true h256, cond_true]
  obtain ⟨b, s', e, hb1, hb2, hc⟩ := qci (c, i, x, ()) h;obtain ⟨c', i', x', u'⟩ := s';simp only;rw [e, Option.bind_some];simp only;rw [if_pos (by omega)];exact ⟨_, _, rfl, fun _ => ⟨Int.tmod_nonneg _ hb1, Int.tmod_lt_of_pos _ hn⟩, hc⟩
 .rw [decide_eq_false h256, cond_false]
  obtain ⟨b, s1, e, _, _, hc⟩ := qci (c, i, x, ()) h;obtain ⟨c1, i1, x1, u1⟩ := s1;simp only;rw [e, Option.bind_some];simp only;obtain ⟨b2, s2, e2, _, _, hc2⟩ := qci (c1, i1, x1, ()) hc;obtain ⟨c2, i2, x2, u2⟩ := s2;rw [e2, Option.bind_some];simp only;obtain ⟨b3, s3, e3, _, _, hc3⟩ := qci (c2, i2, x2, ()) hc2;obtain ⟨c3, i3, x3, u3⟩ := s3;rw [e3, Option.bind_some];simp only;obtain ⟨b4, s4, e4, _, _, hc4⟩ := qci (c3, i3, x3, ()) hc3;obtain ⟨c4, i4, x4, u4⟩ := s4;rw [e4, Option.bind_some];simp only;rw [if_pos (by omega)];exact ⟨_, _, rfl, fun h => absurd h h256, hc4⟩
theorem qAw (n : Int) (hn : 0 < n) (s : List Int × Int × Int × Unit) (h : Cur s) : ∃ b s', qq n s = some (b, s', ()) /\ Cur s' := by
 obtain ⟨c, i, x, u⟩ := s
 unfold qq
 obtain ⟨b, s1, e, _, hc⟩ := qih n hn (c, i, x, ()) h
 obtain ⟨c1, i1, x1, u1⟩ := s1
 simp only
 rw [e, Option.bind_some]
 exact ⟨_, _, rfl, hc⟩
theorem qVv (l : List (List UInt8)) (hl : 0 < l.length) (hl2 : l.length <= 256) (m : Nat) (hm : ∀ x ∈ l, x.length <= m) (s : List Int × Int × Int × Unit) (h : Cur s) : ∃ t s', qX l s = some (t, s', ()) /\ t.length <= m /\ Cur s' := by
 obtain ⟨c, i, x, u⟩ := s
 unfold qX
 obtain ⟨b, s1, e, hb, hc⟩ := qih (l.length : Int) (by omega) (c, i, x, ()) h
 obtain ⟨c1, i1, x1, u1⟩ := s1
 obtain ⟨hb1, hb2⟩ := hb (by omega)
 simp only
 rw [e, Option.bind_some]
 simp only
 rw [if_pos ⟨hb1, hb2⟩]
 refine ⟨_, _, rfl, ?_, hc⟩
 have hlt : b.toNat < l.length := by omega
 rw [List.getD_eq_getElem?_getD, List.getElem?_eq_getElem hlt]
 exact hm _ (List.getElem_mem hlt)
theorem qOw (c : List Int) (hc : c.length <= 1048576) : ∃ r, qgg c = some r /\ Cur r.2.1 := by
 unfold qgg
 refine qb (Q := fun r => r.1.1 = c) (qjc _ (fun n s => ∃ (x : Int) (i : Nat), s = ((c, x, (i : Int), ()), ()) /\ i <= c.length /\ n = c.length - i) _ ?_ _ c.length _ ⟨_, 0, rfl, by omega, rfl⟩ (by omega)) ?_
 .rintro n s k ⟨x, i, rfl, hi, rfl⟩ hk
  dsimp only
  by_cases hl : i < c.length
  .rw [decide_eq_true (show (i : Int) < (c.length : Int) by omega), cond_true, Option.bind_some]
   dsimp only;cases decide ((i : Int) < 4000) with
   | true =>
    rw [cond_true, if_pos (by omega)];exact hk (c.length - (i + 1)) _ (by omega) ⟨_, i + 1, by rw [wr _ (show -9223372036854775808 <= (i : Int) + 1 /\ (i : Int) + 1 <= 9223372036854775807 by omega)]; rfl, by omega, rfl⟩
   | false => rw [cond_false]; exact ⟨_, rfl, rfl⟩
  .rw [decide_eq_false (by omega), cond_false, Option.bind_some]
   exact ⟨_, rfl, rfl⟩
 .rintro ⟨⟨c', x, u⟩, u2⟩ hq
  have hq' : c' = c := hq;subst hq';exact ⟨_, rfl, by show (0 : Int) <= 0; omega, by show (0 : Int) <= _; omega, hc⟩
theorem qPu (l : List (List UInt8)) (m : Nat) (s : List Int × Int × Int × Unit) (hl : 0 < l.length /\ l.length <= 256 /\ ∀ x ∈ l, x.length <= m) (h : Cur s) : ∃ r, qX l s = some r /\ r.1.length <= m /\ Cur r.2.1 := by
 obtain ⟨t, s', e, ht, hc⟩ := qVv l hl.1 hl.2.1 m hl.2.2 s h
 exact ⟨_, e, ht, hc⟩
theorem qzr (s : List Int × Int × Int × Unit) (h : Cur s) : ∃ r, qTd s = some r /\ r.1.length <= 10 /\ Cur r.2.1 := by
 obtain ⟨c, i, x, u⟩ := s
 unfold qTd
 refine qb (qPu _ 10 (c, i, x, ()) (by decide) h) ?_
 rintro ⟨t, ⟨c1, i1, x1, u1⟩, u2⟩ ⟨ht, hc⟩
 exact ⟨_, rfl, ht, hc⟩
def qPy : Prop := ∀ (n : Int) (s : List Int × Int × Int × Unit), 0 <= n -> n <= 100000 -> Cur s -> ∃ r, qYd n s = some r /\ r.1.length <= n.toNat /\ Cur r.2.1
def w64 (n : Int) : Int := (n + 9223372036854775808) % 18446744073709551616 - 9223372036854775808
theorem qLt (x : Int) : IntKind.wrap .i64 x = w64 x := by
 simp [IntKind.wrap, IntKind.signed, IntKind.bits, w64]; omega
def lcg (h : Int) : Int := w64 (w64 (h * 6364136223846793005) + 1442695040888963407)
def gz (h : Int) : Int := 6364136223846793005 * h + 1442695040888963407
def lit (f : Int -> Int) : Nat -> Int -> Int
 | 0, h => h
 | n + 1, h => lit f n (f h)
theorem qnp (f : Int -> Int) (m n : Nat) (h : Int) : lit f (m + n) h = lit f n (lit f m h) := by
 induction m generalizing h with
 | zero => rw [Nat.zero_add]; rfl
 | succ m ih => rw [Nat.succ_add]; exact ih (f h)
def uz : Nat -> Int
 | 0 => 1591034055961698251
 | k + 1 => uz k + 2 * 2 ^ k * (uz k * uz k)
def vz : Nat -> Int
 | 0 => 721347520444481703
 | k + 1 => vz k + (2 * vz k + 1) * (2 ^ k * uz k)
theorem qGy (k : Nat) : ∀ h, lit gz (2 ^ k) h = (1 + 4 * 2 ^ k * uz k) * h + 2 ^ k * (2 * vz k + 1) := by
 induction k with
 | zero => intro h; show gz h = _; unfold gz uz vz; omega
 | succ k ih =>
  intro h;have e : 2 ^ (k + 1) = 2 ^ k + 2 ^ k := by rw [Nat.pow_succ]; omega
  rw [e, qnp, ih, ih];have e2 : (2 : Int) ^ (k + 1) = 2 * 2 ^ k := by rw [Int.pow_succ]; omega
  rw [e2];simp only [uz, vz];generalize (2 : Int) ^ k = p;generalize uz k = u;generalize vz k = v
  grind
theorem qnx (h t : Int) (k : Nat) : ∃ n, n < 2 ^ k /\ ∃ q : Int, lit gz n h = t + 2 ^ k * q := by
 induction k with
 | zero => exact ⟨0, by decide, h - t, by simp [lit]; omega⟩
 | succ k ih =>
  obtain ⟨n, hn, q, hq⟩ := ih;have e3 : 2 ^ (k + 1) = 2 ^ k + 2 ^ k := by rw [Nat.pow_succ]; omega
  have e2 : (2 : Int) ^ (k + 1) = 2 * 2 ^ k := by rw [Int.pow_succ]; omega
  rcases Int.emod_two_eq q with h0 | h1
  .refine ⟨n, by omega, q / 2, ?_⟩
   rw [hq, e2];have : q = 2 * (q / 2) := by omega
   generalize (2 : Int) ^ k = p;generalize q / 2 = z at *;subst this
   grind
  .refine ⟨n + 2 ^ k, by omega, ?_⟩
   rw [qnp, qGy, hq, e2];have : q = 2 * (q / 2) + 1 := by omega
   generalize (2 : Int) ^ k = p;generalize q / 2 = z at *;generalize uz k = u;generalize vz k = v;subst this;exact ⟨z + 1 + v + 2 * u * (t + p * (2 * z + 1)), by grind⟩
theorem qpv (x : Int) : ∃ q, w64 x = x + 18446744073709551616 * q := by
 unfold w64
 exact ⟨-((x + 9223372036854775808) / 18446744073709551616), by omega⟩
theorem qLn {x y q : Int} (h : x = y + 18446744073709551616 * q) : w64 x = w64 y := by
 unfold w64; omega
theorem qFt (x : Int) : w64 (w64 x) = w64 x := by unfold w64; omega
theorem qYy (h : Int) : lcg h = w64 (gz h) := by
 unfold lcg gz
 obtain ⟨q, hq⟩ := qpv (h * 6364136223846793005)
 rw [hq]
 exact qLn (q := q) (by omega)
theorem qgy (h : Int) : w64 (gz (w64 h)) = w64 (gz h) := by
 obtain ⟨q, hq⟩ := qpv h
 exact qLn (q := 6364136223846793005 * q) (by rw [hq]; unfold gz; omega)
theorem qXy (n : Nat) : ∀ h, w64 (lit lcg n h) = w64 (lit gz n h) := by
 have key : ∀ n h, w64 (lit gz n (w64 h)) = w64 (lit gz n h) := by
  intro n
  induction n with
  | zero => intro h; exact qFt h
  | succ n ih => intro h; show w64 (lit gz n (gz (w64 h))) = w64 (lit gz n (gz h)); rw [<- ih, qgy, ih]
 induction n with
 | zero => intro h; rfl
 | succ n ih =>
  intro h
  show w64 (lit lcg n (lcg h)) = w64 (lit gz n (gz h))
  rw [ih, qYy, key]
theorem qtx (h t : Int) (ht : w64 t = t) : ∃ n, n < 18446744073709551616 /\ lit lcg (n + 1) h = t := by
 obtain ⟨n, hn, q, hq⟩ := qnx (gz h) t 64
 refine ⟨n, hn, ?_⟩
 have last : ∀ n h, lit lcg (n + 1) h = lcg (lit lcg n h) := by
  intro n
  induction n with
  | zero => intro h; rfl
  | succ n ih => intro h; exact ih (lcg h)
 have w : w64 (lit lcg (n + 1) h) = lit lcg (n + 1) h := by
  rw [last]; unfold lcg; exact qFt _
 rw [<- w, qXy]
 show w64 (lit gz n (gz h)) = t
 rw [hq, <- ht]
 rw [ht]
 conv => rhs; rw [<- ht]
 have e : (2 : Int) ^ 64 = 18446744073709551616 := by decide
 rw [e]
 exact qLn (q := q) rfl
def lbv (h : Int) : Int := qnd BinOp.and IntKind.i64 (qnd BinOp.xor IntKind.i64 (Int.fdiv (lcg h) ((2 : Int) ^ min (Int.toNat (33 : Int)) (IntKind.bits IntKind.i64))) (Int.fdiv (lcg h) ((2 : Int) ^ min (Int.toNat (45 : Int)) (IntKind.bits IntKind.i64)))) (255 : Int)
theorem lsix : ∀ d : Nat, d < 6 -> Int.tmod (lbv (lit lcg d 33)) 5 ≠ 1 /\ Int.tmod (lbv (lit lcg d 33)) 5 ≠ 2 := by
 decide +kernel
theorem qSk (c : List Int) (i h : Int) (hc : Cur (c, i, h, ())) : ∃ b i' h', qab (c, i, h, ()) = some (b, (c, i', h', ()), ()) /\ 0 <= b /\ b <= 255 /\ Cur (c, i', h', ()) /\ (i < (c.length : Int) -> i < i') /\ (i = (c.length : Int) -> i' = (c.length : Int) /\ b = lbv h /\ h' = lcg h) := by
 obtain ⟨h1, h2, h3⟩ := hc
 simp only at h1 h2 h3
 unfold qab
 rw [if_pos (by decide), if_pos (by decide)]
 dsimp only
 by_cases hl : i < (c.length : Int)
 .rw [decide_eq_true hl, cond_true, if_pos ⟨h1, hl⟩]
  refine ⟨_, _, _, rfl, (qwl _).1, (qwl _).2, ⟨?_, ?_, h3⟩, ?_, ?_⟩
  .show 0 <= IntKind.wrap .i64 (i + 1); rw [wr _ (by omega)]; omega
  .show IntKind.wrap .i64 (i + 1) <= _; rw [wr _ (by omega)]; show i + 1 <= (c.length : Int); omega
  .intro _; show i < IntKind.wrap .i64 (i + 1); rw [wr (i + 1) (by omega)]; omega
  .intro _; omega
 .rw [decide_eq_false hl, cond_false]
  refine ⟨_, _, _, rfl, (qwl _).1, (qwl _).2, ⟨h1, h2, h3⟩, fun h => absurd h hl, fun he => ⟨he, ?_, ?_⟩⟩
  .unfold lbv lcg; simp only [<- qLt]
  .unfold lcg; simp only [<- qLt]
theorem qBi (n : Int) (hn : 0 < n) (c : List Int) (i h : Int) (hc : Cur (c, i, h, ())) : ∃ b i' h', qh n (c, i, h, ()) = some (b, (c, i', h', ()), ()) /\ 0 <= b /\ b < n /\ Cur (c, i', h', ()) /\ (i < (c.length : Int) -> i < i') /\ (i = (c.length : Int) -> i' = (c.length : Int) /\ (n <= 256 -> b = Int.tmod (lbv h) n /\ h' = lcg h) /\ (256 < n -> h' = lit lcg 4 h)) := by
 unfold qh
 rw [decide_eq_false (show ¬ n <= 0 by omega), cond_false]
 by_cases h256 : n <= 256
 .rw [decide_eq_true h256, cond_true]
  obtain ⟨b, i1, x1, e, hb1, hb2, hc1, m1, f1⟩ := qSk c i h hc;dsimp only;rw [e, Option.bind_some];dsimp only;rw [if_pos (by omega)];refine ⟨_, _, _, rfl, Int.tmod_nonneg _ hb1, Int.tmod_lt_of_pos _ hn, hc1, m1, fun he => ?_⟩;obtain ⟨g1, g2, g3⟩ := f1 he;exact ⟨g1, fun _ => ⟨by rw [g2], g3⟩, fun h => by omega⟩
 .rw [decide_eq_false h256, cond_false]
  obtain ⟨b1, i1, x1, e1, hb1, hb1', hc1, m1, f1⟩ := qSk c i h hc;obtain ⟨b2, i2, x2, e2, hb2, hb2', hc2, m2, f2⟩ := qSk c i1 x1 hc1;obtain ⟨b3, i3, x3, e3, hb3, hb3', hc3, m3, f3⟩ := qSk c i2 x2 hc2;obtain ⟨b4, i4, x4, e4, hb4, hb4', hc4, m4, f4⟩ := qSk c i3 x3 hc3;dsimp only;rw [e1, Option.bind_some];dsimp only;rw [e2, Option.bind_some];dsimp only;rw [e3, Option.bind_some];dsimp only;rw [e4, Option.bind_some];dsimp only;rw [if_pos (by omega)];have z : 0 <= IntKind.wrap IntKind.i64 (IntKind.wrap IntKind.i64 (IntKind.wrap IntKind.i64 (IntKind.wrap IntKind.i64 (b1 * (16777216 : Int)) + IntKind.wrap IntKind.i64 (b2 * (65536 : Int))) + IntKind.wrap IntKind.i64 (b3 * (256 : Int))) + b4) := by
   rw [wr (b1 * 16777216) (by omega), wr (b2 * 65536) (by omega), wr (b3 * 256) (by omega), wr (b1 * 16777216 + b2 * 65536) (by omega), wr (b1 * 16777216 + b2 * 65536 + b3 * 256) (by omega), wr _ (by omega)];omega
  refine ⟨_, _, _, rfl, Int.tmod_nonneg _ z, Int.tmod_lt_of_pos _ hn, hc4, fun hl => ?_, fun he => ?_⟩
  .have := m1 hl
   have k2 : i1 <= i2 := by
    by_cases q : i1 < (c.length : Int)
    .have := m2 q; omega
    .have q2 : i1 <= (c.length : Int) := hc1.2.1; have := (f2 (by omega)).1; omega
   have k3 : i2 <= i3 := by
    by_cases q : i2 < (c.length : Int)
    .have := m3 q; omega
    .have q2 : i2 <= (c.length : Int) := hc2.2.1; have := (f3 (by omega)).1; omega
   have k4 : i3 <= i4 := by
    by_cases q : i3 < (c.length : Int)
    .have := m4 q; omega
    .have q2 : i3 <= (c.length : Int) := hc3.2.1; have := (f4 (by omega)).1; omega
   omega
  .obtain ⟨g1, _, g1'⟩ := f1 he
   obtain ⟨g2, _, g2'⟩ := f2 g1;obtain ⟨g3, _, g3'⟩ := f3 g2;obtain ⟨g4, _, g4'⟩ := f4 g3;exact ⟨g4, fun h => absurd h h256, fun _ => by rw [g4', g3', g2', g1']; rfl⟩
theorem qNi {n : Int} {c : List Int} {i h : Int} {b i' h' : Int} (hc : Cur (c, i, h, ())) (m : i < (c.length : Int) -> i < i') (f : i = (c.length : Int) -> i' = (c.length : Int) /\ (n <= 256 -> b = Int.tmod (lbv h) n /\ h' = lcg h) /\ (256 < n -> h' = lit lcg 4 h)) : i <= i' := by
 by_cases q : i < (c.length : Int)
 .have := m q; omega
 .have := hc.2.1; simp only at this; have := (f (by omega)).1; omega
def qOy (c : List Int) (i h i' h' : Int) : Prop :=
 (i < (c.length : Int) -> i < i') /\ (i = (c.length : Int) -> i' = (c.length : Int) /\ (Int.tmod (lbv h) 5 = 1 ∨ Int.tmod (lbv h) 5 = 2) /\ (h' = lit lcg 1 h ∨ h' = lit lcg 3 h ∨ h' = lit lcg 6 h))
abbrev TS := (Unit × Int × Unit × Unit) × (List Int × Int × Int × Unit) × List Int × Unit
def BR (n : Int) (out : List Int) (c : List Int) (i h : Int) (r : TS) : Prop :=
 ∃ out' i' h', r = (((), n, (), ()), (c, i', h', ()), out', ()) /\ Cur (c, i', h', ()) /\ ((out.length < out'.length /\ out'.length <= out.length + 30) ∨ (out' = out /\ qOy c i h i' h'))
def Rem (q : Nat) (h : Int) : Prop := ∃ (N p : Nat) (h0 : Int), lit lcg (N + 1) h0 = 33 /\ h = lit lcg p h0 /\ p + q = N + 6
def Okb (B : Nat) (c : List Int) (i h : Int) : Prop := (i < (c.length : Int) -> B = 18446744073709551622 + (c.length - i.toNat)) /\ (i = (c.length : Int) -> Rem B h /\ B < 18446744073709551622) /\ B < 18446744073711648768
theorem qUm (c : List Int) (i h : Int) (hc : Cur (c, i, h, ())) : ∃ B, Okb B c i h := by
 obtain ⟨h1, h2, h3⟩ := hc
 simp only at h1 h2 h3
 by_cases hl : i < (c.length : Int)
 .exact ⟨18446744073709551622 + (c.length - i.toNat), fun _ => rfl, fun h => by omega, by omega⟩
 .obtain ⟨N, hN, e⟩ := qtx h 33 (by unfold w64; omega)
  exact ⟨N + 6, fun h => absurd h hl, fun _ => ⟨⟨N, 0, h, e, rfl, by omega⟩, by omega⟩, by omega⟩
theorem qQw {c : List Int} {i h i' h' : Int} {B : Nat} (hc' : Cur (c, i', h', ())) (hB : Okb B c i h) (hc : Cur (c, i, h, ())) (hn : qOy c i h i' h') : ∃ B', B' < B /\ Okb B' c i' h' := by
 obtain ⟨b1, b2, b3⟩ := hB
 obtain ⟨h1, h2, h3⟩ := hc
 have hcc := hc'
 obtain ⟨g1, g2, g3⟩ := hc'
 simp only at h1 h2 h3 g1 g2
 by_cases hl : i < (c.length : Int)
 .have hm := hn.1 hl
  have hb := b1 hl
  by_cases hl' : i' < (c.length : Int)
  .exact ⟨18446744073709551622 + (c.length - i'.toNat), by omega, fun _ => rfl, fun h => by omega, by omega⟩
  .obtain ⟨B', hB'⟩ := qUm c i' h' hcc
   exact ⟨B', by have := (hB'.2.1 (by omega)).2; omega, hB'⟩
 .have he : i = (c.length : Int) := by omega
  obtain ⟨e', hb, hh⟩ := hn.2 he;obtain ⟨⟨N, p, h0, r1, r2, r3⟩, b4⟩ := b2 he;have hp : p <= N := by
   apply Classical.byContradiction
   intro hp;have e : h = lit lcg (p - (N + 1)) 33 := by
    rw [r2]
    conv => lhs; rw [show p = (N + 1) + (p - (N + 1)) by omega, qnp, r1]
   have := lsix (p - (N + 1)) (by omega);rw [<- e] at this;rcases hb with hb | hb
   .exact this.1 hb
   .exact this.2 hb
  rcases hh with hh | hh | hh
  .exact ⟨B - 1, by omega, fun h => by omega, fun _ => ⟨⟨N, p + 1, h0, r1, by rw [hh, qnp, <- r2], by omega⟩, by omega⟩, by omega⟩
  .exact ⟨B - 3, by omega, fun h => by omega, fun _ => ⟨⟨N, p + 3, h0, r1, by rw [hh, qnp, <- r2], by omega⟩, by omega⟩, by omega⟩
  .exact ⟨B - 6, by omega, fun h => by omega, fun _ => ⟨⟨N, p + 6, h0, r1, by rw [hh, qnp, <- r2], by omega⟩, by omega⟩, by omega⟩
theorem qaw {m : Nat} (h : m < 1267650600228229401496703205376) : m < 2 ^ 100 := h
theorem qRq : qPy := by
 rintro n ⟨c, i, x, u⟩ h0 hn hc
 unfold qYd
 obtain ⟨B0, hB0⟩ := qUm c i x hc
 refine qb (Q := fun r => r.1.1 = n /\ n.toNat <= r.2.2.1.length /\ Cur r.2.1) (qjc _ (fun m s => ∃ (out : List Int) (i x : Int), s = (((), n, (), ()), (c, i, x, ()), out, ()) /\ Cur (c, i, x, ()) /\ out.length <= n.toNat + 30 /\ ∃ B, Okb B c i x /\ m = (n.toNat - out.length) * 18446744073711648768 + B) _ ?_ _ ((n.toNat - 0) * 18446744073711648768 + B0) _ ⟨[], i, x, rfl, hc, by show 0 <= _; omega, B0, hB0, rfl⟩ (qaw (by have := hB0.2.2; omega))) ?_
 .rintro m s k ⟨out, i, x, rfl, hc, hl, B, hB, rfl⟩ hk
  dsimp only
  by_cases hlt : (out.length : Int) < n
  .rw [decide_eq_true hlt, cond_true]
   obtain ⟨r, i1, x1, e1, hr0, hr5, hc1, m1, f1⟩ := qBi 5 (by omega) c i x hc;rw [e1, Option.bind_some];dsimp only;refine qb (Q := BR n out c i x) ?_ ?_
   .by_cases q0 : r = 0
    .rw [show (r == (0 : Int)) = true by simp [q0], cond_true]
     obtain ⟨b, i2, x2, e2, hb0, hb5, hc2, m2, f2⟩ := qSk c i1 x1 hc1;rw [e2, Option.bind_some];dsimp only;rw [if_pos (by simp only [List.length_cons, List.length_nil]; omega)];exact ⟨_, rfl, _, _, _, rfl, hc2, .inl (by simp only [List.length_append, List.length_cons, List.length_nil]; omega)⟩
    .rw [show (r == (0 : Int)) = false by simp [q0], cond_false]
     refine qb (Q := BR n out c i x) ?_ (by rintro _ ⟨o, i', x', rfl, z⟩; exact ⟨_, rfl, o, i', x', rfl, z⟩)
     by_cases q1 : r = 1
     .rw [show (r == (1 : Int)) = true by simp [q1], cond_true]
      obtain ⟨kk, i2, x2, e2, hb0, hb5, hc2, m2, f2⟩ := qBi 9 (by omega) c i1 x1 hc1;rw [e2, Option.bind_some];dsimp only;obtain ⟨y, i3, x3, e3, hy0, hy5, hc3, m3, f3⟩ := qBi 4 (by omega) c i2 x2 hc2;rw [e3, Option.bind_some];dsimp only;have k2 := qNi hc1 m2 f2;have k3 := qNi hc2 m3 f3;refine qb (Q := BR n out c i x) (qjc _ (fun m s => ∃ (o : List Int) (j : Nat), s = (((), n, (), kk, _, (j : Int), ()), (c, i3, x3, ()), o, ()) /\ o.length = out.length + j /\ (j = 0 -> o = out) /\ (j : Int) <= kk /\ m = kk.toNat - j) _ ?_ _ kk.toNat _ ⟨out, 0, rfl, by omega, fun _ => rfl, by omega, rfl⟩ (qaw (by omega))) (by rintro _ ⟨o, i', x', rfl, z⟩; exact ⟨_, rfl, o, i', x', rfl, z⟩);rintro m s k ⟨o, j, rfl, ho, hz, hj, rfl⟩ hk;dsimp only
      by_cases hjl : (j : Int) < kk
      .rw [decide_eq_true hjl, cond_true, if_pos (by simp only [List.length_cons, List.length_nil]; omega)]
       exact hk (kk.toNat - (j + 1)) _ (by omega) ⟨_, j + 1, by rw [wr _ (show -9223372036854775808 <= (j : Int) + 1 /\ (j : Int) + 1 <= 9223372036854775807 by omega)]; rfl, by simp only [List.length_append, List.length_cons, List.length_nil]; omega, fun h => by omega, by omega, rfl⟩
      .rw [decide_eq_false hjl, cond_false]
       refine ⟨_, rfl, o, i3, x3, rfl, hc3, ?_⟩
       by_cases jz : j = 0
       .refine .inr ⟨hz jz, fun hl => ?_, fun he => ?_⟩
        .have := m1 hl; omega
        .obtain ⟨g1, g2, _⟩ := f1 he
         obtain ⟨g3, g4, _⟩ := f2 g1;obtain ⟨g5, g6, _⟩ := f3 g3;exact ⟨g5, .inl (by rw [<- (g2 (by omega)).1]; exact q1), .inr (.inl (by rw [(g6 (by omega)).2, (g4 (by omega)).2, (g2 (by omega)).2]; rfl))⟩
       .exact .inl (by omega)
     .rw [show (r == (1 : Int)) = false by simp [q1], cond_false]
      refine qb (Q := BR n out c i x) ?_ (by rintro _ ⟨o, i', x', rfl, z⟩; exact ⟨_, rfl, o, i', x', rfl, z⟩)
      by_cases q2 : r = 2
      .rw [show (r == (2 : Int)) = true by simp [q2], cond_true]
       refine qb (Q := BR n out c i x) ?_ (by rintro _ ⟨o, i', x', rfl, z⟩; exact ⟨_, rfl, o, i', x', rfl, z⟩)
       by_cases q3 : (out.length : Int) > 0
       .rw [decide_eq_true q3, cond_true]
        obtain ⟨f, i2, x2, e2, hb0, hb5, hc2, m2, f2⟩ := qBi (out.length : Int) q3 c i1 x1 hc1;rw [e2, Option.bind_some];dsimp only;obtain ⟨kk, i3, x3, e3, hy0, hy5, hc3, m3, f3⟩ := qBi 20 (by omega) c i2 x2 hc2;rw [e3, Option.bind_some];dsimp only;have k2 := qNi hc1 m2 f2;have k3 := qNi hc2 m3 f3;refine qb (Q := BR n out c i x) (qjc _ (fun m s => ∃ (o : List Int) (j : Nat), s = (((), n, (), f, kk, (j : Int), ()), (c, i3, x3, ()), o, ()) /\ o.length = out.length + j /\ (j = 0 -> o = out) /\ (j : Int) <= kk /\ m = kk.toNat - j) _ ?_ _ kk.toNat _ ⟨out, 0, rfl, by omega, fun _ => rfl, by omega, rfl⟩ (qaw (by omega))) (by rintro _ ⟨o, i', x', rfl, z⟩; exact ⟨_, rfl, o, i', x', rfl, z⟩);rintro m s k ⟨o, j, rfl, ho, hz, hj, rfl⟩ hk;dsimp only;have hw : IntKind.wrap IntKind.i64 (f + (j : Int)) = f + (j : Int) := wr _ (by omega)
        by_cases hjl : (j : Int) < kk
        .rw [decide_eq_true hjl, cond_true, Option.bind_some]
         dsimp only;rw [hw, decide_eq_true (show f + (j : Int) < (o.length : Int) by omega), cond_true, if_pos (by omega), if_pos (by omega), if_pos (by simp only [List.length_cons, List.length_nil]; omega)];exact hk (kk.toNat - (j + 1)) _ (by omega) ⟨_, j + 1, by rw [wr _ (show -9223372036854775808 <= (j : Int) + 1 /\ (j : Int) + 1 <= 9223372036854775807 by omega)]; rfl, by simp only [List.length_append, List.length_cons, List.length_nil]; omega, fun h => by omega, by omega, rfl⟩
        .rw [decide_eq_false hjl, cond_false, Option.bind_some]
         dsimp only;rw [cond_false];refine ⟨_, rfl, o, i3, x3, rfl, hc3, ?_⟩
         by_cases jz : j = 0
         .refine .inr ⟨hz jz, fun hl => ?_, fun he => ?_⟩
          .have := m1 hl; omega
          .obtain ⟨g1, g2, _⟩ := f1 he
           obtain ⟨g3, g4, g4'⟩ := f2 g1;obtain ⟨g5, g6, _⟩ := f3 g3;refine ⟨g5, .inr (by rw [<- (g2 (by omega)).1]; exact q2), ?_⟩
           by_cases big : (out.length : Int) <= 256
           .exact .inr (.inl (by rw [(g6 (by omega)).2, (g4 big).2, (g2 (by omega)).2]; rfl))
           .exact .inr (.inr (by rw [(g6 (by omega)).2, g4' (by omega), (g2 (by omega)).2]; rfl))
         .exact .inl (by omega)
       .rw [decide_eq_false q3, cond_false]
        refine ⟨_, rfl, out, i1, x1, rfl, hc1, .inr ⟨rfl, m1, fun he => ?_⟩⟩;obtain ⟨g1, g2, _⟩ := f1 he;exact ⟨g1, .inr (by rw [<- (g2 (by omega)).1]; exact q2), .inl (by rw [(g2 (by omega)).2]; rfl)⟩
      .rw [show (r == (2 : Int)) = false by simp [q2], cond_false]
       obtain ⟨b, i2, x2, e2, hb0, hb5, hc2, m2, f2⟩ := qBi 26 (by omega) c i1 x1 hc1;rw [e2, Option.bind_some];dsimp only;rw [if_pos (by simp only [List.length_cons, List.length_nil]; omega)];exact ⟨_, rfl, _, _, _, rfl, hc2, .inl (by simp only [List.length_append, List.length_cons, List.length_nil]; omega)⟩
   .rintro _ ⟨o, i', x', rfl, hc', z⟩
    dsimp only;rcases z with ⟨z1, z2⟩ | ⟨rfl, z⟩
    .obtain ⟨B', hB'⟩ := qUm c i' x' hc'
     refine hk _ _ ?_ ⟨o, i', x', rfl, hc', by omega, B', hB', rfl⟩;have := hB'.2.2;omega
    .obtain ⟨B', hlt', hB'⟩ := qQw hc' hB hc z
     exact hk _ _ (by omega) ⟨o, i', x', rfl, hc', hl, B', hB', rfl⟩
  .rw [decide_eq_false hlt, cond_false]
   exact ⟨_, rfl, rfl, by show n.toNat <= out.length; omega, hc⟩
 .rintro ⟨⟨n', u1⟩, ⟨c1, i1, x1, u2⟩, o, u3⟩ ⟨hn', ho, hc'⟩
  have hn' : n' = n := hn';subst hn';have ho : n'.toNat <= o.length := ho;dsimp only;rw [if_pos (by omega)];refine ⟨_, rfl, ?_, hc'⟩;simp only [List.length_map, List.length_drop, List.length_take];omega
abbrev CurT := List Int × Int × Int × Unit
theorem qcm (l : List (List UInt8)) (Q : List UInt8 -> Prop) (s : CurT) (hl : 0 < l.length /\ l.length <= 256 /\ ∀ x ∈ l, Q x) (h : Cur s) : ∃ r, qX l s = some r /\ Q r.1 /\ Cur r.2.1 := by
 obtain ⟨c, i, x, u⟩ := s
 unfold qX
 obtain ⟨b, s1, e, hb, hc⟩ := qih (l.length : Int) (by omega) (c, i, x, ()) h
 obtain ⟨c1, i1, x1, u1⟩ := s1
 obtain ⟨hb1, hb2⟩ := hb (by omega)
 simp only
 rw [e, Option.bind_some]
 simp only
 rw [if_pos ⟨hb1, hb2⟩]
 refine ⟨_, rfl, ?_, hc⟩
 exact hl.2.2 _ (qZb _ (by omega))
theorem qW (n : Int) (hn : 0 < n) (s : CurT) (h : Cur s) : ∃ r, qq n s = some r /\ Cur r.2.1 := by
 obtain ⟨b, s', e, hc⟩ := qAw n hn s h
 exact ⟨_, e, hc⟩
theorem qzb (n : Int) (hn : 0 < n) (hn2 : n <= 256) (s : CurT) (h : Cur s) : ∃ r, qh n s = some r /\ (0 <= r.1 /\ r.1 < n) /\ Cur r.2.1 := by
 obtain ⟨b, s', e, hb, hc⟩ := qih n hn s h
 exact ⟨_, e, hb hn2, hc⟩
def SmT (x : qa) : Prop := x.1.length <= 200 /\ x.2.2.2.2.1.length <= 100 /\ x.2.2.2.2.2.1.length <= 100
def AllS (o : List qa) : Prop := ∀ x ∈ o, SmT x
theorem qTy : SmT dN := ⟨Nat.zero_le _, Nat.zero_le _, Nat.zero_le _⟩
theorem qDh {o : List qa} (h : AllS o) (k : Nat) : SmT (o.getD k dN) := by
 by_cases hk : k < o.length
 .exact h _ (qZb dN hk)
 .rw [List.getD_eq_getElem?_getD, List.getElem?_eq_none (by omega)]; exact qTy
theorem qCp {o : List qa} (h : AllS o) (k : Nat) {y : qa} (hy : SmT y) : AllS (o.set k y) := by
 intro x hx
 rcases List.mem_or_eq_of_mem_set hx with hx | rfl
 .exact h x hx
 .exact hy
theorem qWk {l : List qa} (h : AllS l) : AllS (qpc l) := by
 intro x hx
 unfold qpc at hx
 obtain ⟨i, hi, rfl⟩ := List.mem_map.1 hx
 rw [List.mem_range] at hi
 unfold qKo
 have := qDh h i
 cases decide (qRe l (grp l i) l.length < 2)
 .exact this
 .exact this
theorem qkg (l : List qa) (hl : l.length <= 1048576) : qtb l = some ((), qpc l, ()) := by
 unfold qtb
 rw [if_pos (by simp only [qc, List.length_nil]; omega)]
 refine qz (qu _ (fun n t => ∃ (i : Nat) (o : List qa), t = ((l, (), (i : Int), ()), o, ()) /\ i <= l.length /\ o.length = l.length /\ o.take i = (qpc l).take i /\ o.drop i = l.drop i /\ n = l.length - i)
  (fun _ => some (((), ()), qpc l, ())) ?_ _ l.length _ ⟨0, l, rfl, by omega, rfl, rfl, rfl, rfl⟩ (by omega)) rfl
 rintro n t k ⟨i, o, rfl, hi, ho, h1, h2, rfl⟩ hk
 dsimp only
 by_cases hlt : i < l.length
 .obtain ⟨hg, hset, hkeep⟩ := qhv l o hlt ho h1 h2
  rw [decide_eq_true (by omega), cond_true];refine qz (qu _ (fun n t => ∃ q : Nat, t = ((l, (), (i : Int), (qRe l (grp l i) q : Int), (q : Int), ()), o, ()) /\ q <= l.length /\ n = l.length - q)
   (fun _ => some ((l, (), (i : Int), (qRe l (grp l i) l.length : Int), ()), o, ())) ?_ _ l.length _ ⟨0, rfl, by omega, rfl⟩ (by omega)) ?_
  .rintro n t kk ⟨q, rfl, hq, rfl⟩ hkk
   dsimp only
   by_cases hlq : q < l.length
   .rw [decide_eq_true (by omega), cond_true, if_pos (by omega), if_pos (by omega)]
    have hm := qLp l (grp l i) q;refine qz (x := ((l, (), (i : Int), (qRe l (grp l i) (q + 1) : Int), (q : Int), ()), o, ())) ?_ ?_
    .rw [Int.toNat_natCast, Int.toNat_natCast]
     show (bif grp l q == grp l i then _ else _) = _
     cases hgq : grp l q == grp l i with
     | true => rw [qGr (by simpa using hgq), cond_true, wr1 _ (by omega)]
     | false => rw [qXt (by simpa using hgq)]; rfl
    .dsimp only
     rw [wr1 q (by omega)];exact hkk (l.length - (q + 1)) _ (by omega) ⟨q + 1, rfl, by omega, rfl⟩
   .have : q = l.length := by omega
    subst this;rw [decide_eq_false (by omega)]; rfl
  .dsimp only
   by_cases hc : qRe l (grp l i) l.length < 2
   .have e : qKo l i = noG (nd l i) := by unfold qKo; rw [decide_eq_true hc]; rfl
    obtain ⟨g1, g2, g3⟩ := hset _ e.symm;rw [decide_eq_true (show (qRe l (grp l i) l.length : Int) < 2 by omega), cond_true, if_pos (by omega), if_pos (by rw [Int.toNat_natCast]; omega), Option.bind_some];dsimp only;rw [wr1 i (by omega), Int.toNat_natCast];have : o.set i ((o.getD i dN).1, (o.getD i dN).2.1, (o.getD i dN).2.2.1, (o.getD i dN).2.2.2.1, (o.getD i dN).2.2.2.2.1, (o.getD i dN).2.2.2.2.2.1, 0) = o.set i (noG (nd l i)) := by rw [hg]; rfl
    refine (congrArg k (?_ : _ = ((l, (), ((i + 1 : Nat) : Int), ()), o.set i (noG (nd l i)), ()))).trans ?_
    .exact congrArg (fun z => ((l, (), ((i + 1 : Nat) : Int), ()), z, ())) this
    .exact hk (l.length - (i + 1)) _ (by omega) ⟨i + 1, _, rfl, by omega, g1, g2, g3, rfl⟩
   .have e : qKo l i = nd l i := by unfold qKo; rw [decide_eq_false hc]; rfl
    obtain ⟨g2, g3⟩ := hkeep e;rw [decide_eq_false (show ¬(qRe l (grp l i) l.length : Int) < 2 by omega), cond_false, Option.bind_some];dsimp only;rw [wr1 i (by omega)];exact hk (l.length - (i + 1)) _ (by omega) ⟨i + 1, o, rfl, by omega, ho, g2, g3, rfl⟩
 .have : i = l.length := by omega
  subst this;rw [decide_eq_false (by omega), cond_false];rw [List.take_of_length_le (by omega), List.take_of_length_le (by rw [qkd]; omega)] at h1;rw [h1]
def neP (p : List UInt8) (x : qa) : Bool := !(x.1 == p)
def ltP (p : List UInt8) (x : qa) : Bool := Op.bytesLess x.1 p
def putV (l : List qa) (n : qa) : List qa := l.filter (ltP n.1) ++ n :: l.filter (fun x => !ltP n.1 x && neP n.1 x)
theorem qQt (l : List qa) (i : Nat) : (l.getD i dN).1 = pth l i := rfl
theorem qlm {l : List qa} {i : Nat} {x : qa} (h : x ∈ l.take i) : ∃ k, k < i /\ k < l.length /\ x = l.getD k dN := by
 obtain ⟨k, hk, e⟩ := List.mem_iff_getElem.1 h
 rw [List.length_take] at hk
 refine ⟨k, by omega, by omega, ?_⟩
 rw [<- e, List.getElem_take, List.getD_eq_getElem?_getD, List.getElem?_eq_getElem (by omega)]; rfl
theorem qRm {l : List qa} {i : Nat} {x : qa} (h : x ∈ l.drop i) : ∃ k, i <= k /\ k < l.length /\ x = l.getD k dN := by
 obtain ⟨k, hk, e⟩ := List.mem_iff_getElem.1 h
 rw [List.length_drop] at hk
 refine ⟨i + k, by omega, by omega, ?_⟩
 rw [<- e, List.getElem_drop, List.getD_eq_getElem?_getD, List.getElem?_eq_getElem (by omega)]; rfl
theorem qhw {l : List qa} {n : qa} {j : Nat} (hp : qHx l n.1 j) : putV l n = l.take j ++ n :: (l.drop j).filter (neP n.1) := by
 obtain ⟨h1, h2, h3⟩ := hp
 unfold putV
 have hsplit : l = l.take j ++ l.drop j := (List.take_append_drop j l).symm
 have a1 : (l.take j).filter (ltP n.1) = l.take j := List.filter_eq_self.2 fun x hx => by
  obtain ⟨k, hk, _, rfl⟩ := qlm hx;exact h2 k hk
 have a2 : (l.drop j).filter (ltP n.1) = [] := List.filter_eq_nil_iff.2 fun x hx => by
  obtain ⟨k, hk, hkl, rfl⟩ := qRm hx;have := h3 k hk hkl;unfold ltP; rw [qQt, this]; simp
 have a3 : (l.take j).filter (fun x => !ltP n.1 x && neP n.1 x) = [] := List.filter_eq_nil_iff.2 fun x hx => by
  obtain ⟨k, hk, _, rfl⟩ := qlm hx;have := h2 k hk;unfold ltP; rw [qQt, this]; simp
 have a4 : (l.drop j).filter (fun x => !ltP n.1 x && neP n.1 x) = (l.drop j).filter (neP n.1) := List.filter_congr fun x hx => by
  obtain ⟨k, hk, hkl, rfl⟩ := qRm hx;have := h3 k hk hkl;unfold ltP; rw [qQt, this]; rfl
 have e1 : l.filter (ltP n.1) = l.take j := by
  conv => lhs; rw [hsplit]
  rw [List.filter_append, a1, a2, List.append_nil]
 have e2 : l.filter (fun x => !ltP n.1 x && neP n.1 x) = (l.drop j).filter (neP n.1) := by
  conv => lhs; rw [hsplit]
  rw [List.filter_append, a3, a4, List.nil_append]
 rw [e1, e2]
theorem qcp {α : Type} (f : α -> Bool) (x : α) : List.filter f [x] = cond (f x) [x] [] := by
 cases h : f x <;> simp [h]
def outP (l : List qa) (n : qa) (j i : Nat) : List qa := if i <= j then l.take i else l.take j ++ n :: ((l.drop j).take (i - j)).filter (neP n.1)
theorem qAt (l : List qa) (n : qa) (j i : Nat) : (outP l n j i).length <= i + 1 := by
 unfold outP
 split
 .rw [List.length_take]; omega
 .have := List.length_filter_le (neP n.1) ((l.drop j).take (i - j))
  rw [List.length_append, List.length_cons, List.length_take];rw [List.length_take] at this;omega
theorem qHg (l : List qa) (hs : qmc l) (hl : l.length <= 1048575) (n : qa) : qdc l n = some ((), putV l n, ()) := by
 unfold qdc
 obtain ⟨j, hp⟩ := qgm l hs n.1
 rw [qhw hp]
 obtain ⟨h1, h2, h3⟩ := hp
 refine qz (x := (((), (), decide (j < l.length), ()), (n.1, n.2.1, n.2.2.1, n.2.2.2.1, n.2.2.2.2.1, n.2.2.2.2.2.1, n.2.2.2.2.2.2, ()), outP l n j l.length, ())) (qu _ (fun c t => ∃ i : Nat, t = ((l, (), (), decide (j < i), (i : Int), ()), (n.1, n.2.1, n.2.2.1, n.2.2.2.1, n.2.2.2.2.1, n.2.2.2.2.2.1, n.2.2.2.2.2.2, ()), outP l n j i, ()) /\ i <= l.length /\ c = l.length - i)
  (fun _ => some (((), (), decide (j < l.length), ()), (n.1, n.2.1, n.2.2.1, n.2.2.2.1, n.2.2.2.2.1, n.2.2.2.2.2.1, n.2.2.2.2.2.2, ()), outP l n j l.length, ())) ?_ _ l.length _ ⟨0, ?_, by omega, rfl⟩ (by omega)) ?_
 .rintro c t k ⟨i, rfl, hi, rfl⟩ hk
  dsimp only
  by_cases hlt : i < l.length
  .have hx : (0 : Int) <= (i : Int) /\ (i : Int) < (l.length : Int) := by omega
   rw [decide_eq_true (show (i : Int) < (l.length : Int) by omega), cond_true];simp only [if_pos hx, Int.toNat_natCast];have hol := qAt l n j i;refine qz (x := ((l, (), (), decide (j < i), (i : Int), decide (i = j), ()), (n.1, n.2.1, n.2.2.1, n.2.2.2.1, n.2.2.2.2.1, n.2.2.2.2.2.1, n.2.2.2.2.2.2, ()), outP l n j i, ())) ?_ ?_
   .rcases Nat.lt_trichotomy i j with h | h | h
    .rw [decide_eq_false (show ¬j < i by omega), decide_eq_false (show ¬i = j by omega), Bool.not_false, cond_true]
     show some ((l, (), (), false, (i : Int), !Op.bytesLess (pth l i) n.1, ()), _) = _
     rw [h2 i h]; rfl
    .rw [decide_eq_false (show ¬j < i by omega), decide_eq_true h, Bool.not_false, cond_true]
     show some ((l, (), (), false, (i : Int), !Op.bytesLess (pth l i) n.1, ()), _) = _
     rw [h3 i (by omega) hlt]; rfl
    .rw [decide_eq_true (show j < i by omega), decide_eq_false (show ¬i = j by omega)]; rfl
   dsimp only;refine qz (x := ((l, (), (), decide (j < i + 1), (i : Int), ()), (n.1, n.2.1, n.2.2.1, n.2.2.2.1, n.2.2.2.2.1, n.2.2.2.2.2.1, n.2.2.2.2.2.2, ()), outP l n j i ++ cond (decide (i = j)) [n] [], ())) ?_ ?_
   .by_cases h : i = j
    .rw [decide_eq_true h, decide_eq_true (show j < i + 1 by omega)]
     simp only [cond_true];rw [if_pos (by simp only [List.length_cons, List.length_nil]; omega)]
    .rw [decide_eq_false h, show decide (j < i + 1) = decide (j < i) from decide_eq_decide.2 (by omega)]
     simp only [cond_false, List.append_nil]
   dsimp only;have hout : outP l n j (i + 1) = (outP l n j i ++ cond (decide (i = j)) [n] []) ++ cond (neP n.1 (l.getD i dN)) [l.getD i dN] [] := by
    rcases Nat.lt_trichotomy i j with h | h | h
    .rw [decide_eq_false (show ¬i = j by omega)]
     have hne : neP n.1 (l.getD i dN) = true := by
      unfold neP; rw [qQt, Bool.not_eq_true', beq_eq_false_iff_ne]; exact qty (h2 i h)
     rw [hne];unfold outP;rw [if_pos (by omega), if_pos (by omega), List.take_add_one, List.getD_eq_getElem?_getD, List.getElem?_eq_getElem hlt];simp
    .subst h
     rw [decide_eq_true rfl];unfold outP;rw [if_neg (by omega), if_pos (Nat.le_refl _), show i + 1 - i = 1 by omega, qVq dN hlt]
     show l.take i ++ n :: List.filter (neP n.1) [l.getD i dN] = _
     rw [qcp, cond_true, List.append_assoc];rfl
    .rw [decide_eq_false (show ¬i = j by omega)]
     unfold outP;rw [if_neg (by omega), if_neg (by omega), show i + 1 - j = (i - j) + 1 by omega, List.take_add_one, List.getElem?_drop, show j + (i - j) = i by omega, List.getElem?_eq_getElem hlt];have hg : l.getD i dN = l[i] := by rw [List.getD_eq_getElem?_getD, List.getElem?_eq_getElem hlt]; rfl
     rw [hg];cases hne : neP n.1 l[i] <;> simp [List.filter_append, List.filter_cons, hne]
   rw [if_pos hx];refine qz (x := ((l, (), (), decide (j < i + 1), (i : Int), ()), (n.1, n.2.1, n.2.2.1, n.2.2.2.1, n.2.2.2.2.1, n.2.2.2.2.2.1, n.2.2.2.2.2.2, ()), outP l n j (i + 1), ())) ?_ ?_
   .rw [hout, if_pos hx, Int.toNat_natCast]
    have hcl : (cond (decide (i = j)) [n] []).length <= 1 := by cases decide (i = j) <;> simp
    show (bif neP n.1 (l.getD i dN) then _ else _) = _
    cases neP n.1 (l.getD i dN) with
    | true => simp only [cond_true]; rw [if_pos (by simp only [List.length_append, List.length_cons, List.length_nil]; omega)]; rfl
    | false => simp only [cond_false, List.append_nil]
   .dsimp only
    rw [wr1 i (by omega)];exact hk (l.length - (i + 1)) _ (by omega) ⟨i + 1, rfl, by omega, rfl⟩
  .have : i = l.length := by omega
   subst this;rw [decide_eq_false (by omega), cond_false]
 .have : outP l n j 0 = [] := by unfold outP; rw [if_pos (by omega)]; rfl
  rw [this]; rfl
 .dsimp only
  have hol := qAt l n j l.length;refine qz (x := (((), ()), l.take j ++ n :: (l.drop j).filter (neP n.1), ())) ?_ rfl
  by_cases hj : j < l.length
  .rw [decide_eq_true hj, Bool.not_true, cond_false]
   unfold outP;rw [if_neg (show ¬l.length <= j by omega), show l.length - j = (l.drop j).length by rw [List.length_drop], List.take_length]
  .have : j = l.length := by omega
   subst this;rw [decide_eq_false hj, Bool.not_false, cond_true, if_pos (by simp only [List.length_cons, List.length_nil]; omega)];unfold outP;rw [if_pos (Nat.le_refl _), List.drop_length];rfl
theorem qKj {l : List qa} {n x : qa} (h : x ∈ putV l n) : x ∈ l ∨ x = n := by
 unfold putV at h
 rcases List.mem_append.1 h with h | h
 .exact .inl (List.mem_filter.1 h).1
 .rcases List.mem_cons.1 h with h | h
  .exact .inr h
  .exact .inl (List.mem_filter.1 h).1
theorem qkq {l : List qa} {n : qa} {j : Nat} (hp : qHx l n.1 j) : (putV l n).length <= l.length + 1 := by
 rw [qhw hp]
 have := List.length_filter_le (neP n.1) (l.drop j)
 rw [List.length_append, List.length_cons, List.length_take]
 rw [List.length_drop] at this
 have := hp.1
 omega
def gr (x : qa) : Int := x.2.2.2.2.2.2
def cnt (l : List qa) (g : Int) : Nat := (l.filter (fun x => gr x == g)).length
def dsum (l : List qa) : Nat := (l.map (fun x => x.2.2.2.2.1.length)).sum
structure RightP (l : List qa) : Prop where
 len : l.length <= 200
 ok : ∀ x ∈ l, qt x = true
 sorted : qmc l
 up : ∀ x ∈ l, qg x.1 = [] ∨ ∃ y ∈ l, y.1 = qg x.1 /\ y.2.1 = 0
 like : ∀ x ∈ l, ∀ y ∈ l, gr x ≠ 0 -> gr y = gr x -> qKl y x = true
 two : ∀ x ∈ l, gr x ≠ 0 -> 2 <= cnt l (gr x)
 sum : dsum l <= 20000
theorem qNf {l : List qa} {i : Nat} (h : i < l.length) : nd l i ∈ l := qZb dN h
theorem qfk {l : List qa} {x : qa} (h : x ∈ l) : ∃ i, i < l.length /\ nd l i = x := by
 obtain ⟨i, hi, e⟩ := List.mem_iff_getElem.1 h
 refine ⟨i, hi, ?_⟩
 unfold nd
 rw [List.getD_eq_getElem?_getD, List.getElem?_eq_getElem hi]
 exact e
theorem qsj {l : List qa} (hs : qmc l) {i j : Nat} (hi : i < l.length) (hj : j < l.length) (h : pth l i = pth l j) : i = j := by
 rcases Nat.lt_trichotomy i j with h1 | h1 | h1
 .have := hs.lt h1 hj
  rw [h, qrd] at this; cases this
 .exact h1
 .have := hs.lt h1 hi
  rw [h, qrd] at this; cases this
theorem qlp {l : List qa} (hs : qmc l) {x y : qa} (hx : x ∈ l) (hy : y ∈ l) (h : x.1 = y.1) : x = y := by
 obtain ⟨i, hi, rfl⟩ := qfk hx
 obtain ⟨j, hj, rfl⟩ := qfk hy
 rw [qsj hs hi hj h]
theorem qkt {l : List qa} (hs : qmc l) {i : Nat} (hi : i < l.length) : atO l (pth l i) = some i := by
 rcases qCi l (pth l i) with ⟨k, e, hk, ek⟩ | ⟨_, hno⟩
 .rw [e, qsj hs hk hi ek]
 .exact absurd rfl (hno i hi)
theorem qqv (l : List qa) {i : Nat} (h : i < l.length) : l.take (i + 1) = l.take i ++ [nd l i] := by
 rw [List.take_add_one, List.getElem?_eq_getElem h]
 unfold nd
 rw [List.getD_eq_getElem?_getD, List.getElem?_eq_getElem h]; rfl
theorem qBr (l : List qa) (g : Int) : ∀ k, k <= l.length -> qRe l g k = cnt (l.take k) g
 | 0, _ => by simp [qRe, cnt]
 | k + 1, h => by
  have ih := qBr l g k (by omega);unfold cnt at ih ⊢;rw [qqv l (by omega), List.filter_append, List.length_append, <- ih, qcp];simp only [qRe]
  show _ + cond (gr (nd l k) == g) 1 0 = _
  cases gr (nd l k) == g <;> rfl
theorem qYq (l : List qa) (g : Int) : qRe l g l.length = cnt l g := by
 rw [qBr l g _ (Nat.le_refl _), List.take_length]
theorem qpp (l : List qa) : ∀ k, k <= l.length -> qKe l k = dsum (l.take k)
 | 0, _ => by simp [qKe, dsum]
 | k + 1, h => by
  have ih := qpp l k (by omega);unfold dsum at ih ⊢;rw [qqv l (by omega), List.map_append, List.sum_append, <- ih];simp only [qKe, List.map_cons, List.map_nil, List.sum_cons, List.sum_nil, Nat.add_zero];rfl
theorem qLw (l : List qa) : qKe l l.length = dsum l := by
 rw [qpp l _ (Nat.le_refl _), List.take_length]
theorem qhm {l : List qa} (h : RightP l) : qrs l = true := by
 unfold qrs
 simp only [Bool.and_eq_true, decide_eq_true_eq, qBs]
 refine ⟨h.len, fun i hi => ?_, fun i hi => ?_, by rw [qLw]; exact h.sum⟩
 .unfold qYv upS
  simp only [Bool.and_eq_true, Bool.or_eq_true];refine ⟨h.ok _ (qNf hi), ?_, ?_⟩
  .unfold qkl
   rw [Bool.or_eq_true]
   by_cases h0 : i = 0
   .left; simp [h0]
   .right
    have := h.sorted (i - 1) (by omega);rw [show i - 1 + 1 = i by omega] at this;exact this
  .rcases h.up _ (qNf hi) with e | ⟨y, hy, e1, e2⟩
   .left
    show (qg (pth l i) == []) = true
    rw [show qg (pth l i) = [] from e]; rfl
   .right
    obtain ⟨k, hk, rfl⟩ := qfk hy;rw [show qg (pth l i) = pth l k from e1.symm, qkt h.sorted hk];simpa using e2
 .unfold okG
  rw [Bool.or_eq_true]
  by_cases hg : grp l i = 0
  .left; simpa using hg
  .right
   rw [Bool.and_eq_true, qBs, decide_eq_true_eq, qYq];refine ⟨fun k hk => ?_, h.two _ (qNf hi) hg⟩;unfold qqm;rw [Bool.or_eq_true]
   by_cases he : grp l k = grp l i
   .right; exact h.like _ (qNf hi) _ (qNf hk) hg he
   .left; simp [he]
theorem qib {l : List qa} : qmc l ↔ l.Pairwise (fun a b => Op.bytesLess a.1 b.1 = true) := by
 rw [List.pairwise_iff_getElem]
 have e : ∀ i (h : i < l.length), pth l i = (l[i]).1 := fun i h => by
  unfold pth; rw [List.getD_eq_getElem?_getD, List.getElem?_eq_getElem h]; rfl
 constructor
 .intro h i j hi hj hij
  have := h.lt hij hj;rw [e i hi, e j hj] at this;exact this
 .intro h i hi
  rw [e i (by omega), e (i + 1) hi];exact h i (i + 1) (by omega) hi (by omega)
theorem qxp {x : qa} (h : qt x = true) : qt (noG x) = true := by
 unfold qt at h ⊢
 rw [Bool.and_eq_true] at h ⊢
 refine ⟨h.1, ?_⟩
 have h2 := h.2
 unfold qbc at h2 ⊢
 show cond (x.2.1 == 0) (x.2.2.2.2.1 == [] && (x.2.2.2.2.2.1 == [] && (0 : Int) == 0)) _ = true
 cases h0 : x.2.1 == 0 with
 | true =>
  rw [h0] at h2;simp only [cond_true, Bool.and_eq_true] at h2 ⊢;exact ⟨h2.1, h2.2.1, rfl⟩
 | false =>
  rw [h0] at h2;simp only [cond_false] at h2 ⊢
  show cond (x.2.1 == 1) (decide ((x.2.2.2.2.1.length : Int) <= 20000) && (x.2.2.2.2.2.1 == [] && inI 0 0 200)) _ = true
  cases h1 : x.2.1 == 1 with
  | true =>
   rw [h1] at h2;simp only [cond_true, Bool.and_eq_true] at h2 ⊢;exact ⟨h2.1, h2.2.1, rfl⟩
  | false =>
   rw [h1] at h2;simp only [cond_false] at h2 ⊢
   show cond (x.2.1 == 2) ((x.2.2.2.2.1 == [] && (x.2.2.1 == 0 && ((0 : Int) == 0 && inI (x.2.2.2.2.2.1.length : Int) 1 60))) && !(x.2.2.2.2.2.1.any (· == 10))) false = true
   cases h3 : x.2.1 == 2 with
   | true =>
    rw [h3] at h2;simp only [cond_true, Bool.and_eq_true] at h2 ⊢;exact ⟨⟨h2.1.1, h2.1.2.1, rfl, h2.1.2.2.2⟩, h2.2⟩
   | false => rw [h3] at h2; cases h2
def qlf (l : List qa) (x : qa) : qa := cond (decide (cnt l (gr x) < 2)) (noG x) x
theorem qki (l : List qa) : qpc l = l.map (qlf l) := by
 unfold qpc
 refine List.ext_getElem (by simp) (fun i h1 h2 => ?_)
 simp only [List.length_map, List.length_range] at h1
 rw [List.getElem_map, List.getElem_map, List.getElem_range]
 unfold qKo qlf
 rw [qYq]
 have : nd l i = l[i] := by unfold nd; rw [List.getD_eq_getElem?_getD, List.getElem?_eq_getElem h1]; rfl
 show cond (decide (cnt l (gr (nd l i)) < 2)) _ _ = _
 rw [this]
theorem qLb (l : List qa) (x : qa) : qlf l x = x ∨ (qlf l x = noG x /\ cnt l (gr x) < 2) := by
 unfold qlf
 by_cases h : cnt l (gr x) < 2
 .rw [decide_eq_true h]; exact .inr ⟨rfl, h⟩
 .rw [decide_eq_false h]; exact .inl rfl
theorem qWb (l : List qa) (x : qa) : (qlf l x).1 = x.1 := by
 rcases qLb l x with h | ⟨h, _⟩ <;> rw [h]; rfl
theorem qNk (l : List qa) (x : qa) : (qlf l x).2.1 = x.2.1 := by
 rcases qLb l x with h | ⟨h, _⟩ <;> rw [h]; rfl
theorem qSo (l : List qa) (x : qa) : (qlf l x).2.2.2.2.1 = x.2.2.2.2.1 := by
 rcases qLb l x with h | ⟨h, _⟩ <;> rw [h]; rfl
theorem qHd {l : List qa} {x : qa} (h : gr (qlf l x) ≠ 0) : qlf l x = x := by
 rcases qLb l x with h1 | ⟨h1, _⟩
 .exact h1
 .rw [h1] at h; exact absurd rfl h
theorem qIi {s : List UInt8} (h : qj s = true) : qg s = [] ∨ ∃ t, s = qg s ++ 47 :: t := by
 have hn : names s = split s := by rw [qOi, if_pos h]
 unfold qg
 rw [hn]
 have hs := qAd s
 have hne := qHc s
 have hd : split s = (split s).dropLast ++ [(split s).getLast hne] := (List.dropLast_concat_getLast hne).symm
 by_cases h0 : (split s).dropLast = []
 .left; rw [h0]; rfl
 .right
  refine ⟨(split s).getLast hne, ?_⟩;have := qMj (split s).dropLast ((split s).getLast hne) h0;rw [<- hd, hs] at this;exact this
theorem qzl {p s : List UInt8} (hs : qj s = true) (h0 : qg s ≠ []) (h : qHb p (qg s) = true) : qHb p s = true := by
 obtain ⟨t, ht⟩ := (qIi hs).resolve_left h0
 generalize qg s = q at ht h
 unfold qHb at h ⊢
 rw [Bool.or_eq_true, beq_iff_eq, List.isPrefixOf_iff_prefix] at h ⊢
 right
 rcases h with rfl | ⟨u, hu⟩
 .rw [ht]; exact ⟨t, by simp⟩
 .rw [ht, <- hu]; exact ⟨u ++ 47 :: t, by simp⟩
theorem qjj (f : qa -> Bool) : ∀ l : List qa, dsum (l.filter f) <= dsum l
 | [] => Nat.le_refl _
 | x :: l => by
  have ih := qjj f l;unfold dsum at ih ⊢;rw [List.filter_cons]
  split
  .simp only [List.map_cons, List.sum_cons]; omega
  .simp only [List.map_cons, List.sum_cons]; omega
theorem qTp {l : List qa} (h : RightP l) (p : List UInt8) : RightP (qpc (l.filter (qof p))) := by
 rw [qki]
 generalize hF : l.filter (qof p) = F
 have hm : ∀ x, x ∈ F ↔ x ∈ l /\ qof p x = true := fun x => by rw [<- hF, List.mem_filter]
 refine ⟨?_, ?_, ?_, ?_, ?_, ?_, ?_⟩
 .rw [List.length_map, <- hF]; exact Nat.le_trans (List.length_filter_le _ _) h.len
 .intro y hy
  obtain ⟨x, hx, rfl⟩ := List.mem_map.1 hy;have := h.ok x ((hm x).1 hx).1;rcases qLb F x with e | ⟨e, _⟩
  .rw [e]; exact this
  .rw [e]; exact qxp this
 .have hs := qib.1 h.sorted
  rw [qib, List.pairwise_map, <- hF];refine (hs.filter _).imp ?_;intro a b hab;rw [qWb, qWb]; exact hab
 .intro y hy
  obtain ⟨x, hx, rfl⟩ := List.mem_map.1 hy;obtain ⟨hxl, hxk⟩ := (hm x).1 hx;rw [qWb];rcases h.up x hxl with e | ⟨z, hz, e1, e2⟩
  .exact .inl e
  .by_cases h0 : qg x.1 = []
   .exact .inl h0
   .right
    have hzF : z ∈ F := by
     rw [hm];refine ⟨hz, ?_⟩;unfold qof at hxk ⊢;rw [Bool.not_eq_true'] at hxk ⊢;rw [e1];cases hu : qHb p (qg x.1) with
     | false => rfl
     | true =>
      rw [qzl (qG (h.ok x hxl)) h0 hu] at hxk;cases hxk
    exact ⟨qlf F z, List.mem_map.2 ⟨z, hzF, rfl⟩, by rw [qWb]; exact e1, by rw [qNk]; exact e2⟩
 .intro x' hx' y' hy' hg he
  obtain ⟨x, hx, rfl⟩ := List.mem_map.1 hx';obtain ⟨y, hy, rfl⟩ := List.mem_map.1 hy';have ex := qHd hg;have ey := qHd (l := F) (x := y) (by rw [he]; exact hg);rw [ex] at hg he ⊢;rw [ey] at he ⊢;exact h.like x ((hm x).1 hx).1 y ((hm y).1 hy).1 hg he
 .intro x' hx hg
  obtain ⟨x, hx, rfl⟩ := List.mem_map.1 hx;have ex := qHd hg;have hg' := hg;rw [ex] at hg ⊢;have h2 : ¬cnt F (gr x) < 2 := by
   intro hlt;unfold qlf at hg';rw [decide_eq_true hlt] at hg';exact hg' rfl
  have : cnt (F.map (qlf F)) (gr x) = cnt F (gr x) := by
   unfold cnt;rw [List.filter_map, List.length_map];congr 1;refine List.filter_congr fun y hy => ?_
   show (gr (qlf F y) == gr x) = (gr y == gr x)
   rcases qLb F y with e | ⟨e, hlt⟩
   .rw [e]
   .rw [e]
    have a : (gr (noG y) == gr x) = false := by
     rw [beq_eq_false_iff_ne]; intro e2; exact hg e2.symm
    have b : (gr y == gr x) = false := by
     rw [beq_eq_false_iff_ne]; intro e2; rw [e2] at hlt; exact h2 hlt
    rw [a, b]
  rw [this]; omega
 .have : dsum (F.map (qlf F)) = dsum F := by
   unfold dsum;rw [List.map_map];congr 1;refine List.map_congr_left fun x _ => ?_
   show (qlf F x).2.2.2.2.1.length = _
   rw [qSo]
  rw [this, <- hF];exact Nat.le_trans (qjj _ _) h.sum
theorem qYl (l : List qa) (n : qa) : n ∈ putV l n := by
 unfold putV
 exact List.mem_append.2 (.inr (List.mem_cons_self ..))
theorem qrf {l : List qa} {n x : qa} (h : x ∈ l) (hne : x.1 ≠ n.1) : x ∈ putV l n := by
 unfold putV
 rw [List.mem_append, List.mem_cons, List.mem_filter, List.mem_filter]
 cases hl : ltP n.1 x with
 | true => exact .inl ⟨h, rfl⟩
 | false =>
  refine .inr (.inr ⟨h, ?_⟩);unfold neP;rw [show (x.1 == n.1) = false by rw [beq_eq_false_iff_ne]; exact hne]; rfl
structure RightQ (l : List qa) : Prop where
 ok : ∀ x ∈ l, qt x = true
 sorted : qmc l
 up : ∀ x ∈ l, qg x.1 = [] ∨ ∃ y ∈ l, y.1 = qg x.1 /\ y.2.1 = 0
 like : ∀ x ∈ l, ∀ y ∈ l, gr x ≠ 0 -> gr y = gr x -> qKl y x = true
theorem qcl {F : List qa} (h : RightQ F) (hl : F.length <= 200) (hsum : dsum F <= 20000) : RightP (qpc F) := by
 rw [qki]
 refine ⟨by rw [List.length_map]; exact hl, ?_, ?_, ?_, ?_, ?_, ?_⟩
 .intro y hy
  obtain ⟨x, hx, rfl⟩ := List.mem_map.1 hy;have := h.ok x hx;rcases qLb F x with e | ⟨e, _⟩
  .rw [e]; exact this
  .rw [e]; exact qxp this
 .have hs := qib.1 h.sorted
  rw [qib, List.pairwise_map];refine hs.imp ?_;intro a b hab;rw [qWb, qWb]; exact hab
 .intro y hy
  obtain ⟨x, hx, rfl⟩ := List.mem_map.1 hy;rw [qWb];rcases h.up x hx with e | ⟨z, hz, e1, e2⟩
  .exact .inl e
  .exact .inr ⟨qlf F z, List.mem_map.2 ⟨z, hz, rfl⟩, by rw [qWb]; exact e1, by rw [qNk]; exact e2⟩
 .intro x' hx' y' hy' hg he
  obtain ⟨x, hx, rfl⟩ := List.mem_map.1 hx';obtain ⟨y, hy, rfl⟩ := List.mem_map.1 hy';have ex := qHd hg;have ey := qHd (l := F) (x := y) (by rw [he]; exact hg);rw [ex] at hg he ⊢;rw [ey] at he ⊢;exact h.like x hx y hy hg he
 .intro x' hx hg
  obtain ⟨x, hx, rfl⟩ := List.mem_map.1 hx;have ex := qHd hg;have hg' := hg;rw [ex] at hg ⊢;have h2 : ¬cnt F (gr x) < 2 := by
   intro hlt;unfold qlf at hg';rw [decide_eq_true hlt] at hg';exact hg' rfl
  have : cnt (F.map (qlf F)) (gr x) = cnt F (gr x) := by
   unfold cnt;rw [List.filter_map, List.length_map];congr 1;refine List.filter_congr fun y hy => ?_
   show (gr (qlf F y) == gr x) = (gr y == gr x)
   rcases qLb F y with e | ⟨e, hlt⟩
   .rw [e]
   .rw [e]
    have a : (gr (noG y) == gr x) = false := by
     rw [beq_eq_false_iff_ne]; intro e2; exact hg e2.symm
    have b : (gr y == gr x) = false := by
     rw [beq_eq_false_iff_ne]; intro e2; rw [e2] at hlt; exact h2 hlt
    rw [a, b]
  rw [this]; omega
 .have : dsum (F.map (qlf F)) = dsum F := by
   unfold dsum;rw [List.map_map];congr 1;refine List.map_congr_left fun x _ => ?_
   show (qlf F x).2.2.2.2.1.length = _
   rw [qSo]
  rw [this];exact hsum
structure RightZ (l : List qa) : Prop where
 ok : ∀ x ∈ l, qt x = true
 sorted : qmc l
 up : ∀ x ∈ l, qg x.1 = [] ∨ ∃ y ∈ l, y.1 = qg x.1 /\ y.2.1 = 0
 zero : ∀ x ∈ l, gr x = 0
theorem RightZ.q {l : List qa} (h : RightZ l) : RightQ l := ⟨h.ok, h.sorted, h.up, fun x hx y hy h0 => absurd (h.zero x hx) h0⟩
theorem qku {l : List qa} (hs : qmc l) (n : qa) (hno : ∀ x ∈ l, x.1 ≠ n.1) : qmc (putV l n) := by
 have hp := qib.1 hs
 rw [qib]
 unfold putV
 rw [List.pairwise_append]
 refine ⟨hp.filter _, ?_, ?_⟩
 .rw [List.pairwise_cons]
  refine ⟨fun y hy => ?_, hp.filter _⟩;obtain ⟨hy1, hy2⟩ := List.mem_filter.1 hy;rw [Bool.and_eq_true, Bool.not_eq_true'] at hy2;rcases qFk y.1 n.1 with h | h | h
  .rw [show ltP n.1 y = Op.bytesLess y.1 n.1 from rfl, h] at hy2; cases hy2.1
  .exact absurd h (hno y hy1)
  .exact h
 .intro a ha b hb
  obtain ⟨ha1, ha2⟩ := List.mem_filter.1 ha;have ha2 : Op.bytesLess a.1 n.1 = true := ha2;rcases List.mem_cons.1 hb with rfl | hb
  .exact ha2
  .obtain ⟨hb1, hb2⟩ := List.mem_filter.1 hb
   rw [Bool.and_eq_true, Bool.not_eq_true'] at hb2;rcases qFk b.1 n.1 with h | h | h
   .rw [show ltP n.1 b = Op.bytesLess b.1 n.1 from rfl, h] at hb2; cases hb2.1
   .exact absurd h (hno b hb1)
   .exact qng ha2 h
theorem qzu {l : List qa} (h : RightZ l) {n : qa} (hno : ∀ x ∈ l, x.1 ≠ n.1) (hok : qt n = true) (hg : gr n = 0) (hup : qg n.1 = [] ∨ ∃ y ∈ l, y.1 = qg n.1 /\ y.2.1 = 0) : RightZ (putV l n) := by
 have keep : ∀ y ∈ l, y ∈ putV l n := fun y hy => qrf hy (hno y hy)
 refine ⟨fun x hx => ?_, qku h.sorted n hno, fun x hx => ?_, fun x hx => ?_⟩
 .rcases qKj hx with hx | rfl
  .exact h.ok x hx
  .exact hok
 .rcases qKj hx with hx | rfl
  .rcases h.up x hx with e | ⟨y, hy, e⟩
   .exact .inl e
   .exact .inr ⟨y, keep y hy, e⟩
  .rcases hup with e | ⟨y, hy, e⟩
   .exact .inl e
   .exact .inr ⟨y, keep y hy, e⟩
 .rcases qKj hx with hx | rfl
  .exact h.zero x hx
  .exact hg
theorem qvm : ∀ b : List UInt8, b.all okB = true -> split b = [b]
 | [], _ => rfl
 | c :: r, h => by
  rw [List.all_cons, Bool.and_eq_true] at h;rw [qlb (by rintro rfl; exact absurd h.1 (by decide)), qvm r h.2]; rfl
theorem qUo {b : List UInt8} (h : qCb b = true) : split b = [b] := by
 unfold qCb at h
 simp only [Bool.and_eq_true] at h
 exact qvm b h.2.2.2
theorem qWo (a b : List UInt8) (ha : a.length <= 1000) (hb : b.length <= 1000) : ∃ r, qyd a b = some r /\ r.1.length <= 168 /\ (r.1 = [] ∨ (qj r.1 = true /\ qg r.1 = a)) := by
 unfold qyd
 have h63 : ∀ n : Nat, n <= 100000 -> n < 2 ^ 63 := fun n hn => by show n < 9223372036854775808; omega
 obtain ⟨p, hp, hpl, hpe⟩ : ∃ p : List UInt8, (bif !a == [] then if a.length + ([47] : List UInt8).length < 2 ^ 63 then if (a ++ [47]).length + b.length < 2 ^ 63 then some ((a, b, a ++ [47] ++ b, ()), ()) else none else none else some ((a, b, b, ()), ())) = some ((a, b, p, ()), ()) /\ p.length <= 2001 /\ p = (if a = [] then b else a ++ 47 :: b) := by
  cases h : (a == []) with
  | true => exact ⟨b, rfl, by omega, by rw [if_pos (by simpa using h)]⟩
  | false =>
   refine ⟨a ++ [47] ++ b, ?_, by simp; omega, by rw [if_neg (by simpa using h)]; simp⟩;rw [Bool.not_false, cond_true, if_pos (h63 _ (by simp; omega)), if_pos (h63 _ (by simp; omega))]
 refine qb (Q := fun r => r = ((a, b, p, ()), ())) ⟨_, hp, rfl⟩ ?_
 rintro t rfl
 dsimp only
 refine qb (Q := fun r => ∃ bad : Bool, r = ((p, bad, ()), ()) /\ (bad = false -> qj p = true /\ qCb b = true /\ (a = [] ∨ qj a = true))) ?_ ?_
 .have hnm := qoj b (by omega)
  cases h : (a == []) with
  | true =>
   rw [Bool.not_true, cond_false, hnm, Option.bind_some];cases hb2 : qCb b with
   | false => exact ⟨_, rfl, true, rfl, fun h => by cases h⟩
   | true =>
    simp only [Bool.not_true, cond_false];rw [qMb];exact ⟨_, rfl, !qj p, rfl, fun hx => ⟨by simpa using hx, (by first | rfl | exact trivial), .inl (by simpa using h)⟩⟩
  | false =>
   rw [Bool.not_false, cond_true, qMb, Option.bind_some];cases ha2 : qj a with
   | false => exact ⟨_, rfl, true, rfl, fun h => by cases h⟩
   | true =>
    simp only [Bool.not_true, cond_false];rw [hnm, Option.bind_some];cases hb2 : qCb b with
    | false => exact ⟨_, rfl, true, rfl, fun h => by cases h⟩
    | true =>
     simp only [Bool.not_true, cond_false];rw [qMb];exact ⟨_, rfl, !qj p, rfl, fun hx => ⟨by simpa using hx, (by first | rfl | exact trivial), .inr (by first | rfl | exact trivial)⟩⟩
 .rintro t ⟨bad, rfl, hb2⟩
  dsimp only;cases bad with
  | true => exact ⟨_, rfl, Nat.zero_le _, .inl rfl⟩
  | false =>
   obtain ⟨h1, h2, h3⟩ := hb2 rfl;have hl := h1;unfold qj at hl;rw [Bool.and_eq_true, decide_eq_true_eq] at hl;refine ⟨_, rfl, hl.1, .inr ⟨h1, ?_⟩⟩
   show qg p = a
   unfold qg;rw [qek h1, hpe]
   by_cases h0 : a = []
   .rw [if_pos h0, qUo h2, h0]; rfl
   .rw [if_neg h0, qIj, qUo h2, List.dropLast_concat, qAd]
theorem qEj (l : List Int) (s : CurT) (hl : 0 < l.length /\ l.length <= 256) (h : Cur s) : ∃ r, qJb l s = some r /\ r.1 ∈ l /\ Cur r.2.1 := by
 obtain ⟨c, i, x, u⟩ := s
 unfold qJb
 obtain ⟨b, s1, e, hb, hc⟩ := qih (l.length : Int) (by omega) (c, i, x, ()) h
 obtain ⟨hb1, hb2⟩ := hb (by omega)
 rw [e, Option.bind_some]
 simp only
 rw [if_pos ⟨hb1, hb2⟩]
 exact ⟨_, rfl, qZb _ (by omega), hc⟩
def setG (x : qa) (g : Int) : qa := (x.1, x.2.1, x.2.2.1, x.2.2.2.1, x.2.2.2.2.1, x.2.2.2.2.2.1, g)
def setP (x : qa) (p : List UInt8) : qa := (p, x.2.1, x.2.2.1, x.2.2.2.1, x.2.2.2.2.1, x.2.2.2.2.2.1, x.2.2.2.2.2.2)
structure GI (o : List qa) (fi : Int) (i : Nat) : Prop where
 ok : ∀ x ∈ o, qt x = true
 sorted : qmc o
 up : ∀ x ∈ o, qg x.1 = [] ∨ ∃ y ∈ o, y.1 = qg x.1 /\ y.2.1 = 0
 no : fi < 0 -> ∀ x ∈ o, gr x = 0
 yes : ∀ q : Nat, fi = q -> q < i /\ q < o.length /\ (nd o q).2.1 = 1 /\ ∀ x ∈ o, gr x ≠ 0 -> gr x = 3 /\ qKl x (nd o q) = true
theorem qhg {α : Type} (o : List α) (i : Nat) (x d : α) (h : i < o.length) : (o.set i x).getD i d = x := by
 rw [List.getD_eq_getElem?_getD, List.getElem?_set_self h]; rfl
theorem qbh {α : Type} (o : List α) (i j : Nat) (x d : α) (h : i ≠ j) : (o.set i x).getD j d = o.getD j d := by
 rw [List.getD_eq_getElem?_getD, List.getElem?_set_ne h, List.getD_eq_getElem?_getD]
theorem qaz (o : List qa) (A : qa) (p : List UInt8) (q i : Nat) (hq : q < o.length) (hi : i < o.length) :
    (((o.set q A).set i ((o.set q A).getD q dN)).set i (setP (((o.set q A).set i ((o.set q A).getD q dN)).getD i dN) p)) = (o.set q A).set i (setP A p) := by
 rw [List.set_set, qhg o q A dN hq, qhg (o.set q A) i A dN (by rw [List.length_set]; exact hi)]
theorem qvq {a b : qa} : qKl a b = true ↔ a.2.2.1 = b.2.2.1 /\ a.2.2.2.1 = b.2.2.2.1 /\ a.2.2.2.2.1 = b.2.2.2.2.1 := by
 unfold qKl
 simp only [Bool.and_eq_true, beq_iff_eq]
theorem qcy {o o' : List qa} (hl : o'.length = o.length) (hs : ∀ k, k < o.length -> pth o' k = pth o k /\ (nd o' k).2.1 = (nd o k).2.1)
    (up : ∀ x ∈ o, qg x.1 = [] ∨ ∃ y ∈ o, y.1 = qg x.1 /\ y.2.1 = 0) : ∀ x ∈ o', qg x.1 = [] ∨ ∃ y ∈ o', y.1 = qg x.1 /\ y.2.1 = 0 := by
 intro x hx
 obtain ⟨k, hk, rfl⟩ := qfk hx
 obtain ⟨e1, e2⟩ := hs k (by omega)
 have e1' : (nd o' k).1 = (nd o k).1 := e1
 rw [e1']
 rcases up _ (qNf (l := o) (i := k) (by omega)) with e | ⟨y, hy, a, b⟩
 .exact .inl e
 .obtain ⟨j, hj, rfl⟩ := qfk hy
  obtain ⟨f1, f2⟩ := hs j hj;exact .inr ⟨nd o' j, qNf (by omega), (show (nd o' j).1 = (nd o j).1 from f1).trans a, f2.trans b⟩
theorem qas {o o' : List qa} (hl : o'.length = o.length) (hs : ∀ k, k < o.length -> pth o' k = pth o k) (h : qmc o) : qmc o' := by
 intro i hi
 rw [hs i (by omega), hs (i + 1) (by omega)]
 exact h i (by omega)
theorem qsy {x : qa} (h : qt x = true) (hk : x.2.1 = 1) : qt (setG x 3) = true := by
 unfold qt at h ⊢
 rw [Bool.and_eq_true] at h ⊢
 refine ⟨h.1, ?_⟩
 have h2 := h.2
 unfold qbc at h2 ⊢
 have e : (setG x 3).2.1 = 1 := hk
 rw [hk] at h2
 rw [e]
 simp only [show ((1 : Int) == 0) = false from rfl, show ((1 : Int) == 1) = true from rfl, cond_false, cond_true, Bool.and_eq_true] at h2 ⊢
 exact ⟨h2.1, h2.2.1, rfl⟩
theorem quy {x y : qa} (h : qt x = true) (hy : qt y = true) : qt (setP x y.1) = true := by
 unfold qt at h hy ⊢
 rw [Bool.and_eq_true, Bool.and_eq_true] at h hy ⊢
 exact ⟨⟨hy.1.1, h.1.2⟩, h.2⟩
theorem qby {o : List qa} {q i : Nat} (h : GI o (q : Int) i) (hi : i < o.length) (hk : (nd o i).2.1 = 1) : GI ((o.set q (setG (nd o q) 3)).set i (setP (setG (nd o q) 3) (pth o i))) (q : Int) (i + 1) := by
 obtain ⟨hqi, hq, hqk, hg⟩ := h.yes q rfl
 generalize hA : setG (nd o q) 3 = A
 have hAp : A.1 = pth o q := by rw [<- hA]; rfl
 have hAk : A.2.1 = 1 := by rw [<- hA]; exact hqk
 have hAok : qt A = true := by rw [<- hA]; exact qsy (h.ok _ (qNf hq)) hqk
 have hl : ((o.set q A).set i (setP A (pth o i))).length = o.length := by rw [List.length_set, List.length_set]
 have gi : nd ((o.set q A).set i (setP A (pth o i))) i = setP A (pth o i) := qhg _ _ _ _ (by rw [List.length_set]; exact hi)
 have gq : nd ((o.set q A).set i (setP A (pth o i))) q = A := by
  unfold nd;rw [qbh _ _ _ _ _ (by omega), qhg _ _ _ _ hq]
 have go : ∀ k, k ≠ i -> k ≠ q -> nd ((o.set q A).set i (setP A (pth o i))) k = nd o k := fun k h1 h2 => by
  unfold nd;rw [qbh _ _ _ _ _ (fun e => h1 e.symm), qbh _ _ _ _ _ (fun e => h2 e.symm)]
 have hm : ∀ x ∈ (o.set q A).set i (setP A (pth o i)), x = setP A (pth o i) ∨ x = A ∨ x ∈ o := fun x hx => by
  rcases List.mem_or_eq_of_mem_set hx with hx | rfl
  .rcases List.mem_or_eq_of_mem_set hx with hx | rfl
   .exact .inr (.inr hx)
   .exact .inr (.inl rfl)
  .exact .inl rfl
 have same : ∀ k, k < o.length -> pth ((o.set q A).set i (setP A (pth o i))) k = pth o k /\ (nd ((o.set q A).set i (setP A (pth o i))) k).2.1 = (nd o k).2.1 := fun k hk2 => by
  by_cases h1 : k = i
  .subst h1
   refine ⟨?_, ?_⟩
   .show (nd _ k).1 = _
    rw [gi]; rfl
   .rw [gi, hk]; exact hAk
  .by_cases h2 : k = q
   .subst h2
    refine ⟨?_, by rw [gq, hAk, hqk]⟩
    show (nd _ k).1 = _
    rw [gq]; exact hAp
   .have := go k h1 h2
    refine ⟨?_, by rw [this]⟩
    show (nd _ k).1 = _
    rw [this]; rfl
 refine ⟨fun x hx => ?_, qas hl (fun k hk2 => (same k hk2).1) h.sorted, qcy hl same h.up, fun hn => by omega, fun q' e => ?_⟩
 .rcases hm x hx with rfl | rfl | hx
  .exact quy hAok (h.ok _ (qNf hi))
  .exact hAok
  .exact h.ok x hx
 .have e : q' = q := by omega
  subst e;refine ⟨by omega, by omega, by rw [gq]; exact hAk, fun x hx h0 => ?_⟩;rw [gq];have hA3 : gr A = 3 := by rw [<- hA]; rfl
  rcases hm x hx with rfl | rfl | hx
  .exact ⟨hA3, by rw [qvq]; exact ⟨rfl, rfl, rfl⟩⟩
  .exact ⟨hA3, by rw [qvq]; exact ⟨rfl, rfl, rfl⟩⟩
  .obtain ⟨g1, g2⟩ := hg x hx h0
   refine ⟨g1, ?_⟩;rw [qvq] at g2 ⊢;rw [<- hA]; exact g2
theorem gi_q {o : List qa} {fi : Int} {i : Nat} (h : GI o fi i) (hf : fi < 0 ∨ ∃ q : Nat, fi = q) : RightQ o := by
 refine ⟨h.ok, h.sorted, h.up, fun x hx y hy h0 he => ?_⟩
 rcases hf with hf | ⟨q, rfl⟩
 .exact absurd (h.no hf x hx) h0
 .obtain ⟨_, _, _, hg⟩ := h.yes q rfl
  have a := (hg x hx h0).2;have b := (hg y hy (by rw [he]; exact h0)).2;rw [qvq] at a b ⊢;exact ⟨b.1.trans a.1.symm, b.2.1.trans a.2.1.symm, b.2.2.trans a.2.2.symm⟩
theorem qpx {o : List qa} {fi : Int} {i : Nat} (h : GI o fi i) (hf : fi < 0) (hi : i < o.length) (hk : (nd o i).2.1 = 1) : GI o (i : Int) (i + 1) :=
 ⟨h.ok, h.sorted, h.up, fun hn => by omega, fun q e => by
  have : q = i := by omega
  subst this;exact ⟨by omega, hi, hk, fun x hx h0 => absurd (h.no hf x hx) h0⟩⟩
theorem qNv {o : List qa} {fi : Int} {i : Nat} (h : GI o fi i) : GI o fi (i + 1) :=
 ⟨h.ok, h.sorted, h.up, h.no, fun q e => by
  obtain ⟨a, b⟩ := h.yes q e;exact ⟨by omega, b⟩⟩
theorem qwi : ∀ {o : List qa}, AllS o -> dsum o <= o.length * 100
 | [], _ => Nat.le_refl _
 | x :: o, h => by
  have ih := qwi (o := o) (fun y hy => h y (List.mem_cons_of_mem _ hy));have hx := (h x (List.mem_cons_self ..)).2.1;unfold dsum at ih ⊢;rw [List.map_cons, List.sum_cons, List.length_cons];omega
theorem qOk (p : List UInt8) (hok : qj p = true) (hp : p.length <= 200) (s : CurT) (h : Cur s) : ∃ r, qYc p s = some r /\ r.1.1 = p /\ qt r.1 = true /\ gr r.1 = 0 /\ SmT r.1 /\ Cur r.2.1 := by
 unfold qYc
 refine qb (qEj [0, 1, 1, 1, 2] s (by decide) h) ?_
 rintro ⟨kd, s1, u1⟩ ⟨hkd, h1⟩
 have hkd : kd ∈ ([0, 1, 1, 1, 2] : List Int) := hkd
 refine qb (qEj [420, 493, 384, 511, 0] s1 (by decide) h1) ?_
 rintro ⟨md, s2, u2⟩ ⟨hmd, h2⟩
 have hmd : md ∈ ([420, 493, 384, 511, 0] : List Int) := hmd
 refine qb (qzb 6 (by omega) (by omega) s2 h2) ?_
 rintro ⟨tm, s3, u3⟩ ⟨htm, h3⟩
 have htm : 0 <= tm /\ tm < 6 := htm
 dsimp only
 rw [wr ((100 : Int) + tm) (by omega)]
 have hmd2 : 0 <= md /\ md <= 511 := by simp at hmd; omega
 have mk : ∀ (m : Int) (data tgt : List UInt8), 0 <= m /\ m <= 511 -> qbc kd m data tgt 0 = true -> qt (p, kd, m, 100 + tm, data, tgt, 0) = true := fun m data tgt hm hk => by
  unfold qt inI;simp only [Bool.and_eq_true, decide_eq_true_eq];exact ⟨⟨hok, by omega, by omega⟩, hk⟩
 refine qb (Q := fun r => ∃ (m : Int) (data tgt : List UInt8) (cu : CurT), r.2.1 = cu /\ r.2.2.2.1 = (p, kd, m, 100 + tm, data, tgt, 0, ()) /\ qt (p, kd, m, 100 + tm, data, tgt, 0) = true /\ data.length <= 100 /\ tgt.length <= 100 /\ Cur cu) ?_ ?_
 .cases hk1 : kd == 1 with
  | true =>
   have hk1 : kd = 1 := by simpa using hk1
   subst hk1;simp only [cond_true];refine qb (qzb 40 (by omega) (by omega) s3 h3) ?_;rintro ⟨b, s4, u4⟩ ⟨hb, h4⟩;have hb : 0 <= b /\ b < 40 := hb;refine qb (qRq b s4 hb.1 (by omega) h4) ?_;rintro ⟨tx, s5, u5⟩ ⟨ht, h5⟩;have ht : tx.length <= b.toNat := ht;exact ⟨_, rfl, md, tx, [], s5, rfl, rfl, mk md tx [] hmd2 (by
    unfold qbc;simp only [show ((1 : Int) == 0) = false from rfl, show ((1 : Int) == 1) = true from rfl, cond_false, cond_true, Bool.and_eq_true, decide_eq_true_eq];exact ⟨by omega, rfl, rfl⟩), by omega, Nat.zero_le _, h5⟩
  | false =>
   simp only [cond_false];refine qb (Q := fun r => ∃ (m : Int) (data tgt : List UInt8) (cu : CurT), r.2.1 = cu /\ r.2.2.2.1 = (p, kd, m, 100 + tm, data, tgt, 0, ()) /\ qt (p, kd, m, 100 + tm, data, tgt, 0) = true /\ data.length <= 100 /\ tgt.length <= 100 /\ Cur cu) ?_ (fun r hr => ⟨_, rfl, hr⟩);cases hk2 : kd == 2 with
   | true =>
    have hk2 : kd = 2 := by simpa using hk2
    subst hk2;simp only [cond_true];refine qb (qcm _ (fun x => x.length <= 60 /\ 1 <= x.length /\ (!(x.any (· == 10))) = true) s3 (by decide) h3) ?_;rintro ⟨q, s4, u4⟩ ⟨⟨hq1, hq2, hq3⟩, h4⟩;have hq1 : q.length <= 60 := hq1;have hq2 : 1 <= q.length := hq2;have hq3 : (!(q.any (· == 10))) = true := hq3;exact ⟨_, rfl, 0, [], q, s4, rfl, rfl, mk 0 [] q (by omega) (by
     unfold qbc inI;simp only [show ((2 : Int) == 0) = false from rfl, show ((2 : Int) == 1) = false from rfl, show ((2 : Int) == 2) = true from rfl, cond_false, cond_true, Bool.and_eq_true, decide_eq_true_eq];exact ⟨⟨rfl, rfl, rfl, by omega, by omega⟩, hq3⟩), Nat.zero_le _, by omega, h4⟩
   | false =>
    have hk0 : kd = 0 := by simp at hkd hk1 hk2; omega
    subst hk0;exact ⟨_, rfl, md, [], [], s3, rfl, rfl, mk md [] [] hmd2 rfl, Nat.zero_le _, Nat.zero_le _, h3⟩
 .rintro ⟨u0, s6, w, ⟨a1, a2, a3, a4, a5, a6, a7, u7⟩, u8⟩ ⟨m, data, tgt, cu, e1, e2, g1, g2, g3, g4⟩
  simp only [Prod.mk.injEq] at e1 e2;obtain ⟨rfl, rfl, rfl, rfl, rfl, rfl, rfl, _⟩ := e2;subst e1;exact ⟨_, rfl, rfl, g1, rfl, ⟨hp, g2, g3⟩, g4⟩
theorem qcv (b : Int) (hb0 : 0 <= b) (hb : b <= 14) (s : CurT) (h : Cur s) : ∃ r, qAf b s = some r /\ r.2.2.1.length <= 14 /\ AllS r.2.2.1 /\ RightP r.2.2.1 /\ Cur r.2.1 := by
 unfold qAf
 refine qb (Q := fun r => r.2.2.1.length <= 14 /\ AllS r.2.2.1 /\ RightZ r.2.2.1 /\ Cur r.2.1) (qjc _ (fun c t => ∃ (j : Nat) (cu : CurT) (o : List qa), t = (((), b, (), (j : Int), ()), cu, o, ()) /\ (j : Int) <= b /\ o.length <= j /\ AllS o /\ RightZ o /\ Cur cu /\ c = b.toNat - j) _ ?_ _ b.toNat _ ⟨0, s, [], rfl, by omega, by simp, fun x hx => by simp at hx, ⟨fun x hx => by simp at hx, fun i hi => by simp at hi, fun x hx => by simp at hx, fun x hx => by simp at hx⟩, h, by omega⟩ (by omega)) ?_
 .rintro c t k ⟨j, cu, o, rfl, hj, ho, hA, hZ, hc, rfl⟩ hk
  dsimp only
  by_cases hlt : (j : Int) < b
  .rw [decide_eq_true hlt, cond_true]
   refine qb (Q := fun r => ∃ (cu : CurT) (o : List qa), r = (((), b, (), (j : Int), ()), cu, o, ()) /\ o.length <= j + 1 /\ AllS o /\ RightZ o /\ Cur cu) ?_ ?_
   .refine qb (Q := fun r => ∃ (f : Bool) (cu : CurT), r = (((), b, (), (j : Int), [], f, ()), cu, o, ()) /\ (f = true -> 0 < o.length) /\ Cur cu) ?_ ?_
    .by_cases h0 : (o.length : Int) > 0
     .rw [decide_eq_true h0, cond_true]
      refine qb (qW 3 (by omega) cu hc) ?_;rintro ⟨f, c1, u1⟩ h1;exact ⟨_, rfl, !f, c1, rfl, fun _ => by omega, h1⟩
     .rw [decide_eq_false h0]; exact ⟨_, rfl, false, cu, rfl, (fun h => by cases h), hc⟩
    rintro t ⟨f, c1, rfl, hf, h1⟩;dsimp only;refine qb (Q := fun r => ∃ (p : List UInt8) (cu : CurT), r = (((), b, (), (j : Int), p, ()), cu, o, ()) /\ p.length <= 200 /\ (p = [] ∨ ∃ y ∈ o, y.1 = p /\ y.2.1 = 0) /\ Cur cu) ?_ ?_
    .cases f with
     | false => exact ⟨_, rfl, [], c1, rfl, Nat.zero_le _, .inl rfl, h1⟩
     | true =>
      have h0 := hf rfl;rw [cond_true];refine qb (qzb (o.length : Int) (by omega) (by omega) c1 h1) ?_;rintro ⟨q, c2, u2⟩ ⟨hq, h2⟩;have hq : 0 <= q /\ q < (o.length : Int) := hq;obtain ⟨qn, rfl⟩ := Int.eq_ofNat_of_zero_le hq.1;have hqn : qn < o.length := by omega
      dsimp only;rw [Int.toNat_natCast, if_pos hq, if_pos hqn];refine qb (Q := fun r => ∃ (p : List UInt8), r = (((), b, (), (j : Int), p, ()), c2, o, ()) /\ p.length <= 200 /\ (p = [] ∨ ∃ y ∈ o, y.1 = p /\ y.2.1 = 0)) ?_ ?_
      .show ∃ r, (bif (nd o qn).2.1 == 0 then _ else _) = some r /\ _
       cases hkd : (nd o qn).2.1 == 0 with
       | true => rw [cond_true, if_pos hq, if_pos hqn]; exact ⟨_, rfl, _, rfl, (qDh hA qn).1, .inr ⟨nd o qn, qNf hqn, rfl, by simpa using hkd⟩⟩
       | false => exact ⟨_, rfl, [], rfl, Nat.zero_le _, .inl rfl⟩
      .rintro t ⟨p, rfl, hp, hd⟩
       exact ⟨_, rfl, p, c2, rfl, hp, hd, h2⟩
    rintro t ⟨p, c2, rfl, hp, hd, h2⟩;dsimp only;refine qb (qzr c2 h2) ?_;rintro ⟨nm, c3, u3⟩ ⟨hn, h3⟩;have hn : nm.length <= 10 := hn;dsimp only;refine qb (qWo p nm (by omega) (by omega)) ?_;rintro ⟨jp, u4⟩ ⟨hjp, hjr⟩;have hjp : jp.length <= 168 := hjp;have hjr : jp = [] ∨ (qj jp = true /\ qg jp = p) := hjr;dsimp only;refine qb (Q := fun r => ∃ f : Bool, r = (((), b, (), (j : Int), jp, f, ()), c3, o, ()) /\ (f = false -> jp ≠ [] /\ ∀ x ∈ o, x.1 ≠ jp)) ?_ ?_
    .cases hjn : jp == [] with
     | true => exact ⟨_, rfl, true, rfl, fun h => by cases h⟩
     | false =>
      rw [cond_false, qFh o (by omega), Option.bind_some];refine ⟨_, rfl, _, rfl, fun hf => ⟨by simpa using hjn, fun x hx e => ?_⟩⟩;obtain ⟨k, hk, rfl⟩ := qfk hx;have := qkt hZ.sorted hk;rw [show pth o k = jp from e] at this;unfold atV at hf;rw [this] at hf;have hf : decide ((k : Int) >= 0) = false := hf;rw [decide_eq_true (by omega)] at hf;cases hf
    rintro t ⟨f, rfl, hf2⟩;dsimp only;cases f with
    | true => exact ⟨_, rfl, c3, o, rfl, by omega, hA, hZ, h3⟩
    | false =>
     rw [cond_false];obtain ⟨hne, hno⟩ := hf2 rfl;obtain ⟨hjok, hjpar⟩ := hjr.resolve_left hne;refine qb (qOk jp hjok (by omega) c3 h3) ?_;rintro ⟨n, c4, u5⟩ ⟨hn1, hn2, hn3, hn4, h4⟩;have hn1 : n.1 = jp := hn1;dsimp only;rw [qHg o hZ.sorted (by omega) n, Option.bind_some];dsimp only;have hlen : (putV o n).length <= o.length + 1 := by
      obtain ⟨jj, hp⟩ := qgm o hZ.sorted n.1;exact qkq hp
     refine ⟨_, rfl, c4, putV o n, rfl, by omega, fun x hx => ?_, qzu hZ (by rw [hn1]; exact hno) hn2 hn3 (by rw [hn1, hjpar]; exact hd), h4⟩;rcases qKj hx with hx | rfl
     .exact hA x hx
     .exact hn4
   .rintro t ⟨c1, o1, rfl, h1, h2, hZ2, h3⟩
    dsimp only;rw [wr1 j (by omega)];exact hk (b.toNat - (j + 1)) _ (by omega) ⟨j + 1, c1, o1, rfl, by omega, h1, h2, hZ2, h3, rfl⟩
  .rw [decide_eq_false hlt, cond_false]
   exact ⟨_, rfl, by show o.length <= 14; omega, hA, hZ, hc⟩
 .rintro ⟨u0, cu, o, u1⟩ ⟨ho, hA, hZ, hc⟩
  have ho : o.length <= 14 := ho;have hA : AllS o := hA;have hZ : RightZ o := hZ;dsimp only;refine qb (qW 3 (by omega) cu hc) ?_;rintro ⟨f, c1, u2⟩ h1;dsimp only;refine qb (Q := fun r => ∃ (cu : CurT) (o : List qa), r = (((), ()), cu, o, ()) /\ o.length <= 14 /\ AllS o /\ RightQ o /\ Cur cu) ?_ ?_
  .cases f with
   | false => exact ⟨_, rfl, c1, o, rfl, ho, hA, hZ.q, h1⟩
   | true =>
    rw [cond_true];refine qb (Q := fun r => ∃ (cu : CurT) (o : List qa), r = (((), ()), cu, o, ()) /\ o.length <= 14 /\ AllS o /\ RightQ o /\ Cur cu) (qjc _ (fun c t => ∃ (i : Nat) (fi : Int) (cu : CurT) (o2 : List qa), t = (((), (), fi, (i : Int), ()), cu, o2, ()) /\ i <= o.length /\ o2.length = o.length /\ AllS o2 /\ GI o2 fi i /\ Cur cu /\ (fi < 0 ∨ ∃ q : Nat, fi = q /\ q < o.length) /\ c = o.length - i) _ ?_ _ o.length _ ⟨0, -1, c1, o, rfl, by omega, rfl, hA, ⟨hZ.ok, hZ.sorted, hZ.up, fun _ => hZ.zero, fun q e => by omega⟩, h1, .inl (by omega), rfl⟩ (by omega)) ?_
    .rintro c t k ⟨i, fi, cu, o2, rfl, hi, ho2, hA2, hG, hc2, hfi, rfl⟩ hk
     dsimp only
     by_cases hlt : i < o.length
     .have hx : (0 : Int) <= (i : Int) /\ (i : Int) < (o2.length : Int) := by omega
      have hxn : i < o2.length := by omega
      rw [decide_eq_true (show (i : Int) < (o2.length : Int) by omega), cond_true, if_pos hx, Int.toNat_natCast, if_pos hxn];refine qb (Q := fun r => ∃ (fi : Int) (cu : CurT) (o2 : List qa), r = (((), (), fi, (i : Int), ()), cu, o2, ()) /\ o2.length = o.length /\ AllS o2 /\ GI o2 fi (i + 1) /\ Cur cu /\ (fi < 0 ∨ ∃ q : Nat, fi = q /\ q < o.length)) ?_ ?_
      .show ∃ r, (bif (nd o2 i).2.1 == 1 then _ else _) = some r /\ _
       cases hkd : (nd o2 i).2.1 == 1 with
       | false => exact ⟨_, rfl, fi, cu, o2, rfl, ho2, hA2, qNv hG, hc2, hfi⟩
       | true =>
        have hk1 : (nd o2 i).2.1 = 1 := by simpa using hkd
        rw [cond_true];refine qb (Q := fun r => ∃ (fi : Int) (cu : CurT) (o2 : List qa), r = (((), (), fi, (i : Int), ()), cu, o2, ()) /\ o2.length = o.length /\ AllS o2 /\ GI o2 fi (i + 1) /\ Cur cu /\ (fi < 0 ∨ ∃ q : Nat, fi = q /\ q < o.length)) ?_ ?_
        .by_cases hf0 : fi < 0
         .rw [decide_eq_true hf0]
          exact ⟨_, rfl, _, cu, o2, rfl, ho2, hA2, qpx hG hf0 hxn hk1, hc2, .inr ⟨i, rfl, hlt⟩⟩
         .rw [decide_eq_false hf0, cond_false]
          obtain ⟨q, rfl, hq⟩ := hfi.resolve_left hf0;refine qb (qW 2 (by omega) cu hc2) ?_;rintro ⟨g, c3, u3⟩ h3;dsimp only;refine qb (Q := fun r => ∃ (fi : Int) (cu : CurT) (o2 : List qa), r = (((), (), fi, (i : Int), ()), cu, o2, ()) /\ o2.length = o.length /\ AllS o2 /\ GI o2 fi (i + 1) /\ Cur cu /\ (fi < 0 ∨ ∃ q : Nat, fi = q /\ q < o.length)) ?_ ?_
          .cases g with
           | false => exact ⟨_, rfl, _, c3, o2, rfl, ho2, hA2, qNv hG, h3, .inr ⟨q, rfl, hq⟩⟩
           | true =>
            have hyq : (0 : Int) <= (q : Int) /\ (q : Int) < (o2.length : Int) := by omega
            have hyn : q < o2.length := by omega
            rw [cond_true];simp only [List.length_set, if_pos hx, if_pos hxn, if_pos hyq, if_pos hyn, Int.toNat_natCast];refine ⟨_, rfl, _, c3, _, rfl, by simp only [List.length_set]; exact ho2, ?_, ?_, h3, .inr ⟨q, rfl, hq⟩⟩
            rotate_left
            .have e := qaz o2 (setG (nd o2 q) 3) (pth o2 i) q i hyn hxn
             have g := qby hG hxn hk1;rw [<- e] at g;exact g
            have s1 : AllS (o2.set q ((o2.getD q dN).1, (o2.getD q dN).2.1, (o2.getD q dN).2.2.1, (o2.getD q dN).2.2.2.1, (o2.getD q dN).2.2.2.2.1, (o2.getD q dN).2.2.2.2.2.1, 3)) := qCp hA2 q (qDh hA2 q);have s2 := qCp s1 i (qDh s1 q);exact qCp s2 i ⟨(qDh hA2 i).1, (qDh s2 i).2⟩
          .rintro t ⟨a, b2, c4, rfl, g1⟩
           exact ⟨_, rfl, a, b2, c4, rfl, g1⟩
        .rintro t ⟨a, b2, c4, rfl, g1⟩
         exact ⟨_, rfl, a, b2, c4, rfl, g1⟩
      .rintro t ⟨fi2, c3, o3, rfl, g1, g2, gG, g3, g4⟩
       dsimp only;rw [wr1 i (by omega)];exact hk (o.length - (i + 1)) _ (by omega) ⟨i + 1, fi2, c3, o3, rfl, by omega, g1, g2, gG, g3, g4, rfl⟩
     .rw [decide_eq_false (show ¬(i : Int) < (o2.length : Int) by omega), cond_false]
      exact ⟨_, rfl, cu, o2, rfl, by omega, hA2, gi_q hG (hfi.imp_right fun ⟨q, e, _⟩ => ⟨q, e⟩), hc2⟩
    .rintro t ⟨c2, o2, rfl, g1⟩
     exact ⟨_, rfl, c2, o2, rfl, g1⟩
  .rintro t ⟨c2, o2, rfl, g1, g2, gQ, g3⟩
   dsimp only;rw [qkg o2 (by omega), Option.bind_some];have hd := qwi g2;exact ⟨_, rfl, by show (qpc o2).length <= 14; rw [qkd]; exact g1, qWk g2, qcl gQ (by omega) (by omega), g3⟩
def qzc (p : List UInt8) : Bool := decide (1 <= p.length) && (by8 p 0 == 33)
def clsR (p : List UInt8) : Nat × List Bool := cls p (if qzc p = true then 1 else 0) true (List.replicate 256 false)
theorem qmy (p : List UInt8) : ∀ n i first s, p.length - i <= n -> (cls p i first s).2.length = s.length := by
 intro n
 induction n with
 | zero => intro i f s h; rw [cls, if_neg (by omega)]
 | succ n ih =>
  intro i f s h;rw [cls]
  split
  .split
   .rw [ih _ _ _ (by omega), qWh]
   .rw [ih _ _ _ (by omega)]; simp
  .rfl
theorem qrx {p i first s} (h : ¬(i < p.length /\ (first = true ∨ by8 p i ≠ 93))) : cls p i first s = (i, s) := by rw [cls, if_neg h]
theorem qcw {p i first s} (h : i < p.length /\ (first = true ∨ by8 p i ≠ 93)) (h2 : i + 2 < p.length /\ by8 p (i + 1) = 45 /\ by8 p (i + 2) ≠ 93) :
    cls p i first s = cls p (i + 3) false (qHr (by8 p (i + 2) + 1 - by8 p i) (by8 p i) s) := by rw [cls, if_pos h, if_pos h2]
theorem qny {p i first s} (h : i < p.length /\ (first = true ∨ by8 p i ≠ 93)) (h2 : ¬(i + 2 < p.length /\ by8 p (i + 1) = 45 /\ by8 p (i + 2) ≠ 93)) :
    cls p i first s = cls p (i + 1) false (s.set (by8 p i) true) := by rw [cls, if_pos h, if_neg h2]
theorem qzq (p : List UInt8) (hp : p.length <= 60) : qZe p = some (if (clsR p).1 >= p.length then ((0, 0, false, []), 0, ()) else ((2, 0, qzc p, (clsR p).2), (((clsR p).1 + 1 : Nat) : Int), ()), ()) := by
 unfold qZe
 have wb : ∀ j : Nat, IntKind.wrap IntKind.i64 (((UInt8.toNat (p.getD j 0)) : Nat) : Int) = (by8 p j : Int) := by
  intro j; have := qUj p j; unfold by8 at *; rw [wr _ (by omega)]
 have wb' : ∀ j : Nat, (((UInt8.toNat (p.getD j 0)) : Nat) : Int) = (by8 p j : Int) := fun j => rfl
 have wv : ∀ j : Nat, IntKind.wrap IntKind.i64 (by8 p j : Int) = (by8 p j : Int) := wb
 have ne93 : ∀ j : Nat, (((by8 p j : Nat) : Int) != 93) = decide (by8 p j ≠ 93) := by
  intro j; by_cases h : by8 p j = 93
  .rw [h]; rfl
  .rw [decide_eq_true h, bne_iff_ne]; omega
 have eq45 : ∀ j : Nat, (((by8 p j : Nat) : Int) == 45) = decide (by8 p j = 45) := by
  intro j; by_cases h : by8 p j = 45
  .rw [h]; rfl
  .rw [decide_eq_false h, beq_eq_false_iff_ne]; omega
 have eq33 : ∀ j : Nat, (((by8 p j : Nat) : Int) == 33) = (by8 p j == 33) := by
  intro j; by_cases h : by8 p j = 33
  .rw [h]; rfl
  .rw [beq_eq_false_iff_ne.mpr h, beq_eq_false_iff_ne]; omega
 refine (qu _
  (fun n s => ∃ (i : Nat), s = ((p, (), (), (i : Int), ()), (0, 0, false, (), ()), (2, 0, false, (), ()), List.replicate i false, ()) /\ i <= 256 /\ n = 256 - i)
  (fun _ => some (if (clsR p).1 >= p.length then ((0, 0, false, []), 0, ()) else ((2, 0, qzc p, (clsR p).2), (((clsR p).1 + 1 : Nat) : Int), ()), ())) ?_ _ 256 _ ?_ ?_).trans rfl
 .rintro n s k ⟨i, rfl, hi, rfl⟩ hk
  dsimp only
  by_cases hlt : i < 256
  .rw [decide_eq_true (show (i : Int) < 256 by omega), cond_true, if_pos (by rw [List.length_replicate]; show (i + 1) * 1 <= _; omega)]
   rw [wr _ (by omega)];rw [hk (256 - (i + 1)) _ (by omega) ⟨i + 1, by rw [List.replicate_succ']; rfl, by omega, rfl⟩]
  .have : i = 256 := by omega
   subst this;rw [decide_eq_false (by omega), cond_false];have e1 : (bif decide ((0 : Int) < (p.length : Int)) then
         if (0 : Int) <= (0 : Int) /\ (0 : Int) < (p.length : Int) then
          some ((p, (), (), (0 : Int), (((by8 p 0 : Nat) : Int) == 33), ()), ((0 : Int), (0 : Int), false, (), ()), ((2 : Int), (0 : Int), false, (), ()), List.replicate 256 false, ())
         else none
       else some ((p, (), (), (0 : Int), false, ()), ((0 : Int), (0 : Int), false, (), ()), ((2 : Int), (0 : Int), false, (), ()), List.replicate 256 false, ()) : Option ((List UInt8 × Unit × Unit × Int × Bool × Unit) × (Int × Int × Bool × Unit × Unit) × (Int × Int × Bool × Unit × Unit) × List Bool × Unit))
       = some ((p, (), (), (0 : Int), qzc p, ()), ((0 : Int), (0 : Int), false, (), ()), ((2 : Int), (0 : Int), false, (), ()), List.replicate 256 false, ()) := by
    unfold qzc
    by_cases h : 1 <= p.length
    .rw [decide_eq_true (show (0 : Int) < (p.length : Int) by omega), cond_true, if_pos (by omega), decide_eq_true h, eq33]; rfl
    .rw [decide_eq_false (show ¬(0 : Int) < (p.length : Int) by omega), decide_eq_false h]; rfl
   simp only [Int.toNat_zero, wb'];rw [e1];simp only [Option.bind_some];rw [show (bif qzc p then some ((p, (), (), IntKind.wrap IntKind.i64 ((0 : Int) + (1 : Int)), ()), ((0 : Int), (0 : Int), false, (), ()), ((2 : Int), (0 : Int), true, (), ()), List.replicate 256 false, ())
       else some ((p, (), (), (0 : Int), ()), ((0 : Int), (0 : Int), false, (), ()), ((2 : Int), (0 : Int), false, (), ()), List.replicate 256 false, ()) : Option ((List UInt8 × Unit × Unit × Int × Unit) × (Int × Int × Bool × Unit × Unit) × (Int × Int × Bool × Unit × Unit) × List Bool × Unit))
    = some ((p, (), (), (((if qzc p = true then 1 else 0) : Nat) : Int), ()), ((0 : Int), (0 : Int), false, (), ()), ((2 : Int), (0 : Int), qzc p, (), ()), List.replicate 256 false, ()) from by cases qzc p <;> rfl]
   rw [Option.bind_some];generalize hi0 : (if qzc p = true then 1 else 0 : Nat) = i0;have hR : clsR p = cls p i0 true (List.replicate 256 false) := by rw [<- hi0]; rfl
   rw [hR];have hi0' : i0 <= 1 := by rw [<- hi0]; split <;> omega
   refine (qu _
    (fun n s => ∃ (i : Nat) (first : Bool) (set : List Bool), s = ((p, (), (), (i : Int), first, ()), (0, 0, false, (), ()), (2, 0, qzc p, (), ()), set, ()) /\ set.length = 256 /\ i <= 64 /\ n = p.length - i)
    (fun s => some (if (cls p s.1.2.2.2.1.toNat s.1.2.2.2.2.1 s.2.2.2.1).1 >= p.length then ((0, 0, false, []), 0, ()) else ((2, 0, qzc p, (cls p s.1.2.2.2.1.toNat s.1.2.2.2.2.1 s.2.2.2.1).2), (((cls p s.1.2.2.2.1.toNat s.1.2.2.2.2.1 s.2.2.2.1).1 + 1 : Nat) : Int), ()), ())) ?_ _ (p.length - i0) _ ?_ ?_).trans ?_
   .clear hk e1
    rintro n s k ⟨i, first, set, rfl, hs, hi, rfl⟩ hk;have w1 : IntKind.wrap IntKind.i64 ((i : Int) + 1) = ((i + 1 : Nat) : Int) := by rw [wr _ (by omega)]; omega
    have w2 : IntKind.wrap IntKind.i64 ((i : Int) + 2) = ((i + 2 : Nat) : Int) := by rw [wr _ (by omega)]; omega
    have w3 : IntKind.wrap IntKind.i64 ((i : Int) + 3) = ((i + 3 : Nat) : Int) := by rw [wr _ (by omega)]; omega
    dsimp only;simp only [w1, w2, w3, Int.toNat_natCast, wb, wb', wv, ne93, eq45]
    by_cases hc : i < p.length /\ (first = true ∨ by8 p i ≠ 93)
    .obtain ⟨hl, hf⟩ := hc
     have hg : (0 : Int) <= (i : Int) /\ (i : Int) < (p.length : Int) := by omega
     have hd : decide ((i : Int) < (p.length : Int)) = true := decide_eq_true hg.2;have step1 : (bif first then some ((p, (), (), (i : Int), true, ()), ((0 : Int), (0 : Int), false, (), ()), ((2 : Int), (0 : Int), qzc p, (), ()), set, ()) else some ((p, (), (), (i : Int), decide (by8 p i ≠ 93), ()), ((0 : Int), (0 : Int), false, (), ()), ((2 : Int), (0 : Int), qzc p, (), ()), set, ()) : Option ((List UInt8 × Unit × Unit × Int × Bool × Unit) × (Int × Int × Bool × Unit × Unit) × (Int × Int × Bool × Unit × Unit) × List Bool × Unit)) = some ((p, (), (), (i : Int), true, ()), ((0 : Int), (0 : Int), false, (), ()), ((2 : Int), (0 : Int), qzc p, (), ()), set, ()) := by
      rcases hf with rfl | h
      .rfl
      .rw [decide_eq_true h]; cases first <;> rfl
     rw [hd];simp only [cond_true, if_pos hg, step1, Option.bind_some, w1, w2, w3, Int.toNat_natCast, wb, wb', wv, ne93, eq45]
     by_cases hr : i + 2 < p.length /\ by8 p (i + 1) = 45 /\ by8 p (i + 2) ≠ 93
     .rw [qcw ⟨hl, hf⟩ hr]
      have d1 : decide (((i + 2 : Nat) : Int) < (p.length : Int)) = true := decide_eq_true (by omega);have g1 : (0 : Int) <= ((i + 1 : Nat) : Int) /\ ((i + 1 : Nat) : Int) < (p.length : Int) := by omega
      have g2 : (0 : Int) <= ((i + 2 : Nat) : Int) /\ ((i + 2 : Nat) : Int) < (p.length : Int) := by omega
      rw [d1];simp only [cond_true, if_pos g1, if_pos g2, if_pos hg, decide_eq_true hr.2.1, decide_eq_true hr.2.2, Option.bind_some, w1, w2, w3, Int.toNat_natCast, wb, wb', wv];refine (congrArg (fun o => Option.bind o _) ((qu _
       (fun n s => ∃ (lo : Nat) (set' : List Bool), s = ((p, (), (), ((i : Nat) : Int), false, (lo : Int), ()), (0, 0, false, (), ()), (2, 0, qzc p, (), ()), set', ()) /\ set'.length = 256 /\ lo <= 257 /\ n = by8 p (i + 2) + 1 - lo)
       (fun s => some ((p, (), (), ((i + 3 : Nat) : Int), false, ()), (0, 0, false, (), ()), (2, 0, qzc p, (), ()), qHr (by8 p (i + 2) + 1 - s.1.2.2.2.2.2.1.toNat) s.1.2.2.2.2.2.1.toNat s.2.2.2.1, ())) ?_ _ (by8 p (i + 2) + 1 - by8 p i) _ ?_ ?_))).trans ?_
      .rintro n s k1 ⟨lo, set', rfl, hs', hlo, rfl⟩ hk1
       dsimp only;have wlo : IntKind.wrap IntKind.i64 ((lo : Int) + 1) = ((lo + 1 : Nat) : Int) := by rw [wr _ (by omega)]; omega
       simp only [cond_true, if_pos g2, w2, w3, Int.toNat_natCast, wb, wb', wv, wlo]
       by_cases hle : lo <= by8 p (i + 2)
       .have hlt : by8 p (i + 2) < 256 := qUj _ _
        have c1 : (0 : Int) <= (lo : Int) /\ (lo : Int) < (set'.length : Int) := by omega
        have c2 : lo < set'.length := by omega
        rw [decide_eq_true (show ((lo : Int) <= (by8 p (i + 2) : Int)) by omega), cond_true, if_pos c1];rw [if_pos c2];rw [hk1 (by8 p (i + 2) + 1 - (lo + 1)) _ (by omega) ⟨lo + 1, _, rfl, by rw [List.length_set]; exact hs', by omega, rfl⟩];simp only [Int.toNat_natCast];rw [show by8 p (i + 2) + 1 - lo = (by8 p (i + 2) + 1 - (lo + 1)) + 1 by omega, qHr]
       .rw [decide_eq_false (show ¬((lo : Int) <= (by8 p (i + 2) : Int)) by omega), cond_false]
        rw [show by8 p (i + 2) + 1 - lo = 0 by omega, qHr]
      .exact ⟨by8 p i, set, rfl, hs, by have := qUj p i; omega, rfl⟩
      .have := qUj p i; have := qUj p (i + 2); try simp only [Int.toNat_natCast]
       omega
      .simp only [Int.toNat_natCast, Option.bind_some]
       rw [hk (p.length - (i + 3)) _ (by omega) ⟨i + 3, false, _, rfl, by rw [qWh]; exact hs, by omega, rfl⟩];simp only [Int.toNat_natCast]
     .rw [qny ⟨hl, hf⟩ hr]
      have e3 : ∀ (T : Type) (A B : T), (bif decide (((i + 2 : Nat) : Int) < (p.length : Int)) then
          if (0 : Int) <= ((i + 1 : Nat) : Int) /\ ((i + 1 : Nat) : Int) < (p.length : Int) then
           bif decide (by8 p (i + 1) = 45) then
            if (0 : Int) <= ((i + 2 : Nat) : Int) /\ ((i + 2 : Nat) : Int) < (p.length : Int) then
             some ((p, (), (), (i : Int), false, decide (by8 p (i + 2) ≠ 93), ()), ((0 : Int), (0 : Int), false, (), ()), ((2 : Int), (0 : Int), qzc p, (), ()), set, ())
            else none
           else some ((p, (), (), (i : Int), false, false, ()), ((0 : Int), (0 : Int), false, (), ()), ((2 : Int), (0 : Int), qzc p, (), ()), set, ())
          else none
       else some ((p, (), (), (i : Int), false, false, ()), ((0 : Int), (0 : Int), false, (), ()), ((2 : Int), (0 : Int), qzc p, (), ()), set, ()) : Option ((List UInt8 × Unit × Unit × Int × Bool × Bool × Unit) × (Int × Int × Bool × Unit × Unit) × (Int × Int × Bool × Unit × Unit) × List Bool × Unit)) = some ((p, (), (), (i : Int), false, false, ()), ((0 : Int), (0 : Int), false, (), ()), ((2 : Int), (0 : Int), qzc p, (), ()), set, ()) := by
       intro _ _ _
       by_cases a1 : i + 2 < p.length
       .have d1 : decide (((i + 2 : Nat) : Int) < (p.length : Int)) = true := decide_eq_true (by omega)
        have g1 : (0 : Int) <= ((i + 1 : Nat) : Int) /\ ((i + 1 : Nat) : Int) < (p.length : Int) := by omega
        have g2 : (0 : Int) <= ((i + 2 : Nat) : Int) /\ ((i + 2 : Nat) : Int) < (p.length : Int) := by omega
        rw [d1]; simp only [cond_true, if_pos g1, if_pos g2]
        by_cases a2 : by8 p (i + 1) = 45
        .have a3 : ¬ by8 p (i + 2) ≠ 93 := fun h => hr ⟨a1, a2, h⟩
         rw [decide_eq_true a2, decide_eq_false a3]; rfl
        .rw [decide_eq_false a2]; rfl
       .have d1 : decide (((i + 2 : Nat) : Int) < (p.length : Int)) = false := decide_eq_false (by omega)
        rw [d1]; rfl
      rw [e3 Unit () ()];have c1 : (0 : Int) <= (by8 p i : Int) /\ (by8 p i : Int) < (set.length : Int) := by have := qUj p i; omega
      have c2 : by8 p i < set.length := by omega
      simp only [Option.bind_some, cond_false, if_pos hg, Int.toNat_natCast, wb', if_pos c1, if_pos c2, w1];rw [if_pos (show (p.getD i 0).toNat < set.length from c2), Option.bind_some];refine (hk (p.length - (i + 1)) _ (by omega) ⟨i + 1, false, set.set (by8 p i) true, rfl, by rw [List.length_set]; exact hs, by omega, rfl⟩).trans ?_;simp only [Int.toNat_natCast]
    .rw [qrx hc]
     have step1 : (bif decide ((i : Int) < (p.length : Int)) then bif first then some ((p, (), (), (i : Int), true, ()), ((0 : Int), (0 : Int), false, (), ()), ((2 : Int), (0 : Int), qzc p, (), ()), set, ()) else if (0 : Int) <= (i : Int) /\ (i : Int) < (p.length : Int) then some ((p, (), (), (i : Int), decide (by8 p i ≠ 93), ()), ((0 : Int), (0 : Int), false, (), ()), ((2 : Int), (0 : Int), qzc p, (), ()), set, ()) else none else some ((p, (), (), (i : Int), false, ()), ((0 : Int), (0 : Int), false, (), ()), ((2 : Int), (0 : Int), qzc p, (), ()), set, ()) : Option ((List UInt8 × Unit × Unit × Int × Bool × Unit) × (Int × Int × Bool × Unit × Unit) × (Int × Int × Bool × Unit × Unit) × List Bool × Unit)) = some ((p, (), (), (i : Int), false, ()), ((0 : Int), (0 : Int), false, (), ()), ((2 : Int), (0 : Int), qzc p, (), ()), set, ()) := by
      by_cases hl : i < p.length
      .rw [decide_eq_true (show ((i : Int) < (p.length : Int)) by omega), cond_true, if_pos (show (0 : Int) <= (i : Int) /\ (i : Int) < (p.length : Int) by omega)]
       have hf : first = false := by cases first; rfl; exact absurd ⟨hl, Or.inl rfl⟩ hc
       have h9 : ¬ by8 p i ≠ 93 := fun h => hc ⟨hl, Or.inr h⟩
       rw [hf, decide_eq_false h9]; rfl
      .rw [decide_eq_false (show ¬((i : Int) < (p.length : Int)) by omega)]; rfl
     rw [step1];simp only [Option.bind_some, cond_false]
     by_cases hl : i >= p.length
     .rw [decide_eq_true (show (i : Int) >= (p.length : Int) by omega), if_pos hl]; rfl
     .rw [decide_eq_false (show ¬((i : Int) >= (p.length : Int)) by omega), if_neg hl, cond_false, w1]
   .exact ⟨i0, true, _, rfl, List.length_replicate .., by omega, rfl⟩
   .try simp only []
    omega
   .simp only [Int.toNat_natCast]
 .exact ⟨0, rfl, by omega, rfl⟩
 .try simp only []
  omega
inductive Pc where
 | byte (b : Nat) | any (b : Nat) | star (b : Nat) | stars (b : Nat) | cl (nt : Bool) (s : List Bool)
def Pc.S : Pc -> Int × Int × Bool × List Bool
 | .byte b => (0, b, false, [])
 | .any b => (1, b, false, [])
 | .star b => (3, b, false, [])
 | .stars b => (4, b, false, [])
 | .cl nt s => (2, 0, nt, s)
def Pc.I : Pc -> Int × Bool × List Bool
 | .byte b => (0, false, (List.replicate 256 false).set b true)
 | .any _ => (1, false, List.replicate 256 false)
 | .star _ => (2, false, List.replicate 256 false)
 | .stars _ => (3, false, List.replicate 256 false)
 | .cl nt s => (4, nt, s)
def pc1 (p : List UInt8) : Option (Pc × Nat) :=
 if (decide (2 <= p.length) && (p.take 2 == [42, 42])) = true then some (.stars (by8 p 0), 2)
 else if by8 p 0 = 42 then some (.star (by8 p 0), 1)
 else if by8 p 0 = 63 then some (.any (by8 p 0), 1)
 else if by8 p 0 = 91 then (if (clsR (p.drop 1)).1 >= (p.drop 1).length then none else some (.cl (qzc (p.drop 1)) (clsR (p.drop 1)).2, 1 + ((clsR (p.drop 1)).1 + 1)))
 else if by8 p 0 = 92 then (if p.length < 2 then none else some (.byte (by8 p 1), 2))
 else some (.byte (by8 p 0), 1)
def pcs : Nat -> List UInt8 -> Option (List Pc)
 | 0, _ => some []
 | n + 1, p => if p.length = 0 then some [] else
  match pc1 p with
  | none => none
  | some (c, m) => (pcs n (p.drop m)).map (c :: ·)
theorem qOm {p c m} (h : pc1 p = some (c, m)) (hp : 0 < p.length) : 1 <= m /\ m <= p.length := by
 unfold pc1 at h
 split at h
 .next h1 =>
  simp only [Bool.and_eq_true, decide_eq_true_eq] at h1;cases h; omega
 split at h
 .cases h; omega
 split at h
 .cases h; omega
 split at h
 .split at h
  .cases h
  .next h2 => cases h; rw [List.length_drop] at h2; omega
 split at h
 .split at h
  .cases h
  .cases h; omega
 .cases h; omega
theorem qlx : ∀ n p m, p.length <= n -> n <= m -> pcs m p = pcs n p := by
 intro n
 induction n with
 | zero => intro p m h _; cases m with
  | zero => rfl
  | succ m => rw [show pcs 0 p = some [] from rfl, pcs, if_pos (by omega)]
 | succ n ih =>
  intro p m h hm;obtain ⟨m, rfl⟩ : ∃ m', m = m' + 1 := ⟨m - 1, by omega⟩;rw [pcs, pcs]
  split
  .rfl
  .next h0 =>
   cases hc : pc1 p with
   | none => rfl
   | some x =>
    obtain ⟨c, k⟩ := x;have := qOm hc (by omega);simp only;rw [ih (p.drop k) m (by rw [List.length_drop]; omega) (by omega)]
def qKf (p : List UInt8) : Option (List Pc) := pcs p.length p
theorem qKu : qKf [] = some [] := rfl
theorem qEm {p} (hp : p.length ≠ 0) (h : pc1 p = none) : qKf p = none := by
 unfold qKf
 obtain ⟨n, hn⟩ : ∃ n, p.length = n + 1 := ⟨p.length - 1, by omega⟩
 rw [hn, pcs, if_neg hp, h]
theorem qDs {p c m} (hp : p.length ≠ 0) (h : pc1 p = some (c, m)) : qKf p = (qKf (p.drop m)).map (c :: ·) := by
 have := qOm h (by omega)
 unfold qKf
 obtain ⟨n, hn⟩ : ∃ n, p.length = n + 1 := ⟨p.length - 1, by omega⟩
 rw [hn, pcs, if_neg hp, h]
 simp only
 rw [qlx (p.drop m).length (p.drop m) n (by omega) (by rw [List.length_drop]; omega)]
theorem qTc {S α : Type} (s : S) (k : S -> Option α) : qVb (some (.inl s)) k = k s := rfl
theorem qbq (a b c : Int) : qD a b c = some (decide (a >= b /\ a <= c), ()) := by
 unfold qD
 by_cases h : a >= b <;> by_cases h2 : a <= c <;> simp [h, h2]
theorem eqI (p : List UInt8) (j n : Nat) : ((((p.getD j 0).toNat : Nat) : Int) == (n : Int)) = decide (by8 p j = n) := by
 by_cases h : by8 p j = n
 .rw [decide_eq_true h, beq_iff_eq]; unfold by8 at h; omega
 .rw [decide_eq_false h, beq_eq_false_iff_ne]; unfold by8 at h; omega
theorem qfj (p : List UInt8) : qRc p = some (if 1 <= p.length /\ p.length <= 60 then (match qKf p with | none => ([], false, ()) | some l => (l.map Pc.S, true, ())) else ([], false, ()), ()) := by
 unfold qRc
 rw [qbq, Option.bind_some]
 by_cases hp : 1 <= p.length /\ p.length <= 60
 .rw [decide_eq_true (show (p.length : Int) >= 1 /\ (p.length : Int) <= 60 by omega), if_pos hp]
  simp only [Bool.not_true, cond_false];refine (qu _
   (fun n s => ∃ (q : List UInt8) (out : List (Int × Int × Bool × List Bool)), s = ((q, (), ()), out, ()) /\ q.length <= 60 /\ out.length + q.length <= 60 /\ n = q.length)
   (fun s => some (match qKf s.1.1 with | none => ([], false, ()) | some l => (s.2.1 ++ l.map Pc.S, true, ()), ())) ?_ _ p.length _ ?_ ?_).trans ?_
  .rintro n s k ⟨q, out, rfl, hq, ho, rfl⟩ hk
   dsimp only
   by_cases h0 : q.length = 0
   .have : q = [] := List.eq_nil_of_length_eq_zero h0
    subst this;rw [qKu];exact congrArg (fun l => some ((l, true, ()), ())) (List.append_nil out).symm
   .have g0 : (0 : Int) <= 0 /\ (0 : Int) < (q.length : Int) := by omega
    rw [decide_eq_true (show (q.length : Int) > 0 by omega), cond_true, if_pos g0];have hk' : ∀ (m : Nat) (c : Pc), pc1 q = some (c, m) -> k ((List.drop m (List.take q.length q), (), ()), out ++ [c.S], ()) = some (match qKf q with | none => ([], false, ()) | some l => (out ++ l.map Pc.S, true, ()), ()) := by
     intro m c hc;have := qOm hc (by omega);rw [hk (q.drop m).length _ (by rw [List.length_drop]; omega) ⟨q.drop m, out ++ [c.S], by rw [List.take_length], by rw [List.length_drop]; omega, by rw [List.length_append, List.length_drop]; show out.length + 1 + _ <= _; omega, rfl⟩];rw [qDs h0 hc, List.take_length];cases qKf (q.drop m) with
     | none => rfl
     | some l => simp
    have gk : ∀ m c, pc1 q = some (c, m) -> ((0 : Int) <= (m : Int) /\ (m : Int) <= (q.length : Int) /\ (q.length : Int) <= (q.length : Int)) := by
     intro m c hc; have := qOm hc (by omega); omega
    have gl : ∀ x : Int × Int × Bool × List Bool, (out.length + List.length [x]) * 40 <= 140737488355328 := by
     intro x; show (out.length + 1) * 40 <= _; omega
    have fin : ∀ (mi : Int) (m : Nat) (c : Pc) (x : Int × Int × Bool × List Bool), mi = (m : Int) -> x = c.S -> pc1 q = some (c, m) ->
        (if (0 : Int) <= mi /\ mi <= (q.length : Int) /\ (q.length : Int) <= (q.length : Int) then k ((List.drop (Int.toNat mi) (List.take (Int.toNat (q.length : Int)) q), (), ()), out ++ [x], ()) else none) = some (match qKf q with | none => ([], false, ()) | some l => (out ++ l.map Pc.S, true, ()), ()) := by
     intro mi m c x e1 e2 hc;subst e1 e2;rw [if_pos (gk _ _ hc), Int.toNat_natCast, Int.toNat_natCast];exact hk' m c hc
    have e42 : ((((q.getD 0 0).toNat : Nat) : Int) == (42 : Int)) = decide (by8 q 0 = 42) := eqI q 0 42;have e63 : ((((q.getD 0 0).toNat : Nat) : Int) == (63 : Int)) = decide (by8 q 0 = 63) := eqI q 0 63;have e91 : ((((q.getD 0 0).toNat : Nat) : Int) == (91 : Int)) = decide (by8 q 0 = 91) := eqI q 0 91;have e92 : ((((q.getD 0 0).toNat : Nat) : Int) == (92 : Int)) = decide (by8 q 0 = 92) := eqI q 0 92;have tz : Int.toNat (0 : Int) = 0 := rfl;have t1 : Int.toNat (1 : Int) = 1 := rfl;have t2 : Int.toNat (2 : Int) = 2 := rfl;have es : ∀ X : Int × Int × Bool × Unit × Unit, (bif decide ((q.length : Int) > 1) then
        if (0 : Int) <= (0 : Int) /\ (0 : Int) <= (2 : Int) /\ (2 : Int) <= (q.length : Int) then
         some ((q, (), (1 : Int), (), List.take 2 q == [(42 : UInt8), (42 : UInt8)], ()), out, X, ())
        else none
     else some ((q, (), (1 : Int), (), false, ()), out, X, ()) : Option ((List UInt8 × Unit × Int × Unit × Bool × Unit) × List (Int × Int × Bool × List Bool) × (Int × Int × Bool × Unit × Unit) × Unit))
     = some ((q, (), (1 : Int), (), (decide (2 <= q.length) && (q.take 2 == [42, 42])), ()), out, X, ()) := by
     intro X
     by_cases h : 2 <= q.length
     .rw [decide_eq_true (show (q.length : Int) > 1 by omega), cond_true, if_pos (by omega), decide_eq_true h, Bool.true_and]
     .rw [decide_eq_false (show ¬(q.length : Int) > 1 by omega), decide_eq_false h]; rfl
    simp only [tz, t2, List.drop_zero];rw [es, Option.bind_some];simp only [tz]
    by_cases c1 : (decide (2 <= q.length) && (q.take 2 == [42, 42])) = true
    .have hc : pc1 q = some (.stars (by8 q 0), 2) := by unfold pc1; rw [if_pos c1]
     rw [c1];simp only [cond_true, qTc, if_pos (gl _)];exact fin _ _ _ _ rfl rfl hc
    .rw [eq_false_of_ne_true c1]
     simp only [cond_false, if_pos g0, tz, t1, e42, e63, e91, e92]
     by_cases c2 : by8 q 0 = 42
     .have hc : pc1 q = some (.star (by8 q 0), 1) := by unfold pc1; rw [if_neg c1, if_pos c2]
      simp only [decide_eq_true c2, cond_true, if_pos (gl _), qTc];exact fin _ _ _ _ rfl rfl hc
     by_cases c3 : by8 q 0 = 63
     .have hc : pc1 q = some (.any (by8 q 0), 1) := by unfold pc1; rw [if_neg c1, if_neg c2, if_pos c3]
      simp only [decide_eq_false c2, cond_false, decide_eq_true c3, cond_true, if_pos (gl _), qTc];exact fin _ _ _ _ rfl rfl hc
     by_cases c4 : by8 q 0 = 91
     .have g1 : (0 : Int) <= 1 /\ (1 : Int) <= (q.length : Int) /\ (q.length : Int) <= (q.length : Int) := by omega
      simp only [decide_eq_false c2, decide_eq_false c3, cond_false, decide_eq_true c4, cond_true, if_pos g1, Int.toNat_natCast, List.take_length];have hl : (q.drop 1).length <= 60 := by rw [List.length_drop]; omega
      rw [qzq _ hl, Option.bind_some]
      by_cases c5 : (clsR (q.drop 1)).1 >= (q.drop 1).length
      .have hc : pc1 q = none := by unfold pc1; rw [if_neg c1, if_neg c2, if_neg c3, if_pos c4, if_pos c5]
       rw [if_pos c5, qEm h0 hc];rfl
      .have hc : pc1 q = some (.cl (qzc (q.drop 1)) (clsR (q.drop 1)).2, 1 + ((clsR (q.drop 1)).1 + 1)) := by unfold pc1; rw [if_neg c1, if_neg c2, if_neg c3, if_pos c4, if_neg c5]
       have := qOm hc (by omega);rw [if_neg c5];simp only;rw [show (((((clsR (q.drop 1)).1 + 1 : Nat) : Int)) == (0 : Int)) = false from by rw [beq_eq_false_iff_ne]; omega];simp only [cond_false, Option.bind_some, if_pos (gl _), qTc];have := fin (IntKind.wrap IntKind.i64 ((1 : Int) + (((clsR (q.drop 1)).1 + 1 : Nat) : Int))) _ _ _ (by rw [wr _ (by omega)]; omega) rfl hc;simp only [Int.toNat_natCast, List.take_length] at this;exact this
     by_cases c5 : by8 q 0 = 92
     .simp only [decide_eq_false c2, decide_eq_false c3, decide_eq_false c4, cond_false, decide_eq_true c5, cond_true]
      by_cases c6 : q.length < 2
      .have hc : pc1 q = none := by unfold pc1; rw [if_neg c1, if_neg c2, if_neg c3, if_neg c4, if_pos c5, if_pos c6]
       have : ((q.length : Int) == (1 : Int)) = true := by rw [beq_iff_eq]; omega
       rw [qEm h0 hc, this];rfl
      .have hc : pc1 q = some (.byte (by8 q 1), 2) := by unfold pc1; rw [if_neg c1, if_neg c2, if_neg c3, if_neg c4, if_pos c5, if_neg c6]
       have : ((q.length : Int) == (1 : Int)) = false := by rw [beq_eq_false_iff_ne]; omega
       rw [this];simp only [cond_false];rw [if_pos (show (0 : Int) <= 1 /\ (1 : Int) < (q.length : Int) by omega)];simp only [if_pos (gl _), qTc];exact fin _ _ _ _ rfl rfl hc
     .have hc : pc1 q = some (.byte (by8 q 0), 1) := by unfold pc1; rw [if_neg c1, if_neg c2, if_neg c3, if_neg c4, if_neg c5]
      simp only [decide_eq_false c2, decide_eq_false c3, decide_eq_false c4, decide_eq_false c5, cond_false, if_pos (gl _), qTc];exact fin _ _ _ _ rfl rfl hc
  .exact ⟨p, [], rfl, by omega, by show 0 + _ <= _; omega, rfl⟩
  .show p.length < p.length + 0 + 300; omega
  .cases qKf p <;> simp [qc]
 .rw [decide_eq_false (by omega), if_neg hp]; rfl
def Pc.takes : Pc -> Nat -> Bool
 | .byte x, b => b == x
 | .any _, b => b != 47
 | .star _, b => b != 47
 | .stars _, _ => true
 | .cl nt s, b => b != 47 && (!(s.getD b false == nt))
def Pc.many : Pc -> Bool
 | .star _ => true
 | .stars _ => true
 | _ => false
def Pc.wf : Pc -> Prop
 | .byte x => x < 256
 | .cl _ s => s.length = 256
 | _ => True
theorem qNw (p : List UInt8) : (clsR p).2.length = 256 := by
 unfold clsR; rw [qmy p _ _ _ _ (Nat.le_refl _), List.length_replicate]
theorem qAy {p c m} (h : pc1 p = some (c, m)) : c.wf := by
 unfold pc1 at h
 split at h
 .cases h; trivial
 split at h
 .cases h; trivial
 split at h
 .cases h; trivial
 split at h
 .split at h
  .cases h
  .cases h; exact qNw _
 split at h
 .split at h
  .cases h
  .cases h; exact qUj _ _
 .cases h; exact qUj _ _
theorem qFy : ∀ n p l, pcs n p = some l -> ∀ c ∈ l, c.wf := by
 intro n
 induction n with
 | zero => intro p l h; cases h; intro c hc; cases hc
 | succ n ih =>
  intro p l h;rw [pcs] at h
  split at h
  .cases h; intro c hc; cases hc
  .cases hc : pc1 p with
   | none => rw [hc] at h; cases h
   | some x =>
    obtain ⟨c, k⟩ := x;rw [hc] at h;simp only at h;cases hq : pcs n (p.drop k) with
    | none => rw [hq] at h; cases h
    | some l' =>
     rw [hq] at h;cases h;intro d hd;rcases List.mem_cons.mp hd with rfl | hd
     .exact qAy hc
     .exact ih _ _ hq d hd
theorem qIw {p l} (h : qKf p = some l) : ∀ c ∈ l, c.wf := qFy _ _ _ h
theorem qHu : ∀ n p l, pcs n p = some l -> l.length <= n := by
 intro n
 induction n with
 | zero => intro p l h; cases h; exact Nat.le_refl _
 | succ n ih =>
  intro p l h;rw [pcs] at h
  split at h
  .cases h; exact Nat.zero_le _
  .cases hc : pc1 p with
   | none => rw [hc] at h; cases h
   | some x =>
    obtain ⟨c, k⟩ := x;rw [hc] at h;simp only at h;cases hq : pcs n (p.drop k) with
    | none => rw [hq] at h; cases h
    | some l' => rw [hq] at h; cases h; have := ih _ _ hq; simp only [List.length_cons]; omega
theorem ne47 (b : Nat) : (((b : Nat) : Int) != (47 : Int)) = (b != 47) := by
 by_cases h : b = 47
 .subst h; rfl
 .rw [bne_iff_ne.mpr h, bne_iff_ne]; omega
theorem eqNN (a b : Nat) : (((a : Nat) : Int) == ((b : Nat) : Int)) = (a == b) := by
 by_cases h : a = b
 .subst h; simp
 .rw [beq_eq_false_iff_ne.mpr h, beq_eq_false_iff_ne]; omega
def nx (c : Pc) (s : List UInt8) (at' : List Bool) : Nat -> Bool
 | 0 => c.many && at'.getD 0 false
 | i + 1 => bif c.many then at'.getD (i + 1) false || (nx c s at' i && c.takes (by8 s i)) else at'.getD i false && c.takes (by8 s i)
def qnr (f : Nat -> Bool) (n : Nat) : List Bool := (List.range (n + 1)).map f
theorem qkn (f n) : (qnr f n).length = n + 1 := by simp [qnr]
theorem qqx {f : Nat -> Bool} {n : Nat} {l : List Bool} (hl : l.length = n + 1) (h : ∀ j, j <= n -> l.getD j false = f j) : l = qnr f n := by
 apply List.ext_getElem
 .rw [hl, qkn]
 .intro i h1 h2
  have := h i (by omega);rw [List.getD_eq_getElem?_getD, List.getElem?_eq_getElem h1] at this;simp only [qnr, List.getElem_map, List.getElem_range];exact this
def row0 (n : Nat) : List Bool := true :: List.replicate n false
def rows (s : List UInt8) (l : List Pc) (at' : List Bool) : List Bool := l.foldl (fun a c => qnr (nx c s a) s.length) at'
def qyy (l : List Pc) (s : List UInt8) : Bool := (rows s l (row0 s.length)).getD s.length false
theorem qam {l : List Bool} {i j : Nat} {b : Bool} (hi : i < l.length) : (l.set i b).getD j false = if i = j then b else l.getD j false := by
 rw [List.getD_eq_getElem?_getD, List.getElem?_set]
 by_cases h : i = j
 .rw [if_pos h, if_pos h, if_pos hi]; rfl
 .rw [if_neg h, if_neg h, List.getD_eq_getElem?_getD]
theorem qEx {n j : Nat} : (List.replicate n false).getD j false = false := by
 rw [List.getD_eq_getElem?_getD, List.getElem?_replicate]; split <;> rfl
def pre (c : Pc) (s : List UInt8) (at' : List Bool) : Nat -> Bool
 | 0 => false
 | i + 1 => c.takes (by8 s i) && (at'.getD i false || (c.many && nx c s at' i))
theorem qIy (c : Pc) (s at' i) : nx c s at' i = ((c.many && at'.getD i false) || pre c s at' i) := by
 cases i with
 | zero => rw [nx, pre, Bool.or_false]
 | succ i =>
  rw [nx, pre];cases hm : c.many with
  | false => cases c.takes (by8 s i) <;> cases at'.getD i false <;> rfl
  | true =>
   cases i with
   | zero => rw [nx, hm]; cases c.takes (by8 s 0) <;> cases at'.getD 0 false <;> cases at'.getD 1 false <;> rfl
   | succ i =>
    rw [nx, hm];cases c.takes (by8 s (i + 1)) <;> cases at'.getD (i + 1) false <;> cases at'.getD (i + 1 + 1) false <;> simp
theorem qWy (c : Pc) : decide (c.S.1 >= 3) = c.many := by cases c <;> rfl
theorem qar (l : List Pc) (k : Nat) (hk : k < l.length) (d) : (l.map Pc.S).getD k d = (l[k]).S := by
 rw [List.getD_eq_getElem?_getD, List.getElem?_map, List.getElem?_eq_getElem hk]; rfl
def nxt1 (c : Pc) (at' next : List Bool) (i : Nat) : List Bool := bif c.many && at'.getD i false then next.set i true else next
def nxt2 (n : Nat) (c : Pc) (s : List UInt8) (at' next : List Bool) (i : Nat) : List Bool := bif decide (i < n) && pre c s at' (i + 1) then (nxt1 c at' next i).set (i + 1) true else nxt1 c at' next i
def qop (n : Nat) (c : Pc) (s : List UInt8) (at' : List Bool) (i : Nat) (next : List Bool) : Prop :=
 next.length = n + 1 /\ ∀ j, j <= n -> next.getD j false = if j < i then nx c s at' j else if j = i then pre c s at' i else false
theorem qMp {c at' next i} : (nxt1 c at' next i).length = next.length := by unfold nxt1; cases (c.many && at'.getD i false) <;> simp
theorem qMw {n c s at' next i} (h : qop n c s at' i next) (hi : i <= n) : (nxt1 c at' next i).getD i false = nx c s at' i := by
 have h2 := h.2 i hi
 rw [if_neg (Nat.lt_irrefl i), if_pos rfl] at h2
 rw [qIy]
 unfold nxt1
 cases (c.many && at'.getD i false) with
 | true => rw [cond_true, qam (by rw [h.1]; omega), if_pos rfl]; rfl
 | false => rw [cond_false, h2]; rfl
theorem qqw {n c s at' next i j} (h : qop n c s at' i next) (hi : i <= n) (hj : j ≠ i) : (nxt1 c at' next i).getD j false = next.getD j false := by
 unfold nxt1
 cases (c.many && at'.getD i false) with
 | true => rw [cond_true, qam (by rw [h.1]; omega), if_neg (fun e => hj e.symm)]
 | false => rw [cond_false]
theorem qop.step {n c s at' next i} (h : qop n c s at' i next) (hi : i <= n) : qop n c s at' (i + 1) (nxt2 n c s at' next i) := by
 constructor
 .unfold nxt2; cases (decide (i < n) && pre c s at' (i + 1)) <;> simp [qMp, h.1]
 .intro j hj
  have key : (nxt2 n c s at' next i).getD j false = if j = i + 1 then pre c s at' (i + 1) else (nxt1 c at' next i).getD j false := by
   unfold nxt2
   by_cases hin : i < n
   .rw [decide_eq_true hin, Bool.true_and]
    cases hp : pre c s at' (i + 1) with
    | true =>
     rw [cond_true, qam (by rw [qMp, h.1]; omega)]
     by_cases hj1 : j = i + 1
     .rw [if_pos hj1, if_pos hj1.symm]
     .rw [if_neg hj1, if_neg (fun e => hj1 e.symm)]
    | false =>
     rw [cond_false]
     by_cases hj1 : j = i + 1
     .rw [if_pos hj1, qqw h hi (by omega), h.2 j hj, if_neg (by omega), if_neg (by omega)]
     .rw [if_neg hj1]
   .rw [decide_eq_false hin, Bool.false_and, cond_false, if_neg (by omega)]
  rw [key]
  by_cases hj1 : j = i + 1
  .rw [if_pos hj1, if_neg (by omega), if_pos hj1]
  .rw [if_neg hj1]
   by_cases hji : j = i
   .subst hji; rw [if_pos (by omega), qMw h hi]
   .rw [qqw h hi hji, h.2 j hj, if_neg hji, if_neg hj1]
    by_cases hl : j < i
    .rw [if_pos hl, if_pos (by omega)]
    .rw [if_neg hl, if_neg (by omega)]
def qej (p s : List UInt8) : Bool := match (if 1 <= p.length /\ p.length <= 60 then qKf p else none) with | none => false | some l => decide (s.length <= 200) && qyy l s
def RowI (n : Nat) (c : Pc) (s : List UInt8) (at' : List Bool) (i : Nat) (next : List Bool) : Prop :=
 next.length = n + 1 /\ ∀ j, j <= n -> next.getD j false = if j < i then nx c s at' j else false
theorem RowI.set {n c s at' next i} (h : RowI n c s at' i next) (hi : i <= n) {x : Bool} (hx : x = nx c s at' i) : RowI n c s at' (i + 1) (next.set i x) := by
 refine ⟨by rw [List.length_set]; exact h.1, fun j hj => ?_⟩
 rw [qam (by rw [h.1]; omega)]
 by_cases hij : i = j
 .subst hij; rw [if_pos rfl, if_pos (by omega), hx]
 .rw [if_neg hij, h.2 j hj]
  by_cases hl : j < i
  .rw [if_pos hl, if_pos (by omega)]
  .rw [if_neg hl, if_neg (by omega)]
theorem RowI.same {n c s at' next i} (h : RowI n c s at' i next) (hx : nx c s at' i = false) : RowI n c s at' (i + 1) next := by
 refine ⟨h.1, fun j hj => ?_⟩
 rw [h.2 j hj]
 by_cases hij : j = i
 .subst hij; rw [if_neg (by omega), if_pos (by omega), hx]
 .by_cases hl : j < i
  .rw [if_pos hl, if_pos (by omega)]
  .rw [if_neg hl, if_neg (by omega)]
section
variable {α : Type}
end
abbrev quc := Int × (Bool × (Bool × List UInt8))
def dR : quc := (Int.ofNat (nat_lit 0), false, false, qc UInt8)
section
variable {α β : Type}
theorem qup (l : List α) (d : α) : l = (List.range l.length).map (fun i => l.getD i d) := by
 refine List.ext_getElem (by simp) (fun i h1 h2 => ?_)
 simp [List.getElem?_eq_getElem h1]
theorem qhr (l : List α) (d : α) (f : α -> Bool) : (List.range l.length).all (fun i => f (l.getD i d)) = l.all f := by
 have h : ((List.range l.length).map (fun i => l.getD i d)).all f = l.all f := by rw [<- qup l d]
 rw [<- h, List.all_map]; rfl
theorem qdv (l : List α) (d : α) (g : α -> Option β) : (List.range l.length).findSome? (fun i => g (l.getD i d)) = l.findSome? g := by
 have h : ((List.range l.length).map (fun i => l.getD i d)).findSome? g = l.findSome? g := by rw [<- qup l d]
 rw [<- h, List.findSome?_map]; rfl
end
theorem qxx {S R : Type} (F : S -> (S -> Option R) -> Option R) (st : Nat -> S) (len : Nat) (hit : Nat -> Option R) (fin : R)
    (hstep : ∀ i k, i < len -> F (st i) k = (match hit i with | some r => some r | none => k (st (i + 1)))) (hend : ∀ k, F (st len) k = some fin) (fuel : Nat) (hf : len < fuel) :
    qT fuel F (st 0) = some (((List.range len).findSome? hit).getD fin) := by
 have key := qu F (fun n s => ∃ i, i <= len /\ s = st i /\ n = len - i /\ ∀ j, j < i -> hit j = none) (fun _ => some (((List.range len).findSome? hit).getD fin)) (by
  rintro n s k ⟨i, hi, rfl, rfl, hj⟩ hk
  by_cases hlt : i < len
  .rw [hstep i k hlt]
   cases ho : hit i with
   | some r =>
    have : (List.range len).findSome? hit = some r := by
     rw [List.findSome?_eq_some_iff];refine ⟨List.range i, i, (List.range (len - (i + 1))).map (fun x => x + (i + 1)), ?_, ho, fun x hx => hj x (List.mem_range.1 hx)⟩;refine List.ext_getElem (by simp; omega) (fun n h1 h2 => ?_);rw [List.getElem_range, List.getElem_append]
     split
     .simp
     .rename_i h
      simp at h;rcases Nat.lt_or_ge i n with h' | h'
      .obtain ⟨m, rfl⟩ : ∃ m, n = i + 1 + m := ⟨n - (i + 1), by omega⟩
       simp only [List.length_range];rw [List.getElem_cons, dif_neg (by omega)];simp; omega
      .have : n = i := by omega
       subst this; simp
    rw [this]; rfl
   | none =>
    refine hk (len - (i + 1)) _ (by omega) ⟨i + 1, by omega, rfl, rfl, fun j hj' => ?_⟩
    by_cases h : j = i
    .subst h; exact ho
    .exact hj j (by omega)
  .have : i = len := by omega
   subst this;rw [hend];have : (List.range i).findSome? hit = none := by rw [List.findSome?_eq_none_iff]; exact fun j hj' => hj j (List.mem_range.1 hj')
   rw [this]; rfl)
 exact key fuel len _ ⟨0, by omega, rfl, by omega, fun j hj => by omega⟩ hf
def patB (p : List UInt8) : Bool := decide (1 <= p.length /\ p.length <= 60) && (qKf p).isSome
theorem qrp (p : List UInt8) : qQc p = some (patB p, ()) := by
 unfold qQc patB
 rw [qfj, Option.bind_some]
 by_cases h : 1 <= p.length /\ p.length <= 60
 .rw [if_pos h, decide_eq_true h]; cases qKf p <;> rfl
 .rw [if_neg h, decide_eq_false h]; rfl
def edge (p : List UInt8) (i : Nat) : Bool := ((p.getD i 0).toNat : Int) == 47
def qOe (r : quc) : Bool := cond (r.1 == 4) (!r.2.1 && (!r.2.2.1 && r.2.2.2 == [])) (decide (r.1 >= 0 /\ r.1 <= 3) && (patB r.2.2.2 && (!edge r.2.2.2 0 && (!edge r.2.2.2 (r.2.2.2.length - 1) && r.2.2.2.all (fun b => !(b == 32))))))
theorem qSt {p : List UInt8} (h : patB p = true) : 1 <= p.length /\ p.length <= 60 := by
 unfold patB at h; rw [Bool.and_eq_true, decide_eq_true_eq] at h; exact h.1
theorem eqB (b : UInt8) (n : Nat) (hn : n < 256) : (((b.toNat : Nat) : Int) == (n : Int)) = (b == UInt8.ofNat n) := by
 rw [Bool.eq_iff_iff, beq_iff_eq, beq_iff_eq, <- UInt8.toNat_inj]
 simp only [UInt8.toNat_ofNat']
 rw [Nat.mod_eq_of_lt (by omega)]
 omega
theorem qLm (r : quc) (h10 : (10 : UInt8) ∉ r.2.2.2) : qFc r = some (qOe r, ()) := by
 obtain ⟨kd, rt, di, p⟩ := r
 dsimp only at h10
 unfold qFc qOe
 dsimp only
 cases kd == 4 with
 | true =>
  simp only [cond_true];cases rt <;> cases di <;> rfl
 | false =>
  simp only [cond_false];refine qz (x := (((), !(decide (kd >= 0 /\ kd <= 3) && (patB p && (!edge p 0 && !edge p (p.length - 1)))), ()), (kd, rt, di, p, ()), ())) ?_ ?_
  .rw [qbq, Option.bind_some]
   cases decide (kd >= 0 /\ kd <= 3) with
   | false => rfl
   | true =>
    simp only [Bool.not_true, cond_false, Bool.true_and];rw [qrp, Option.bind_some];cases hp : patB p with
    | false => rfl
    | true =>
     obtain ⟨h1, h2⟩ := qSt hp;simp only [Bool.not_true, cond_false, Bool.true_and];rw [if_pos (by omega)]
     show (bif edge p 0 then _ else _) = _
     cases edge p 0 with
     | true => rfl
     | false =>
      simp only [cond_false, Bool.not_false, Bool.true_and];rw [wr _ (by omega), if_pos (by omega), show Int.toNat ((p.length : Int) - 1) = p.length - 1 by omega, Bool.not_not];rfl
  .dsimp only
   cases hc : (decide (kd >= 0 /\ kd <= 3) && (patB p && (!edge p 0 && !edge p (p.length - 1)))) with
   | false =>
    simp only [Bool.not_false, cond_true];have : (decide (kd >= 0 /\ kd <= 3) && (patB p && (!edge p 0 && (!edge p (p.length - 1) && p.all fun b => !b == 32)))) = false := by
     revert hc; cases decide (kd >= 0 /\ kd <= 3) <;> cases patB p <;> cases edge p 0 <;> cases edge p (p.length - 1) <;> simp
    rw [this]
   | true =>
    simp only [Bool.not_true, cond_false];have hpl : p.length <= 60 := by
     have : patB p = true := by
      cases h : patB p with
      | true => rfl
      | false => rw [h] at hc; simp at hc
     exact (qSt this).2
    have hr : (decide (kd >= 0 /\ kd <= 3) && (patB p && (!edge p 0 && (!edge p (p.length - 1) && p.all fun b => !b == 32)))) = (p.all fun b => !b == 32) := by
     revert hc; cases decide (kd >= 0 /\ kd <= 3) <;> cases patB p <;> cases edge p 0 <;> cases edge p (p.length - 1) <;> simp
    rw [hr];refine qbb (qdi _ (fun i => (((), (i : Int), ()), (kd, rt, di, p, ()), ())) p.length (fun i => !(p.getD i 0 == 32)) (.inl ((), ())) (.inr (false, ())) ?_ ?_ _ (by omega)) ?_
    .intro i k hi
     dsimp only;rw [decide_eq_true (by omega), cond_true, if_pos (by omega)];rw [Int.toNat_natCast];have e32 : (((p.getD i 0).toNat : Int) == 32) = (p.getD i 0 == 32) := eqB _ 32 (by omega);have e10 : (((p.getD i 0).toNat : Int) == 10) = false := by
      have := eqB (p.getD i 0) 10 (by omega);rw [show ((10 : Nat) : Int) = 10 from rfl] at this;rw [this, beq_eq_false_iff_ne];intro h;exact h10 (by rw [show (10 : UInt8) = UInt8.ofNat 10 from rfl, <- h]; exact qZb 0 hi)
     rw [e32, e10, if_pos (by omega)];cases p.getD i 0 == 32 with
     | true => rfl
     | false => simp only [cond_false, Option.bind_some, Bool.not_false, cond_true]; rw [wr1 i (by omega)]
    .intro k; dsimp only; rw [decide_eq_false (by omega)]; rfl
    .rw [qhr p 0 (fun b => !(b == 32))]
     cases p.all fun b => !(b == 32) <;> rfl
def qdm (f : List UInt8 -> Bool) : List UInt8 -> Bool
 | [] => false
 | c :: r => (c == 47 && f r) || qdm f r
theorem qgj (f : List UInt8 -> Bool) : ∀ s : List UInt8, (List.range s.length).any (fun i => s.getD i 0 == 47 && f (s.drop (i + 1))) = qdm f s
 | [] => rfl
 | c :: r => by
  rw [List.length_cons, List.range_succ_eq_map, List.any_cons, List.any_map]
  show ((c == 47 && f r) || (List.range r.length).any (fun i => r.getD i 0 == 47 && f (r.drop (i + 1)))) = _
  rw [qgj f r]; rfl
def qhu (r : quc) (path : List UInt8) (dir : Bool) : Bool :=
 !(r.1 == 4) && (!(r.2.2.1 && !dir) && (qej r.2.2.2 path || (!r.2.1 && qdm (qej r.2.2.2) path)))
theorem qmm {α : Type} (l : List α) (f : α -> Bool) : (l.all fun x => !f x) = !l.any f := by
 induction l with
 | nil => rfl
 | cons a r ih => rw [List.all_cons, List.any_cons, ih, Bool.not_or]
theorem qad {s : List UInt8} (h : qj s = true) : s.length <= 168 := by
 unfold qj at h; rw [Bool.and_eq_true, decide_eq_true_eq] at h; exact h.1
def qHh (l : List quc) : Bool := decide (l.length <= 100) && l.all qOe
def qCr (yes no : Int) (path : List UInt8) (dir : Bool) (r : quc) : Option Int := if ((r.1 == yes || r.1 == no) && qhu r path dir) = true then some r.1 else none
def first (l : List quc) (yes no : Int) (path : List UInt8) (dir : Bool) : Int := (l.findSome? (qCr yes no path dir)).getD (-1)
def says (l : List quc) (yes no : Int) (path : List UInt8) (dir : Bool) : Bool := first l yes no path dir == yes
theorem qYs {s : List UInt8} (h : qj s = true) {i : Nat} (hi : i < s.length) (h47 : s.getD i 0 = 47) : qj (s.take i) = true := by
 have e : s = s.take i ++ 47 :: s.drop (i + 1) := by
  have := List.take_append_drop i s;rw [qVq 0 hi, h47] at this;exact this.symm
 unfold qj at h ⊢
 rw [e, qIj] at h
 simp only [Bool.and_eq_true, decide_eq_true_eq, List.length_append, List.all_append, List.length_cons] at h ⊢
 refine ⟨?_, ?_, h.2.2.1⟩
 .omega
 .omega
def qXq (l : List quc) (path : List UInt8) (i : Nat) : Bool := path.getD i 0 == 47 && says l 0 1 (path.take i) true
def qwe (l : List quc) (path : List UInt8) (dir : Bool) : Bool := (List.range path.length).any (qXq l path) || says l 0 1 path dir
def noNl (r : quc) : Prop := (10 : UInt8) ∉ r.2.2.2
theorem qOq (l : List quc) (path : List UInt8) (dir : Bool) (i : Nat) (hi : i < path.length) (h47 : (path.getD i 0 == 47) = true) (h : qwe l (path.take i) true = true) : qwe l path dir = true := by
 unfold qwe at h ⊢
 rw [Bool.or_eq_true] at h ⊢
 left
 rw [List.any_eq_true]
 rcases h with h | h
 .rw [List.any_eq_true] at h
  obtain ⟨j, hj, hu⟩ := h;rw [List.mem_range, List.length_take] at hj;have hji : j < i := by omega
  refine ⟨j, List.mem_range.2 (by omega), ?_⟩;unfold qXq at hu ⊢;have e1 : (path.take i).getD j 0 = path.getD j 0 := by
   rw [List.getD_eq_getElem?_getD, List.getD_eq_getElem?_getD, List.getElem?_take, if_pos hji]
  have e2 : (path.take i).take j = path.take j := by rw [List.take_take, Nat.min_eq_left (by omega)]
  rw [e1, e2] at hu;exact hu
 .refine ⟨i, List.mem_range.2 hi, ?_⟩
  unfold qXq;rw [h47, h]; rfl
theorem qFs (c : Pc) (hc : c.wf) (b : Nat) (hb : b < 256) : qXe c.S (b : Int) = some (c.takes b, ()) := by
 unfold qXe
 cases c with
 | byte x => show some ((((b : Nat) : Int) == ((x : Nat) : Int)), ()) = _; rw [eqNN]; rfl
 | any x => show some (((b : Nat) : Int) != (47 : Int), ()) = _; rw [ne47]; rfl
 | star x => show some (((b : Nat) : Int) != (47 : Int), ()) = _; rw [ne47]; rfl
 | stars x => rfl
 | cl nt s =>
  have hl : s.length = 256 := hc
  show Option.bind (bif ((b : Nat) : Int) != (47 : Int) then (if (0 : Int) <= (b : Int) /\ (b : Int) < (s.length : Int) then some ((!(List.getD s (Int.toNat (b : Int)) false == nt), ()), ()) else none) else some ((false, ()), ())) _ = _
  rw [ne47, if_pos (by omega), Int.toNat_natCast]
  show _ = some (b != 47 && (!(s.getD b false == nt)), ())
  cases (b != 47) <;> rfl
theorem qdk (p s : List UInt8) : qLf p s = some (qej p s, ()) := by
 unfold qLf qej
 rw [qfj, Option.bind_some]
 by_cases hp : 1 <= p.length /\ p.length <= 60
 .rw [if_pos hp, if_pos hp]
  cases hq : qKf p with
  | none => rfl
  | some l =>
   have hwf := qIw hq;have hll : l.length <= 60 := by have := qHu _ _ _ hq; omega
   simp only [Bool.not_true, cond_false, Option.bind_some]
   by_cases hs : s.length <= 200
   .rw [decide_eq_false (show ¬(s.length : Int) > 200 by omega), decide_eq_true hs]
    simp only [cond_false, Bool.true_and];refine (congrArg (fun o => Option.bind o _) ((qu _
     (fun n st => ∃ (i : Nat), st = ((s, l.map Pc.S, (), (i : Int), ()), true :: List.replicate i false, ()) /\ i <= s.length /\ n = s.length - i)
     (fun st => some ((s, l.map Pc.S, (), ()), row0 s.length, ())) ?_ _ s.length _ ?_ ?_))).trans ?_
    .rintro n st k ⟨i, rfl, hi, rfl⟩ hk
     dsimp only
     by_cases hlt : i < s.length
     .rw [decide_eq_true (show (i : Int) < (s.length : Int) by omega), cond_true, if_pos (by simp only [List.length_cons, List.length_replicate, List.length_nil]; omega)]
      rw [hk (s.length - (i + 1)) _ (by omega) ⟨i + 1, by rw [wr _ (by omega), List.replicate_succ']; rfl, by omega, rfl⟩]
     .have : i = s.length := by omega
      rw [decide_eq_false (by omega), cond_false, this]; rfl
    .exact ⟨0, rfl, by omega, rfl⟩
    .simp only [List.length_map]; omega
    .simp only [Option.bind_some]
     refine (congrArg (fun o => Option.bind o _) ((qu _
      (fun n st => ∃ (k : Nat) (at' : List Bool), st = ((s, l.map Pc.S, (), (k : Int), ()), at', ()) /\ at'.length = s.length + 1 /\ k <= l.length /\ n = l.length - k)
      (fun st => some ((s, (), ()), rows s (l.drop st.1.2.2.2.1.toNat) st.2.1, ())) ?_ _ l.length _ ?_ ?_))).trans ?_
     .rintro n st kk ⟨k, at', rfl, hat, hkl, rfl⟩ hk
      dsimp only
      by_cases hlt : k < l.length
      .rw [decide_eq_true (show (k : Int) < (((l.map Pc.S).length : Nat) : Int) by rw [List.length_map]; omega), cond_true]
       refine (congrArg (fun o => Option.bind o _) ((qu _
        (fun n st => ∃ (i : Nat), st = ((s, l.map Pc.S, (), (k : Int), (), (i : Int), ()), at', List.replicate i false, ()) /\ i <= s.length + 1 /\ n = s.length + 1 - i)
        (fun st => some ((s, l.map Pc.S, (), (k : Int), (), ()), at', List.replicate (s.length + 1) false, ())) ?_ _ (s.length + 1) _ ?_ ?_))).trans ?_
       .rintro n st k1 ⟨i, rfl, hi, rfl⟩ hk1
        dsimp only
        by_cases hlt : i <= s.length
        .rw [decide_eq_true (show (i : Int) <= (s.length : Int) by omega), cond_true, if_pos (by simp only [List.length_cons, List.length_replicate, List.length_nil]; omega)]
         rw [hk1 (s.length + 1 - (i + 1)) _ (by omega) ⟨i + 1, by rw [wr _ (by omega), List.replicate_succ']; rfl, by omega, rfl⟩]
        .have : i = s.length + 1 := by omega
         rw [decide_eq_false (by omega), cond_false, this]
       .exact ⟨0, rfl, by omega, rfl⟩
       .simp only [List.length_map, hat]; omega
       .simp only [Option.bind_some]
        have hkc : (l[k]).wf := hwf _ (List.getElem_mem hlt);have g1 : (0 : Int) <= (k : Int) /\ (k : Int) < (((l.map Pc.S).length : Nat) : Int) := by rw [List.length_map]; omega
        rw [if_pos g1];simp only [Int.toNat_natCast, qar l k hlt, qWy];generalize hc : l[k] = c at hkc ⊢;refine (congrArg (fun o => Option.bind o _) ((qu _
         (fun n st => ∃ (i : Nat) (next : List Bool), st = ((s, l.map Pc.S, (), (k : Int), (), c.many, (i : Int), ()), at', next, ()) /\ i <= s.length + 1 /\ qop s.length c s at' i next /\ n = s.length + 1 - i)
         (fun st => some ((s, l.map Pc.S, (k : Int), (), ()), qnr (nx c s at') s.length, ())) ?_ _ (s.length + 1) _ ?_ ?_))).trans ?_
        .rintro n st k1 ⟨i, next, rfl, hi, hinv, rfl⟩ hk1
         have w1 : IntKind.wrap IntKind.i64 ((i : Int) + 1) = ((i + 1 : Nat) : Int) := by rw [wr _ (by omega)]; omega
         dsimp only
         by_cases hle : i <= s.length
         .have hst := hk1 (s.length + 1 - (i + 1)) ((s, l.map Pc.S, (), (k : Int), (), c.many, ((i + 1 : Nat) : Int), ()), at', nxt2 s.length c s at' next i, ()) (by omega) ⟨i + 1, _, rfl, by omega, hinv.step hle, rfl⟩
          rw [decide_eq_true (show (i : Int) <= (s.length : Int) by omega), cond_true];have ga : (0 : Int) <= (i : Int) /\ (i : Int) < (at'.length : Int) := by omega
          have ga' : i < at'.length := by omega
          have hn1 : next.length = s.length + 1 := hinv.1;have gn : (0 : Int) <= (i : Int) /\ (i : Int) < (next.length : Int) := by omega
          have gn' : i < next.length := by omega
          have hc' : ∀ d, (l.map Pc.S).getD k d = c.S := fun d => by rw [qar l k hlt, hc]
          simp only [Int.toNat_natCast, if_pos ga, if_pos ga', if_pos gn, if_pos gn', w1, hc'];have b12 : (bif c.many then some ((s, l.map Pc.S, (), (k : Int), (), c.many, (i : Int), at'.getD i false, ()), at', next, ()) else some ((s, l.map Pc.S, (), (k : Int), (), c.many, (i : Int), false, ()), at', next, ()) : Option ((List UInt8 × List (Int × Int × Bool × List Bool) × Unit × Int × Unit × Bool × Int × Bool × Unit) × List Bool × List Bool × Unit))
              = some ((s, l.map Pc.S, (), (k : Int), (), c.many, (i : Int), c.many && at'.getD i false, ()), at', next, ()) := by cases c.many <;> rfl
          rw [b12, Option.bind_some];simp only [Int.toNat_natCast, if_pos gn, if_pos gn'];have b13 : (bif c.many && at'.getD i false then some ((s, l.map Pc.S, (), (k : Int), (), c.many, (i : Int), ()), at', next.set i true, ()) else some ((s, l.map Pc.S, (), (k : Int), (), c.many, (i : Int), ()), at', next, ()) : Option ((List UInt8 × List (Int × Int × Bool × List Bool) × Unit × Int × Unit × Bool × Int × Unit) × List Bool × List Bool × Unit))
              = some ((s, l.map Pc.S, (), (k : Int), (), c.many, (i : Int), ()), at', nxt1 c at' next i, ()) := by unfold nxt1; cases (c.many && at'.getD i false) <;> rfl
          rw [b13, Option.bind_some];have hn2 : (nxt1 c at' next i).length = s.length + 1 := by rw [qMp, hn1]
          have hx := qMw hinv hle;have gm : (0 : Int) <= (i : Int) /\ (i : Int) < ((nxt1 c at' next i).length : Int) := by omega
          have gm' : i < (nxt1 c at' next i).length := by omega
          have hone : qXe (c.S.1, c.S.2.1, c.S.2.2.1, c.S.2.2.2) (((s.getD i 0).toNat : Nat) : Int) = some (c.takes (by8 s i), ()) := qFs c hkc (by8 s i) (qUj _ _);simp only [Int.toNat_natCast, if_pos gm, if_pos gm', if_pos ga, if_pos ga', hc', hone, Option.bind_some, hx, if_pos g1];have b14 : (bif decide ((i : Int) < (s.length : Int)) then
                (if (0 : Int) <= (i : Int) /\ (i : Int) < (s.length : Int) then
                 (bif c.takes (by8 s i) then
                  (bif at'.getD i false then some ((s, l.map Pc.S, (), (k : Int), (), c.many, (i : Int), true, ()), at', nxt1 c at' next i, ())
                   else (bif c.many then some ((s, l.map Pc.S, (), (k : Int), (), c.many, (i : Int), nx c s at' i, ()), at', nxt1 c at' next i, ())
                    else some ((s, l.map Pc.S, (), (k : Int), (), c.many, (i : Int), false, ()), at', nxt1 c at' next i, ())))
                  else some ((s, l.map Pc.S, (), (k : Int), (), c.many, (i : Int), false, ()), at', nxt1 c at' next i, ()))
                 else none)
               else some ((s, l.map Pc.S, (), (k : Int), (), c.many, (i : Int), false, ()), at', nxt1 c at' next i, ()) : Option ((List UInt8 × List (Int × Int × Bool × List Bool) × Unit × Int × Unit × Bool × Int × Bool × Unit) × List Bool × List Bool × Unit))
              = some ((s, l.map Pc.S, (), (k : Int), (), c.many, (i : Int), decide (i < s.length) && pre c s at' (i + 1), ()), at', nxt1 c at' next i, ()) := by
           by_cases hlt2 : i < s.length
           .rw [decide_eq_true (show (i : Int) < (s.length : Int) by omega), cond_true, if_pos (by omega), decide_eq_true hlt2, Bool.true_and, pre]
            cases c.takes (by8 s i) <;> cases at'.getD i false <;> cases c.many <;> rfl
           .rw [decide_eq_false (show ¬(i : Int) < (s.length : Int) by omega), decide_eq_false hlt2]; rfl
          rw [b14, Option.bind_some];simp only [w1, Int.toNat_natCast];have b15 : (bif decide (i < s.length) && pre c s at' (i + 1) then
                (if (0 : Int) <= ((i + 1 : Nat) : Int) /\ ((i + 1 : Nat) : Int) < ((nxt1 c at' next i).length : Int) then
                 (if i + 1 < (nxt1 c at' next i).length then some ((s, l.map Pc.S, (), (k : Int), (), c.many, (i : Int), ()), at', (nxt1 c at' next i).set (i + 1) true, ()) else none) else none)
               else some ((s, l.map Pc.S, (), (k : Int), (), c.many, (i : Int), ()), at', nxt1 c at' next i, ()) : Option ((List UInt8 × List (Int × Int × Bool × List Bool) × Unit × Int × Unit × Bool × Int × Unit) × List Bool × List Bool × Unit))
              = some ((s, l.map Pc.S, (), (k : Int), (), c.many, (i : Int), ()), at', nxt2 s.length c s at' next i, ()) := by
           unfold nxt2
           by_cases hlt2 : i < s.length
           .rw [if_pos (by omega), if_pos (by omega)]; cases (decide (i < s.length) && pre c s at' (i + 1)) <;> rfl
           .rw [decide_eq_false hlt2]; rfl
          rw [b15, Option.bind_some];simp only [w1];exact hst
         .have : i = s.length + 1 := by omega
          rw [decide_eq_false (by omega), cond_false];have : next = qnr (nx c s at') s.length := qqx hinv.1 (fun j hj => by rw [hinv.2 j hj, if_pos (by omega)]);rw [this]
        .exact ⟨0, _, rfl, by omega, ⟨by simp, fun j hj => by rw [qEx, if_neg (by omega)]; split <;> rfl⟩, rfl⟩
        .simp only [List.length_map, hat]; omega
        .simp only [Option.bind_some]
         have w1 : IntKind.wrap IntKind.i64 ((k : Int) + 1) = ((k + 1 : Nat) : Int) := by rw [wr _ (by omega)]; omega
         rw [w1, hk (l.length - (k + 1)) _ (by omega) ⟨k + 1, _, rfl, qkn _ _, by omega, rfl⟩];simp only [Int.toNat_natCast];rw [List.drop_eq_getElem_cons hlt, hc];rfl
      .have : k = l.length := by omega
       rw [decide_eq_false (by rw [List.length_map]; omega), cond_false, this];simp only [Int.toNat_natCast, List.drop_length]; rfl
     .exact ⟨0, _, rfl, by simp [row0], by omega, rfl⟩
     .simp only [List.length_map]; omega
     .simp only [Option.bind_some, Int.toNat_zero, List.drop_zero]
      have hlen : (rows s l (row0 s.length)).length = s.length + 1 := by
       unfold rows;have : ∀ (l : List Pc) (a : List Bool), a.length = s.length + 1 -> (l.foldl (fun a c => qnr (nx c s a) s.length) a).length = s.length + 1 := by
        intro l
        induction l with
        | nil => intro a h; exact h
        | cons c l ih => intro a h; exact ih _ (qkn _ _)
       exact this _ _ (by simp [row0])
      rw [if_pos (by omega), Int.toNat_natCast, if_pos (by omega)];rfl
   .rw [decide_eq_true (show (s.length : Int) > 200 by omega), decide_eq_false hs]; rfl
 .rw [if_neg hp, if_neg hp]; rfl
abbrev qA := Bool × (Bool × (Bool × (Bool × (Bool × (Bool × (Bool × (Bool × (Bool × (Bool × (Bool × (Bool × (Bool × (Int × (Bool × (List UInt8 × List UInt8)))))))))))))))
def qSi (s : List UInt8) : Bool := s == [] || (decide (s.length <= 8) && qCb ([120] ++ s))
theorem qbt (s : List UInt8) (hs : s.length <= 1048576) : qie s = some (qSi s, ()) := by
 unfold qie qSi
 simp only [qc]
 cases s == [] with
 | true => rfl
 | false =>
  simp only [cond_false, Bool.false_or]
  by_cases h : s.length <= 8
  .rw [decide_eq_true (by omega), decide_eq_true h, cond_true, if_pos (by show 1 + s.length < 9223372036854775808; omega), qoj _ (by simp; omega)]
   simp
  .rw [decide_eq_false (by omega), decide_eq_false h]; rfl
theorem qHs (s : List UInt8) (hs : s.length <= 1048576) (hn : (s == []) = false) : qGe s = some (qSi s, ()) := by
 unfold qGe qSi
 rw [qrg, Option.bind_some, hn, Bool.false_or]
 have h0 : 1 <= s.length := by
  rcases s with _ | ⟨a, b⟩
  .simp at hn
  .simp
 dsimp only
 rw [decide_eq_true (by omega), Bool.true_and]
 by_cases h : s.length <= 8
 .rw [decide_eq_true (by omega), decide_eq_true h, cond_true, if_pos (by show 1 + s.length < 9223372036854775808; omega), qom _ (by simp; omega)]
  simp
 .rw [decide_eq_false (by omega), decide_eq_false h]; rfl
def qNd : qA -> Bool
 | (r, _, _, _, _, ck, so, _, _, _, _, _, _, del, bk, suf, dir) =>
  (decide (del >= 0) && decide (del <= 3)) && (!(!(del == 0) && !r) && (!(ck && so) && (cond bk (qSi suf && ((dir == [] || qj dir) && !(suf == [] && dir == []))) (suf == [] && dir == []))))
theorem qhy (a b : List UInt8) : (a ++ b == []) = (a == [] && b == []) := by cases a <;> cases b <;> rfl
theorem qrj (o : qA) (h1 : o.2.2.2.2.2.2.2.2.2.2.2.2.2.2.2.1.length <= 1048576) (h2 : o.2.2.2.2.2.2.2.2.2.2.2.2.2.2.2.2.length <= 1048576) : qKd o = some (qNd o, ()) := by
 obtain ⟨r, l, p, t, hd, ck, so, dry, wh, up, ex, ig, fz, del, bk, suf, dir⟩ := o
 dsimp only at h1 h2
 unfold qKd qNd
 simp only [qyu, Option.bind_some, bne, qc]
 refine qz (x := (((), !((decide (del >= 0) && decide (del <= 3)) && (!(!(del == 0) && !r) && !(ck && so))), ()), (r, l, p, t, hd, ck, so, dry, wh, up, ex, ig, fz, del, bk, suf, dir, ()), ())) ?_ ?_
 .cases (decide (del >= 0) && decide (del <= 3)) <;> cases del == 0 <;> cases r <;> cases ck <;> cases so <;> rfl
 .dsimp only
  have e : ((decide (del >= 0) && decide (del <= 3)) && (!(!(del == 0) && !r) && (!(ck && so) && (cond bk (qSi suf && ((dir == [] || qj dir) && !(suf == [] && dir == []))) (suf == [] && dir == []))))) = (((decide (del >= 0) && decide (del <= 3)) && (!(!(del == 0) && !r) && !(ck && so))) && (cond bk (qSi suf && ((dir == [] || qj dir) && !(suf == [] && dir == []))) (suf == [] && dir == []))) := by
   simp only [Bool.and_assoc]
  rw [e];cases ((decide (del >= 0) && decide (del <= 3)) && (!(!(del == 0) && !r) && !(ck && so))) with
  | false => rfl
  | true =>
   simp only [Bool.not_true, cond_false, Bool.true_and];cases bk with
   | false =>
    simp only [Bool.not_false, cond_true, cond_false];cases suf == [] <;> rfl
   | true =>
    simp only [Bool.not_true, cond_true, cond_false];rw [qbt _ h1, Option.bind_some];dsimp only;cases qSi suf with
    | false => rfl
    | true =>
     have hl : suf.length + dir.length < 2 ^ 63 := by show _ < 9223372036854775808; omega
     simp only [cond_true, Bool.true_and, if_pos hl, qhy, qMb, Option.bind_some];cases dir == [] <;> cases qj dir <;> rfl
theorem qXr (o : qA) (h1 : o.2.2.2.2.2.2.2.2.2.2.2.2.2.2.2.1.length <= 1048576) (h2 : o.2.2.2.2.2.2.2.2.2.2.2.2.2.2.2.2.length <= 1048576) : qdg o = some (qNd o, ()) := by
 obtain ⟨r, l, p, t, hd, ck, so, dry, wh, up, ex, ig, fz, del, bk, suf, dir⟩ := o
 dsimp only at h1 h2
 unfold qdg qNd
 simp only [qrg, Option.bind_some, bne, qc]
 refine qz (x := (((), !((decide (del >= 0) && decide (del <= 3)) && (!(!(del == 0) && !r) && !(ck && so))), ()), (r, l, p, t, hd, ck, so, dry, wh, up, ex, ig, fz, del, bk, suf, dir, ()), ())) ?_ ?_
 .cases (decide (del >= 0) && decide (del <= 3)) <;> cases del == 0 <;> cases r <;> cases ck <;> cases so <;> rfl
 .dsimp only
  have e : ((decide (del >= 0) && decide (del <= 3)) && (!(!(del == 0) && !r) && (!(ck && so) && (cond bk (qSi suf && ((dir == [] || qj dir) && !(suf == [] && dir == []))) (suf == [] && dir == []))))) = (((decide (del >= 0) && decide (del <= 3)) && (!(!(del == 0) && !r) && !(ck && so))) && (cond bk (qSi suf && ((dir == [] || qj dir) && !(suf == [] && dir == []))) (suf == [] && dir == []))) := by
   simp only [Bool.and_assoc]
  rw [e];cases ((decide (del >= 0) && decide (del <= 3)) && (!(!(del == 0) && !r) && !(ck && so))) with
  | false => rfl
  | true =>
   simp only [Bool.not_true, cond_false, Bool.true_and];cases bk with
   | false =>
    simp only [Bool.not_false, cond_true, cond_false];cases suf == [] <;> rfl
   | true =>
    simp only [Bool.not_true, cond_true, cond_false, qRn, Option.bind_some];cases hsn : suf == [] with
    | true =>
     have : qSi suf = true := by unfold qSi; rw [hsn]; rfl
     rw [this];cases dir == [] <;> cases qj dir <;> rfl
    | false =>
     rw [qHs _ h1 hsn];simp only [Option.bind_some, cond_false];cases qSi suf <;> cases dir == [] <;> cases qj dir <;> rfl
theorem qQg (l : List quc) (hn : ∀ r ∈ l, noNl r) : qob l = some (qHh l, ()) := by
 unfold qob qHh
 by_cases hl : l.length <= 100
 .rw [decide_eq_false (by omega), cond_false, decide_eq_true hl, Bool.true_and]
  refine qbb (qdi _ (fun i => ((l, (i : Int), ()), ())) l.length (fun i => qOe (l.getD i dR)) (.inl ((), ())) (.inr (false, ())) ?_ ?_ _ (by omega)) ?_
  .intro i k hi
   dsimp only;have hm : l.getD i dR ∈ l := qZb dR hi;have e : qFc (l.getD i dR) = some (qOe (l.getD i dR), ()) := qLm _ (hn _ hm);rw [decide_eq_true (by omega), cond_true, if_pos (by omega), Int.toNat_natCast]
   show Option.bind (qFc (l.getD i dR)) _ = _
   rw [e, Option.bind_some];cases qOe (l.getD i dR) with
   | true => simp only [Bool.not_true, cond_false, cond_true]; rw [wr1 i (by omega)]
   | false => rfl
  .intro k; dsimp only; rw [decide_eq_false (by omega)]; rfl
  .have := qhr l dR qOe
   rw [this];cases l.all qOe <;> rfl
 .rw [decide_eq_true (by omega), decide_eq_false hl]; rfl
theorem qUu (r : quc) (hr : qOe r = true) (hn : noNl r) (path : List UInt8) (hp : qj path = true) (dir : Bool) : qDc r path dir = some (qhu r path dir, ()) := by
 have hsr := qLm r hn
 obtain ⟨kd, rt, di, p⟩ := r
 have hl := qad hp
 unfold qDc qhu
 dsimp only
 refine qz (x := ((path, (), (kd == 4) || (di && !dir), ()), (kd, rt, di, p, ()), ())) ?_ ?_
 .rw [hsr, Option.bind_some, hr]
  simp only [Bool.not_true, cond_false];cases kd == 4 with
  | true => rfl
  | false =>
   rw [cond_false, qMb, Option.bind_some, hp];cases di <;> rfl
 .dsimp only
  cases kd == 4 with
  | true => rfl
  | false =>
   simp only [Bool.false_or, Bool.not_false, Bool.true_and];cases (di && !dir) with
   | true => rfl
   | false =>
    simp only [cond_false, Bool.not_false, Bool.true_and];rw [qdk, Option.bind_some];cases qej p path with
    | true => rfl
    | false =>
     simp only [cond_false, Bool.false_or];cases rt with
     | true =>
      refine qbb (x := some (.inl ((), ()))) ?_ rfl;obtain ⟨f, hf⟩ : ∃ f, path.length + Int.toNat (0 : Int) + Int.toNat kd + p.length + 300 = f + 1 := ⟨path.length + Int.toNat (0 : Int) + Int.toNat kd + p.length + 299, by omega⟩;rw [hf]
      show Option.bind _ _ = _
      dsimp only;cases decide ((0 : Int) < (path.length : Int)) <;> rfl
     | false =>
      refine qbb (qdi _ (fun i => ((path, (), (i : Int), ()), (kd, false, di, p, ()), ())) path.length (fun i => !(path.getD i 0 == 47 && qej p (path.drop (i + 1)))) (.inl ((), ())) (.inr (true, ())) ?_ ?_ _ (by omega)) ?_
      .intro i k hi
       dsimp only;rw [decide_eq_true (by omega), cond_true, Option.bind_some];dsimp only;simp only [Bool.not_false, cond_true];rw [if_pos (by omega), Int.toNat_natCast];have e47 : (((path.getD i 0).toNat : Int) == 47) = (path.getD i 0 == 47) := eqB _ 47 (by omega);refine qz (x := ((path, (), (i : Int), path.getD i 0 == 47 && qej p (path.drop (i + 1)), ()), (kd, false, di, p, ()), ())) ?_ ?_
       .rw [e47]
        cases h47 : path.getD i 0 == 47 with
        | false => rfl
        | true =>
         simp only [cond_true, Bool.true_and];rw [wr1 i (by omega), if_pos (by omega)];rw [show Int.toNat ((i + 1 : Nat) : Int) = i + 1 by omega, show Int.toNat (path.length : Int) = path.length by omega, List.take_length, qdk];rfl
       .dsimp only
        cases path.getD i 0 == 47 && qej p (path.drop (i + 1)) with
        | true => rfl
        | false => simp only [cond_false, Bool.not_false, cond_true]; rw [wr1 i (by omega)]
      .intro k; dsimp only; rw [decide_eq_false (by omega)]; rfl
      .rw [qmm, qgj (qej p) path]
       cases qdm (qej p) path <;> rfl
theorem qVk (l : List quc) (hl : l.length <= 102) (ho : ∀ r ∈ l, qOe r = true) (hn : ∀ r ∈ l, noNl r) (yes no : Int) (path : List UInt8) (hp : qj path = true) (dir : Bool) :
    qSb l yes no path dir = some (first l yes no path dir, ()) := by
 unfold qSb first
 refine qbb (qxx _ (fun i => ((l, yes, no, path, dir, (i : Int), ()), ())) l.length (fun i => (qCr yes no path dir (l.getD i dR)).map (fun k => .inr (k, ()))) (.inl ((), ())) ?_ ?_ _ (by omega)) ?_
 .intro i k hi
  dsimp only;have hx : (0 : Int) <= (i : Int) /\ (i : Int) < (l.length : Int) := by omega
  rw [decide_eq_true (by omega), cond_true, if_pos hx, Int.toNat_natCast, if_pos hx, if_pos hx];have hmem : l.getD i dR ∈ l := qZb dR hi;have hm : qDc (l.getD i dR) path dir = some (qhu (l.getD i dR) path dir, ()) := qUu _ (ho _ hmem) (hn _ hmem) path hp dir;refine qz (x := ((l, yes, no, path, dir, (i : Int), ((l.getD i dR).1 == yes || (l.getD i dR).1 == no) && qhu (l.getD i dR) path dir, ()), ())) ?_ ?_
  .show (bif (l.getD i dR).1 == yes then Option.bind (qDc (l.getD i dR) path dir) _ else (bif (l.getD i dR).1 == no then Option.bind (qDc (l.getD i dR) path dir) _ else _)) = _
   rw [hm];cases (l.getD i dR).1 == yes <;> cases (l.getD i dR).1 == no <;> rfl
  .dsimp only
   unfold qCr;cases ((l.getD i dR).1 == yes || (l.getD i dR).1 == no) && qhu (l.getD i dR) path dir with
   | true => simp only [cond_true]; rw [if_pos hx]; rfl
   | false => simp only [cond_false]; rw [wr1 i (by omega)]; rfl
 .intro k; dsimp only; rw [decide_eq_false (by omega)]; rfl
 .rw [qdv l dR (fun r => (qCr yes no path dir r).map (fun k => (.inr (k, ()) : Sum (Unit × Unit) (Int × Unit))))]
  have : ∀ l : List quc, l.findSome? (fun r => (qCr yes no path dir r).map (fun k => (.inr (k, ()) : Sum (Unit × Unit) (Int × Unit)))) = (l.findSome? (qCr yes no path dir)).map (fun k => .inr (k, ())) := by
   intro l
   induction l with
   | nil => rfl
   | cons a r ih =>
    rw [List.findSome?_cons, List.findSome?_cons];cases qCr yes no path dir a with
    | some v => rfl
    | none => exact ih
  rw [this];cases l.findSome? (qCr yes no path dir) <;> rfl
theorem qkj (l : List quc) (ho : qHh l = true) (hn : ∀ r ∈ l, noNl r) (path : List UInt8) (hp : qj path = true) (dir : Bool) : qCd l path dir = some (qwe l path dir, ()) := by
 have hr := qQg l hn
 have ho' := ho
 unfold qHh at ho'
 rw [Bool.and_eq_true, decide_eq_true_eq, List.all_eq_true] at ho'
 have hl := qad hp
 unfold qCd qwe
 refine qz (x := ((l, path, dir, false, ()), ())) ?_ ?_
 .rw [hr, Option.bind_some, ho]
  simp only [Bool.not_true, cond_false];rw [qMb, Option.bind_some, hp]; rfl
 .dsimp only
  rw [cond_false];refine qbb (qdi _ (fun i => ((l, path, dir, (i : Int), ()), ())) path.length (fun i => !qXq l path i) (.inl ((l, path, dir, ()), ())) (.inr (true, ())) ?_ ?_ _ (by omega)) ?_
  .intro i k hi
   dsimp only;rw [decide_eq_true (by omega), cond_true, if_pos (by omega), Int.toNat_natCast];have e47 : (((path.getD i 0).toNat : Int) == 47) = (path.getD i 0 == 47) := eqB _ 47 (by omega);refine qz (x := ((l, path, dir, (i : Int), qXq l path i, ()), ())) ?_ ?_
   .rw [e47]
    unfold qXq;cases h47 : path.getD i 0 == 47 with
    | false => rfl
    | true =>
     simp only [cond_true, Bool.true_and];rw [if_pos (by omega)];simp only [Int.toNat_zero, List.drop_zero];rw [qVk l (by omega) ho'.2 hn 0 1 _ (qYs hp hi (by simpa using h47)) true];rfl
   .dsimp only
    cases qXq l path i with
    | true => rfl
    | false => simp only [cond_false, Bool.not_false, cond_true]; rw [wr1 i (by omega)]
  .intro k; dsimp only; rw [decide_eq_false (by omega)]; rfl
  .rw [qmm]
   cases (List.range path.length).any (qXq l path) with
   | true => rfl
   | false =>
    simp only [Bool.not_false, cond_true, Bool.false_or]
    show Option.bind (qSb l 0 1 path dir) _ = _
    rw [qVk l (by omega) ho'.2 hn 0 1 path hp dir];rfl
theorem qnl {p : List UInt8} (hp : qj p = true) : (!(qg p == [])) = !(p.all (fun b => !(b == 47))) := by
 rw [Bool.eq_iff_iff]
 constructor
 .intro h
  have h0 : qg p ≠ [] := by simpa using h
  obtain ⟨t, ht⟩ := (qIi hp).resolve_left h0;rw [Bool.not_eq_true', <- Bool.not_eq_true, List.all_eq_true];intro ha;have := ha 47 (by rw [ht]; simp);simp at this
 .intro h
  have h1 : 47 ∈ p := by
   rw [Bool.not_eq_true', <- Bool.not_eq_true, List.all_eq_true] at h;exact Classical.byContradiction fun hc => h fun b hb => by
    rw [Bool.not_eq_true', beq_eq_false_iff_ne]; rintro rfl; exact hc hb
  have h2 : 2 <= (split p).length := by
   rw [qZs];have := List.count_pos_iff.2 h1;omega
  rw [Bool.not_eq_true', beq_eq_false_iff_ne];intro h0;have hpp := hp;unfold qj at hpp;simp only [Bool.and_eq_true, List.all_eq_true] at hpp;unfold qg at h0;rw [qek hp] at h0;rcases hd : (split p).dropLast with _ | ⟨a, r⟩
  .have := congrArg List.length hd
   rw [List.length_dropLast, List.length_nil] at this;omega
  .have ha : a ∈ split p := (List.dropLast_sublist _).subset (by rw [hd]; exact List.mem_cons_self ..)
   have hna := hpp.2.2 a ha;rw [hd] at h0;have : a = [] := by
    cases r with
    | nil => exact h0
    | cons b r =>
     have : qhd (a :: b :: r) = a ++ 47 :: qhd (b :: r) := rfl;rw [this] at h0;simp at h0
   rw [this] at hna;exact absurd hna (by decide)
def qsk (p : List UInt8) : Bool := !(p.all (fun b => !(b == 47)))
def qUi (n : qa) (o : qA) (l : List quc) : Int :=
 cond (qwe l n.1 (n.2.1 == 0)) 1 (cond (!o.1 && (n.2.1 == 0 || qsk n.1)) 2 (cond (n.2.1 == 2 && !o.2.1) 3 0))
theorem qiv (n : qa) (o : qA) (l : List quc) (ho : qHh l = true) (hn : ∀ r ∈ l, noNl r) (hp : qj n.1 = true) : qde n o l = some (qUi n o l, ()) := by
 unfold qde qUi
 rw [qkj l ho hn n.1 hp, Option.bind_some]
 dsimp only
 cases qwe l n.1 (n.2.1 == 0) with
 | true => rfl
 | false =>
  simp only [cond_false];cases ho : o.1 with
  | true =>
   simp only [Bool.not_true, cond_false, Bool.false_and, Option.bind_some];cases o.2.1 with
   | true => cases n.2.1 == 2 <;> rfl
   | false => cases n.2.1 == 2 <;> rfl
  | false =>
   simp only [Bool.not_false, cond_true, Bool.true_and];cases n.2.1 == 0 with
   | true => rfl
   | false =>
    simp only [cond_false, Bool.false_or];rw [qpf, Option.bind_some, Option.bind_some];dsimp only;have e : (!(qg n.1 == qc UInt8)) = qsk n.1 := qnl hp;rw [e];cases qsk n.1 with
    | true => rfl
    | false =>
     simp only [cond_false];cases o.2.1 with
     | true => cases n.2.1 == 2 <;> rfl
     | false => cases n.2.1 == 2 <;> rfl
theorem qDi {p q : List UInt8} (hp : qj p = true) (hq : qj q = true) : qCc p q = some (qHb p q, ()) := by
 have hpe : (p == []) = false := by
  cases p with
  | nil => exact absurd hp (by decide)
  | cons => rfl
 have hnp := qek hp
 have hnq := qek hq
 have h1 : 0 < (split p).length := List.length_pos_iff.2 (qHc p)
 have h2 : 0 < (split q).length := List.length_pos_iff.2 (qHc q)
 have hlp := qZn p
 have hlq := qZn q
 rw [hnp] at hlp
 rw [hnq] at hlq
 unfold qCc
 rw [qBj, Option.bind_some, qBj, Option.bind_some]
 dsimp only
 rw [hnp, hnq]
 refine qz (x := ((split p, split q, decide (((split p).length : Int) > ((split q).length : Int)), ()), ())) ?_ ?_
 .simp only [qc]
  rw [hpe, Bool.not_false, cond_true, show (((split p).length : Int) == 0) = false by rw [beq_eq_false_iff_ne]; omega, cond_false, show (((split q).length : Int) == 0) = false by rw [beq_eq_false_iff_ne]; omega, cond_false]
 .dsimp only
  have hpre : qHb p q = decide ((split p).length <= (split q).length /\ ∀ i, i < (split p).length -> (split q).getD i (qc UInt8) = (split p).getD i (qc UInt8)) := by
   rw [Bool.eq_iff_iff, qiy, decide_eq_true_eq, List.isPrefixOf_iff_prefix, List.prefix_iff_getElem?];constructor
   .intro h
    have hl : (split p).length <= (split q).length := by
     rcases Nat.lt_or_ge (split q).length (split p).length with h' | h'
     .have := h (split q).length h'
      rw [List.getElem?_eq_none (Nat.le_refl _)] at this; cases this
     .exact h'
    refine ⟨hl, fun i hi => ?_⟩;rw [List.getD_eq_getElem?_getD, List.getD_eq_getElem?_getD, h i hi, List.getElem?_eq_getElem hi]
   .rintro ⟨hl, h⟩ i hi
    have := h i hi;rw [List.getD_eq_getElem?_getD, List.getD_eq_getElem?_getD, List.getElem?_eq_getElem hi, List.getElem?_eq_getElem (by omega)] at this;rw [List.getElem?_eq_getElem (by omega)];simpa using this
  by_cases hgt : (split q).length < (split p).length
  .rw [decide_eq_true (show ((split p).length : Int) > ((split q).length : Int) by omega), cond_true, hpre, decide_eq_false (by rintro ⟨h, _⟩; omega)]
  .rw [decide_eq_false (show ¬((split p).length : Int) > ((split q).length : Int) by omega), cond_false]
   refine qbb (qdi _ (fun i => ((split p, split q, (i : Int), ()), ())) (split p).length (fun i => (split q).getD i (qc UInt8) == (split p).getD i (qc UInt8)) (.inl ((), ())) (.inr (false, ())) ?_ ?_ _ (by omega)) ?_
   .intro i k hi
    dsimp only;rw [decide_eq_true (by omega), cond_true, if_pos (by omega), if_pos (by omega), Int.toNat_natCast, wr1 i (by omega)];rw [show ((split p).getD i (qc UInt8) == (split q).getD i (qc UInt8)) = ((split q).getD i (qc UInt8) == (split p).getD i (qc UInt8)) from BEq.comm];cases (split q).getD i (qc UInt8) == (split p).getD i (qc UInt8) <;> rfl
   .intro k; dsimp only; rw [decide_eq_false (by omega)]; rfl
   .have : qHb p q = (List.range (split p).length).all (fun i => (split q).getD i (qc UInt8) == (split p).getD i (qc UInt8)) := by
     rw [hpre, Bool.eq_iff_iff, decide_eq_true_eq, qBs];constructor
     .rintro ⟨_, h⟩ i hi; rw [beq_iff_eq]; exact h i hi
     .intro h; exact ⟨by omega, fun i hi => by simpa using h i hi⟩
    rw [this];cases (List.range (split p).length).all (fun i => (split q).getD i (qc UInt8) == (split p).getD i (qc UInt8)) <;> rfl
theorem qvl (l : List qa) (hl : l.length <= 1048576) (ha : AllP l) (p : List UInt8) (hp : qj p = true) : qKb l p = some (qpc (l.filter (qof p)), ()) := by
 unfold qKb
 have hfl : ∀ i, ((l.take i).filter (qof p)).length <= l.length := fun i => Nat.le_trans (List.length_filter_le _ _) (by rw [List.length_take]; omega)
 refine qz (qu _ (fun n t => ∃ i : Nat, t = ((l, p, (), (i : Int), ()), (l.take i).filter (qof p), ()) /\ i <= l.length /\ n = l.length - i)
  (fun _ => some (((), ()), l.filter (qof p), ())) ?_ _ l.length _ ⟨0, rfl, by omega, rfl⟩ (by omega)) ?_
 .rintro n t k ⟨i, rfl, hi, rfl⟩ hk
  dsimp only
  by_cases hlt : i < l.length
  .rw [decide_eq_true (by omega), cond_true, if_pos (by omega), Int.toNat_natCast]
   refine qz (show qCc p (pth l i) = _ from qDi hp (ha i hlt)) ?_;dsimp only;refine qz (x := ((l, p, (), (i : Int), ()), (l.take (i + 1)).filter (qof p), ())) ?_ ?_
   .have hf := hfl i
    rw [qer l hlt, List.filter_append];cases hu : qHb p (pth l i) with
    | false =>
     have hkp : qof p (nd l i) = true := by unfold qof; show (!qHb p (pth l i)) = true; rw [hu]; rfl
     have : [nd l i].filter (qof p) = [nd l i] := by simp [hkp]
     rw [Bool.not_false, cond_true, if_pos (by omega), if_pos (by simp only [List.length_cons, List.length_nil]; omega), this];rfl
    | true =>
     have hkp : qof p (nd l i) = false := by unfold qof; show (!qHb p (pth l i)) = false; rw [hu]; rfl
     have : [nd l i].filter (qof p) = [] := by simp [hkp]
     rw [Bool.not_true, cond_false, this, List.append_nil]
   .dsimp only
    rw [wr1 i (by omega)];exact hk (l.length - (i + 1)) _ (by omega) ⟨i + 1, rfl, by omega, rfl⟩
  .have : i = l.length := by omega
   subst this;rw [decide_eq_false (by omega), cond_false, List.take_length]
 .dsimp only
  rw [qkg _ (Nat.le_trans (List.length_filter_le _ _) hl), Option.bind_some]
theorem qHm {l : List qa} (hs : qmc l) (n : qa) : qmc (putV l n) := by
 have hp := qib.1 hs
 have big : ∀ y, (!ltP n.1 y && neP n.1 y) = true -> Op.bytesLess n.1 y.1 = true := fun y hy => by
  rw [Bool.and_eq_true, Bool.not_eq_true'] at hy;rcases qFk y.1 n.1 with h | h | h
  .rw [show ltP n.1 y = Op.bytesLess y.1 n.1 from rfl, h] at hy; cases hy.1
  .have := hy.2
   unfold neP at this;rw [h, beq_self_eq_true] at this; cases this
  .exact h
 rw [qib]
 unfold putV
 rw [List.pairwise_append]
 refine ⟨hp.filter _, ?_, ?_⟩
 .rw [List.pairwise_cons]
  exact ⟨fun y hy => big y (List.mem_filter.1 hy).2, hp.filter _⟩
 .intro a ha b hb
  have ha2 : Op.bytesLess a.1 n.1 = true := (List.mem_filter.1 ha).2;rcases List.mem_cons.1 hb with rfl | hb
  .exact ha2
  .exact qng ha2 (big b (List.mem_filter.1 hb).2)
theorem qmd {l : List qa} {n x : qa} (h : x ∈ putV l n) : x = n ∨ (x ∈ l /\ x.1 ≠ n.1) := by
 unfold putV at h
 rw [List.mem_append, List.mem_cons, List.mem_filter, List.mem_filter] at h
 rcases h with ⟨h1, h2⟩ | rfl | ⟨h1, h2⟩
 .refine .inr ⟨h1, fun e => ?_⟩
  have h2 : Op.bytesLess x.1 n.1 = true := h2;rw [e, qrd] at h2; cases h2
 .exact .inl rfl
 .refine .inr ⟨h1, fun e => ?_⟩
  rw [Bool.and_eq_true] at h2;have := h2.2;unfold neP at this;rw [e, beq_self_eq_true] at this; cases this
theorem qBk {l : List qa} (h : RightQ l) {n : qa} (hok : qt n = true) (hg : gr n = 0) (hup : qg n.1 = [] ∨ ∃ y ∈ l, y.1 = qg n.1 /\ y.2.1 = 0) (hd : ∀ y ∈ l, y.1 = n.1 -> y.2.1 = 0 -> n.2.1 = 0) : RightQ (putV l n) := by
 have keep : ∀ y ∈ l, y.2.1 = 0 -> ∃ z ∈ putV l n, z.1 = y.1 /\ z.2.1 = 0 := fun y hy h0 => by
  by_cases e : y.1 = n.1
  .exact ⟨n, qYl l n, e.symm, hd y hy e h0⟩
  .exact ⟨y, qrf hy e, rfl, h0⟩
 refine ⟨fun x hx => ?_, qHm h.sorted n, fun x hx => ?_, fun x hx y hy h0 he => ?_⟩
 .rcases qmd hx with rfl | ⟨hx, _⟩
  .exact hok
  .exact h.ok x hx
 .rcases qmd hx with rfl | ⟨hx, _⟩
  .rcases hup with e | ⟨y, hy, e1, e2⟩
   .exact .inl e
   .obtain ⟨z, hz, f1, f2⟩ := keep y hy e2
    exact .inr ⟨z, hz, f1.trans e1, f2⟩
  .rcases h.up x hx with e | ⟨y, hy, e1, e2⟩
   .exact .inl e
   .obtain ⟨z, hz, f1, f2⟩ := keep y hy e2
    exact .inr ⟨z, hz, f1.trans e1, f2⟩
 .rcases qmd hx with rfl | ⟨hx, _⟩
  .exact absurd hg h0
  .rcases qmd hy with rfl | ⟨hy, _⟩
   .rw [hg] at he; exact absurd he.symm h0
   .exact h.like x hx y hy h0 he
theorem RightP.q {l : List qa} (h : RightP l) : RightQ l := ⟨h.ok, h.sorted, h.up, h.like⟩
theorem qky {l : List qa} {n : qa} (hno : ∀ y ∈ l, y.1 ≠ n.1) (g : Int) : cnt l g <= cnt (putV l n) g := by
 unfold putV cnt
 rw [List.filter_append, List.length_append, List.filter_cons]
 have e : ∀ m : List qa, (∀ y ∈ m, y.1 ≠ n.1) -> (m.filter (fun x => gr x == g)).length = ((m.filter (ltP n.1)).filter (fun x => gr x == g)).length + ((m.filter (fun x => !ltP n.1 x && neP n.1 x)).filter (fun x => gr x == g)).length := by
  intro m
  induction m with
  | nil => intro _; rfl
  | cons a m ih =>
   intro hm;have ih := ih fun y hy => hm y (List.mem_cons_of_mem _ hy)
   have hne : neP n.1 a = true := by
    unfold neP;rw [show (a.1 == n.1) = false by rw [beq_eq_false_iff_ne]; exact hm a (List.mem_cons_self ..)]; rfl
   rw [List.filter_cons, List.filter_cons, List.filter_cons, hne];cases ltP n.1 a <;> cases hga : gr a == g <;> simp [hga, ih] <;> omega
 have := e l hno
 split <;> (try simp only [List.length_cons]) <;> omega
theorem qou {l : List qa} (h : RightP l) {n : qa} (hok : qt n = true) (hg : gr n = 0) (hup : qg n.1 = [] ∨ ∃ y ∈ l, y.1 = qg n.1 /\ y.2.1 = 0) (hno : ∀ y ∈ l, y.1 ≠ n.1) (hl : (putV l n).length <= 200) (hs : dsum (putV l n) <= 20000) : RightP (putV l n) := by
 have q := qBk h.q hok hg hup (fun y hy e => absurd e (hno y hy))
 refine ⟨hl, q.ok, q.sorted, q.up, q.like, fun x hx h0 => ?_, hs⟩
 rcases qmd hx with rfl | ⟨hx, _⟩
 .exact absurd hg h0
 .exact Nat.le_trans (h.two x hx h0) (qky hno _)
theorem qEp {l : List qa} (h : AllS l) {n : qa} (hn : SmT n) : AllS (putV l n) := fun x hx => by
 rcases qKj hx with hx | rfl
 .exact h x hx
 .exact hn
theorem qSs {l : List qa} (h : AllS l) (f : qa -> Bool) : AllS (l.filter f) := fun x hx => h x (List.mem_filter.1 hx).1
theorem qQn {l : List qa} (hs : qmc l) (n : qa) (hl : l.length <= 1000) : (putV l n).length <= l.length + 1 := by
 obtain ⟨jj, hp⟩ := qgm l hs n.1
 exact qkq hp
theorem qks (c : List Int) (hc : c.length <= 1048576) : ∃ r, qCf c 12 = some r /\ (1 <= r.1 /\ r.1 <= 12) := by
 unfold qCf
 have hd : Int.tdiv (c.length : Int) 20 = ((c.length / 20 : Nat) : Int) := rfl
 rw [if_pos (by decide), hd, wr ((c.length / 20 : Nat) : Int) (by omega), wr ((2 : Int) + ((c.length / 20 : Nat) : Int)) (by omega)]
 by_cases h : (2 : Int) + ((c.length / 20 : Nat) : Int) > 12
 .rw [decide_eq_true h]; exact ⟨_, rfl, by decide, by decide⟩
 .rw [decide_eq_false h]; exact ⟨_, rfl, by show 1 <= (2 : Int) + _; omega, by show (2 : Int) + _ <= 12; omega⟩
theorem qqu (b : Int) (hb0 : 0 <= b) (hb : b <= 14) (s : CurT) (h : Cur s) : ∃ r, qtf b s = some r /\ (r.1.1.length <= 14 /\ AllS r.1.1 /\ RightP r.1.1) /\ (r.1.2.1.length <= 20 /\ AllS r.1.2.1 /\ RightP r.1.2.1) /\ Cur r.2.1 := by
 unfold qtf
 refine qb (qcv b hb0 hb s h) ?_
 rintro ⟨u0, s1, src, u1⟩ ⟨hl, hA, hR, h1⟩
 have hl : src.length <= 14 := hl
 have hA : AllS src := hA
 have hR : RightP src := hR
 dsimp only
 rw [if_pos (by simp only [qc, List.length_nil]; omega)]
 refine qb (qzb 6 (by omega) (by omega) s1 h1) ?_
 rintro ⟨tn, s2, u2⟩ ⟨htn, h2⟩
 have htn : 0 <= tn /\ tn < 6 := htn
 dsimp only
 rw [show qc (List UInt8 × Int × Int × Int × List UInt8 × List UInt8 × Int) ++ src = src from rfl]
 have hs0 := hR.sum
 refine qb (Q := fun r => ∃ (dst : List qa) (cu : CurT), r = (((), dst, ()), cu, src, ()) /\ dst.length <= 20 /\ AllS dst /\ RightP dst /\ Cur cu)
  (qjc _ (fun c t => ∃ (j : Nat) (dst : List qa) (cu : CurT), t = (((), (), dst, tn, (j : Int), ()), cu, src, ()) /\ (j : Int) <= tn /\ dst.length <= 14 + j /\ AllS dst /\ RightP dst /\ Cur cu /\ c = tn.toNat - j) _ ?_ _ tn.toNat _ ⟨0, src, s2, rfl, by omega, by omega, hA, hR, h2, by omega⟩ (by omega)) ?_
 .rintro c t k ⟨j, dst, cu, rfl, hj, hd, hA, hR, hc, rfl⟩ hk
  dsimp only;refine qb (Q := fun r => ∃ f : Bool, r = (((), (), dst, tn, (j : Int), f, ()), cu, src, ()) /\ (f = true -> (j : Int) < tn /\ 0 < dst.length)) ?_ ?_
  .by_cases hlt : (j : Int) < tn
   .rw [decide_eq_true hlt, cond_true]
    exact ⟨_, rfl, _, rfl, fun e => ⟨hlt, by rw [decide_eq_true_eq] at e; omega⟩⟩
   .rw [decide_eq_false hlt]; exact ⟨_, rfl, false, rfl, fun e => by cases e⟩
  rintro t ⟨f, rfl, hf⟩;dsimp only;cases f with
  | false => rw [cond_false]; exact ⟨_, rfl, dst, cu, rfl, by omega, hA, hR, hc⟩
  | true =>
   obtain ⟨hlt, hpos⟩ := hf rfl;rw [cond_true];refine qb (qzb (dst.length : Int) (by omega) (by omega) cu hc) ?_;rintro ⟨i, c1, u3⟩ ⟨hi, hc1⟩;have hi : 0 <= i /\ i < (dst.length : Int) := hi;obtain ⟨n, rfl⟩ := Int.eq_ofNat_of_zero_le hi.1;have hn : n < dst.length := by omega
   dsimp only;refine qb (qzb 5 (by omega) (by omega) c1 hc1) ?_;rintro ⟨q, c2, u4⟩ ⟨_, hc2⟩;dsimp only;have hmem : nd dst n ∈ dst := qNf hn;have hnok := hR.ok _ hmem;have hpok := qG hnok;have hsm := qDh hA n;rw [Int.toNat_natCast];have step : ∀ (d2 : List qa) (c4 : CurT), d2.length <= dst.length + 1 -> AllS d2 -> RightP d2 -> Cur c4 -> ∃ t, k (((), (), d2, tn, IntKind.wrap .i64 ((j : Int) + 1), ()), c4, src, ()) = some t /\ ∃ (dst : List qa) (cu : CurT), t = (((), dst, ()), cu, src, ()) /\ dst.length <= 20 /\ AllS dst /\ RightP dst /\ Cur cu := fun d2 c4 g1 g2 g3 g4 => by
    rw [wr1 j (by omega)];exact hk (tn.toNat - (j + 1)) _ (by omega) ⟨j + 1, d2, c4, rfl, by omega, by omega, g2, g3, g4, rfl⟩
   refine qb (Q := fun r => ∃ (d2 : List qa) (c4 : CurT), r = (((), (), d2, tn, (j : Int), ()), c4, src, ()) /\ d2.length <= dst.length + 1 /\ AllS d2 /\ RightP d2 /\ Cur c4) ?_ (by
    rintro t ⟨d2, c4, rfl, g1, g2, g3, g4⟩;exact step d2 c4 g1 g2 g3 g4)
   have lonely : ∀ {d3 : List qa}, RightQ d3 -> d3.length <= dst.length + 1 -> AllS d3 -> RightP (qpc d3) /\ AllS (qpc d3) /\ (qpc d3).length <= dst.length + 1 := fun {d3} hq hl3 hA3 => by
    have := qwi hA3;exact ⟨qcl hq (by omega) (by omega), qWk hA3, by rw [qkd]; exact hl3⟩
   cases q == 0 with
   | true =>
    rw [cond_true, if_pos hi];have e : qKb dst (nd dst n).1 = _ := qvl dst (by omega) (fun i hi => qG (hR.ok _ (qNf hi))) (nd dst n).1 hpok;refine qb (Q := fun r => r = (qpc (dst.filter (qof (nd dst n).1)), ())) ⟨_, e, rfl⟩ ?_;rintro t rfl;refine ⟨_, rfl, _, c2, rfl, ?_, qWk (qSs hA _), qTp hR _, hc2⟩;rw [qkd];exact Nat.le_succ_of_le (List.length_filter_le _ _)
   | false =>
    rw [cond_false];have pass : ∀ {o : Option (((Unit × Unit × List qa × Int × Int × Unit)) × CurT × List qa × Unit)}, (∃ t, o = some t /\ ∃ (d2 : List qa) (c4 : CurT), t = (((), (), d2, tn, (j : Int), ()), c4, src, ()) /\ d2.length <= dst.length + 1 /\ AllS d2 /\ RightP d2 /\ Cur c4) ->
        ∃ t, Option.bind o (fun s => some (((), (), s.1.2.2), s.2)) = some t /\ ∃ (d2 : List qa) (c4 : CurT), t = (((), (), d2, tn, (j : Int), ()), c4, src, ()) /\ d2.length <= dst.length + 1 /\ AllS d2 /\ RightP d2 /\ Cur c4 := by
     rintro o ⟨t, rfl, d2, c4, rfl, g⟩;exact ⟨_, rfl, d2, c4, rfl, g⟩
    refine pass ?_;cases q == 1 with
    | true =>
     rw [cond_true, if_pos hi];refine qb (Q := fun r => ∃ (dt : List UInt8) (c4 : CurT) , r = (((), (), dst, tn, (j : Int), (), ()), c4, src, ((nd dst n).1, (nd dst n).2.1, (nd dst n).2.2.1, (nd dst n).2.2.2.1, dt, (nd dst n).2.2.2.2.2.1, 0, ()), ()) /\ dt.length <= 100 /\ qbc (nd dst n).2.1 (nd dst n).2.2.1 dt (nd dst n).2.2.2.2.2.1 0 = true /\ Cur c4) ?_ ?_
     .show ∃ r, (bif (nd dst n).2.1 == 1 then _ else _) = some r /\ _
      cases hkd : (nd dst n).2.1 == 1 with
      | true =>
       have hk1 : (nd dst n).2.1 = 1 := by simpa using hkd
       rw [cond_true];refine qb (qzb 30 (by omega) (by omega) c2 hc2) ?_;rintro ⟨m, c3, u5⟩ ⟨hm, hc3⟩;have hm : 0 <= m /\ m < 30 := hm;refine qb (qRq m c3 hm.1 (by omega) hc3) ?_;rintro ⟨tx, c5, u6⟩ ⟨ht, hc5⟩;have ht : tx.length <= m.toNat := ht;refine ⟨_, rfl, tx, c5, rfl, by omega, ?_, hc5⟩;have hk := hnok;unfold qt at hk;rw [Bool.and_eq_true] at hk;have hk := hk.2;unfold qbc at hk ⊢;rw [hk1] at hk ⊢;simp only [show ((1 : Int) == 0) = false from rfl, show ((1 : Int) == 1) = true from rfl, cond_false, cond_true, Bool.and_eq_true, decide_eq_true_eq] at hk ⊢;exact ⟨by omega, hk.2.1, rfl⟩
      | false =>
       refine ⟨_, rfl, _, c2, rfl, hsm.2.1, ?_, hc2⟩;have hk := qxp hnok;unfold qt at hk;rw [Bool.and_eq_true] at hk;exact hk.2
     rintro t ⟨dt, c4, rfl, hdt, hkd, hc4⟩;dsimp only;refine qb (qzb 8 (by omega) (by omega) c4 hc4) ?_;rintro ⟨m, c5, u5⟩ ⟨hm, hc5⟩;have hm : 0 <= m /\ m < 8 := hm;dsimp only;rw [wr ((100 : Int) + m) (by omega), qHg dst hR.sorted (by omega) _, Option.bind_some];dsimp only;have hl2 := qQn hR.sorted ((nd dst n).1, (nd dst n).2.1, (nd dst n).2.2.1, 100 + m, dt, (nd dst n).2.2.2.2.2.1, 0) (by omega);rw [qkg _ (by omega), Option.bind_some];have hok2 : qt ((nd dst n).1, (nd dst n).2.1, (nd dst n).2.2.1, 100 + m, dt, (nd dst n).2.2.2.2.2.1, 0) = true := by
      have hk := hnok;unfold qt inI at hk ⊢;simp only [Bool.and_eq_true, decide_eq_true_eq] at hk ⊢;exact ⟨⟨hk.1.1, hk.1.2.1, by omega, by omega⟩, hkd⟩
     have hq := qBk hR.q (n := ((nd dst n).1, (nd dst n).2.1, (nd dst n).2.2.1, 100 + m, dt, (nd dst n).2.2.2.2.2.1, 0)) hok2 rfl (hR.up (nd dst n) hmem) (fun y hy e h0 => by
      rw [qlp hR.sorted hy hmem e] at h0; exact h0)
     obtain ⟨g1, g2, g3⟩ := lonely hq hl2 (qEp hA ⟨hsm.1, hdt, hsm.2.2⟩);exact ⟨_, rfl, _, c5, rfl, g3, g2, g1, hc5⟩
    | false =>
     rw [cond_false];refine pass ?_;cases q == 2 with
     | true =>
      rw [cond_true, if_pos hi];refine qb (qOk (nd dst n).1 hpok hsm.1 c2 hc2) ?_;rintro ⟨x, c3, u5⟩ ⟨hx1, hx2, hx3, hx4, hc3⟩;have hx1 : x.1 = (nd dst n).1 := hx1;dsimp only;rw [if_pos hi];refine pass ?_
      show ∃ t, (bif (nd dst n).2.1 != 0 then _ else _) = some t /\ _
      cases hkd : (nd dst n).2.1 != 0 with
      | false => exact ⟨_, rfl, dst, c3, rfl, by omega, hA, hR, hc3⟩
      | true =>
       have hk0 : (nd dst n).2.1 ≠ 0 := by simpa using hkd
       have hl2 := qQn hR.sorted x (by omega);rw [cond_true, qHg dst hR.sorted (by omega) _, Option.bind_some];dsimp only;rw [qkg _ (by omega), Option.bind_some];have hq := qBk hR.q hx2 hx3 (by rw [hx1]; exact hR.up _ hmem) (fun y hy e h0 => by
        rw [qlp hR.sorted hy hmem (e.trans hx1)] at h0; exact absurd h0 hk0)
       obtain ⟨g1, g2, g3⟩ := lonely hq hl2 (qEp hA hx4);exact ⟨_, rfl, _, c3, rfl, g3, g2, g1, hc3⟩
     | false =>
      rw [cond_false, if_pos hi];refine qb (Q := fun r => ∃ (p : List UInt8), r = (((), (), dst, tn, (j : Int), p, ()), c2, src, ()) /\ p.length <= 200 /\ (p = [] ∨ ∃ y ∈ dst, y.1 = p /\ y.2.1 = 0)) ?_ ?_
      .show ∃ r, (bif (nd dst n).2.1 == 0 then _ else _) = some r /\ _
       cases hkd : (nd dst n).2.1 == 0 with
       | true => rw [cond_true, if_pos hi]; exact ⟨_, rfl, _, rfl, hsm.1, .inr ⟨nd dst n, hmem, rfl, by simpa using hkd⟩⟩
       | false => exact ⟨_, rfl, [], rfl, Nat.zero_le _, .inl rfl⟩
      rintro t ⟨p, rfl, hp, hdir⟩;dsimp only;refine qb (qzr c2 hc2) ?_;rintro ⟨nm, c3, u5⟩ ⟨hnm, hc3⟩;have hnm : nm.length <= 10 := hnm;dsimp only;refine qb (qWo p nm (by omega) (by omega)) ?_;rintro ⟨jp, u6⟩ ⟨hjp, hjr⟩;have hjp : jp.length <= 168 := hjp;have hjr : jp = [] ∨ (qj jp = true /\ qg jp = p) := hjr;dsimp only;refine qb (Q := fun r => ∃ f : Bool, r = (((), (), dst, tn, (j : Int), jp, f, ()), c3, src, ()) /\ (f = true -> jp ≠ [] /\ ∀ x ∈ dst, x.1 ≠ jp)) ?_ ?_
      .show ∃ r, (bif !(jp == []) then _ else _) = some r /\ _
       cases hjn : jp == [] with
       | true => exact ⟨_, rfl, false, rfl, fun h => by cases h⟩
       | false =>
        rw [Bool.not_false, cond_true, qFh dst (by omega), Option.bind_some];refine ⟨_, rfl, _, rfl, fun hf => ⟨by simpa using hjn, fun x hx e => ?_⟩⟩;obtain ⟨k2, hk2, rfl⟩ := qfk hx;have := qkt hR.sorted hk2;rw [show pth dst k2 = jp from e] at this;unfold atV at hf;rw [this] at hf;have hf : decide ((k2 : Int) < 0) = true := hf;rw [decide_eq_true_eq] at hf;omega
      rintro t ⟨f, rfl, hf2⟩;dsimp only;refine pass ?_;cases f with
      | false => exact ⟨_, rfl, dst, c3, rfl, by omega, hA, hR, hc3⟩
      | true =>
       rw [cond_true];obtain ⟨hne, hno⟩ := hf2 rfl;obtain ⟨hjok, hjpar⟩ := hjr.resolve_left hne;refine qb (qOk jp hjok (by omega) c3 hc3) ?_;rintro ⟨x, c4, u7⟩ ⟨hx1, hx2, hx3, hx4, hc4⟩;have hx1 : x.1 = jp := hx1;dsimp only;rw [qHg dst hR.sorted (by omega) x, Option.bind_some];have hl2 := qQn hR.sorted x (by omega);have hx4 : SmT x := hx4;have hA2 := qEp hA hx4;have := qwi hA2;exact ⟨_, rfl, putV dst x, c4, rfl, hl2, hA2, qou hR hx2 hx3 (by rw [hx1, hjpar]; exact hdir) (by rw [hx1]; exact hno) (by omega) (by omega), hc4⟩
 .rintro t ⟨dst, cu, rfl, g1, g2, g3, g4⟩
  exact ⟨_, rfl, ⟨hl, hA, hR⟩, ⟨g1, g2, g3⟩, g4⟩
end Go.AM
