/- The plain law: the model of the law answers true. -/
import Derived.Test.YtibidgfjopmgnaaGreatDoorPAFnWanted
set_option linter.unusedVariables false
set_option linter.unusedSimpArgs false
namespace Go.AM
open Go
theorem getD_rep {n j : Nat} : (List.replicate n false).getD j false = false := by
 rw [List.getD_eq_getElem?_getD, List.getElem?_replicate]; split <;> rfl
/-- What stands ahead of step i at place i in the reference's row. -/
def pre (c : Pc) (s : List UInt8) (at' : List Bool) : Nat → Bool
 | 0 => false
 | i + 1 => c.takes (by8 s i) && (at'.getD i false || (c.many && nx c s at' i))
theorem nx_pre (c : Pc) (s at' i) : nx c s at' i = ((c.many && at'.getD i false) || pre c s at' i) := by
 cases i with
 | zero => rw [nx, pre, Bool.or_false]
 | succ i =>
  rw [nx, pre]
  cases hm : c.many with
  | false => cases c.takes (by8 s i) <;> cases at'.getD i false <;> rfl
  | true =>
   cases i with
   | zero => rw [nx, hm]; cases c.takes (by8 s 0) <;> cases at'.getD 0 false <;> cases at'.getD 1 false <;> rfl
   | succ i =>
    rw [nx, hm]
    cases c.takes (by8 s (i + 1)) <;> cases at'.getD (i + 1) false <;> cases at'.getD (i + 1 + 1) false <;> simp
theorem manyS (c : Pc) : decide (c.S.1 ≥ 3) = c.many := by cases c <;> rfl
theorem mapS_getD (l : List Pc) (k : Nat) (hk : k < l.length) (d) : (l.map Pc.S).getD k d = (l[k]).S := by
 rw [List.getD_eq_getElem?_getD, List.getElem?_map, List.getElem?_eq_getElem hk]; rfl
def nxt1 (c : Pc) (at' next : List Bool) (i : Nat) : List Bool := bif c.many && at'.getD i false then next.set i true else next
def nxt2 (n : Nat) (c : Pc) (s : List UInt8) (at' next : List Bool) (i : Nat) : List Bool := bif decide (i < n) && pre c s at' (i + 1) then (nxt1 c at' next i).set (i + 1) true else nxt1 c at' next i
def RowInv (n : Nat) (c : Pc) (s : List UInt8) (at' : List Bool) (i : Nat) (next : List Bool) : Prop :=
 next.length = n + 1 ∧ ∀ j, j ≤ n → next.getD j false = if j < i then nx c s at' j else if j = i then pre c s at' i else false
theorem nxt1_len {c at' next i} : (nxt1 c at' next i).length = next.length := by unfold nxt1; cases (c.many && at'.getD i false) <;> simp
theorem nxt1_at {n c s at' next i} (h : RowInv n c s at' i next) (hi : i ≤ n) : (nxt1 c at' next i).getD i false = nx c s at' i := by
 have h2 := h.2 i hi
 rw [if_neg (Nat.lt_irrefl i), if_pos rfl] at h2
 rw [nx_pre]
 unfold nxt1
 cases (c.many && at'.getD i false) with
 | true => rw [cond_true, getD_set (by rw [h.1]; omega), if_pos rfl]; rfl
 | false => rw [cond_false, h2]; rfl
theorem nxt1_ne {n c s at' next i j} (h : RowInv n c s at' i next) (hi : i ≤ n) (hj : j ≠ i) : (nxt1 c at' next i).getD j false = next.getD j false := by
 unfold nxt1
 cases (c.many && at'.getD i false) with
 | true => rw [cond_true, getD_set (by rw [h.1]; omega), if_neg (fun e => hj e.symm)]
 | false => rw [cond_false]
theorem RowInv.step {n c s at' next i} (h : RowInv n c s at' i next) (hi : i ≤ n) : RowInv n c s at' (i + 1) (nxt2 n c s at' next i) := by
 constructor
 ·unfold nxt2; cases (decide (i < n) && pre c s at' (i + 1)) <;> simp [nxt1_len, h.1]
 ·intro j hj
  have key : (nxt2 n c s at' next i).getD j false = if j = i + 1 then pre c s at' (i + 1) else (nxt1 c at' next i).getD j false := by
   unfold nxt2
   by_cases hin : i < n
   ·rw [decide_eq_true hin, Bool.true_and]
    cases hp : pre c s at' (i + 1) with
    | true =>
     rw [cond_true, getD_set (by rw [nxt1_len, h.1]; omega)]
     by_cases hj1 : j = i + 1
     ·rw [if_pos hj1, if_pos hj1.symm]
     ·rw [if_neg hj1, if_neg (fun e => hj1 e.symm)]
    | false =>
     rw [cond_false]
     by_cases hj1 : j = i + 1
     ·rw [if_pos hj1, nxt1_ne h hi (by omega), h.2 j hj, if_neg (by omega), if_neg (by omega)]
     ·rw [if_neg hj1]
   ·rw [decide_eq_false hin, Bool.false_and, cond_false, if_neg (by omega)]
  rw [key]
  by_cases hj1 : j = i + 1
  ·rw [if_pos hj1, if_neg (by omega), if_pos hj1]
  ·rw [if_neg hj1]
   by_cases hji : j = i
   ·subst hji; rw [if_pos (by omega), nxt1_at h hi]
   ·rw [nxt1_ne h hi hji, h.2 j hj, if_neg hji, if_neg hj1]
    by_cases hl : j < i
    ·rw [if_pos hl, if_pos (by omega)]
    ·rw [if_neg hl, if_neg (by omega)]
def matchB (p s : List UInt8) : Bool := match (if 1 ≤ p.length ∧ p.length ≤ 60 then pieces p else none) with | none => false | some l => decide (s.length ≤ 200) && matchP l s
theorem mapI_getD (l : List Pc) (k : Nat) (hk : k < l.length) (d) : (l.map Pc.I).getD k d = (l[k]).I := by
 rw [List.getD_eq_getElem?_getD, List.getElem?_map, List.getElem?_eq_getElem hk]; rfl
def RowI (n : Nat) (c : Pc) (s : List UInt8) (at' : List Bool) (i : Nat) (next : List Bool) : Prop :=
 next.length = n + 1 ∧ ∀ j, j ≤ n → next.getD j false = if j < i then nx c s at' j else false
theorem RowI.set {n c s at' next i} (h : RowI n c s at' i next) (hi : i ≤ n) {x : Bool} (hx : x = nx c s at' i) : RowI n c s at' (i + 1) (next.set i x) := by
 refine ⟨by rw [List.length_set]; exact h.1, fun j hj => ?_⟩
 rw [getD_set (by rw [h.1]; omega)]
 by_cases hij : i = j
 ·subst hij; rw [if_pos rfl, if_pos (by omega), hx]
 ·rw [if_neg hij, h.2 j hj]
  by_cases hl : j < i
  ·rw [if_pos hl, if_pos (by omega)]
  ·rw [if_neg hl, if_neg (by omega)]
theorem RowI.same {n c s at' next i} (h : RowI n c s at' i next) (hx : nx c s at' i = false) : RowI n c s at' (i + 1) next := by
 refine ⟨h.1, fun j hj => ?_⟩
 rw [h.2 j hj]
 by_cases hij : j = i
 ·subst hij; rw [if_neg (by omega), if_pos (by omega), hx]
 ·by_cases hl : j < i
  ·rw [if_pos hl, if_pos (by omega)]
  ·rw [if_neg hl, if_neg (by omega)]
theorem impl_match_eq (l : List Pc) (hwf : ∀ c ∈ l, c.wf) (hll : l.length ≤ 60) (s : List UInt8) (hs : s.length ≤ 200) : m_impl_match (l.map Pc.I) s = some (matchP l s, ()) := by
 unfold m_impl_match
 have wn : IntKind.wrap IntKind.i64 ((s.length : Int) + 1) = ((s.length + 1 : Nat) : Int) := by rw [wr _ (by omega)]; omega
 have gq : (0 : Int) ≤ ((s.length + 1 : Nat) : Int) ∧ ((s.length + 1 : Nat) : Int) ≤ ((s.length + 1 : Nat) : Int) ∧ ((1 : Nat) : Int) * ((s.length + 1 : Nat) : Int) ≤ (140737488355328 : Int) ∧ ((s.length + 1 : Nat) : Int) < (2 : Int) ^ (62 : Nat) := by
  refine ⟨by omega, by omega, by omega, ?_⟩
  show _ < (4611686018427387904 : Int)
  omega
 have tz : Int.toNat (0 : Int) = 0 := rfl
 simp only [wn, Int.toNat_natCast, tz, List.length_replicate, List.length_map]
 rw [if_pos gq, if_pos (by omega), if_pos (by omega)]
 have h0 : (List.replicate (s.length + 1) false).set 0 true = row0 s.length := by rw [List.replicate_succ]; rfl
 rw [h0]
 refine (congrArg (fun o => Option.bind o _) ((loopC_inv _
  (fun n st => ∃ (k : Nat) (at' : List Bool), st = ((s, (), l.map Pc.I, (l.length : Int), (k : Int), ()), at', ()) ∧ at'.length = s.length + 1 ∧ k ≤ l.length ∧ n = l.length - k)
  (fun st => some ((s, (), ()), rows s (l.drop st.1.2.2.2.2.1.toNat) st.2.1, ())) ?_ _ l.length _ ?_ ?_))).trans ?_
 ·rintro n st kk ⟨k, at', rfl, hat, hkl, rfl⟩ hk
  dsimp only
  by_cases hlt : k < l.length
  ·rw [decide_eq_true (show (k : Int) < (l.length : Int) by omega), cond_true, if_pos (by rw [List.length_map]; omega)]
   simp only [wn, Int.toNat_natCast, tz, List.length_replicate, List.length_map]
   rw [if_pos gq]
   have hkc : (l[k]).wf := hwf _ (List.getElem_mem hlt)
   rw [mapI_getD l k hlt]
   generalize hc : l[k] = c at hkc ⊢
   refine (congrArg (fun o => Option.bind o _) ((loopC_inv _
    (fun n st => ∃ (i : Nat) (next : List Bool), st = ((s, (), c.I, (), l.map Pc.I, (l.length : Int), (k : Int), ((s.length + 1 : Nat) : Int), (i : Int), ()), at', next, ()) ∧ i ≤ s.length + 1 ∧ RowI s.length c s at' i next ∧ n = s.length + 1 - i)
    (fun st => some ((s, (), l.map Pc.I, (l.length : Int), (k : Int), ()), rowOf (nx c s at') s.length, ())) ?_ _ (s.length + 1) _ ?_ ?_))).trans ?_
   ·rintro n st k1 ⟨i, next, rfl, hi, hinv, rfl⟩ hk1
    have w1 : IntKind.wrap IntKind.i64 ((i : Int) + 1) = ((i + 1 : Nat) : Int) := by rw [wr _ (by omega)]; omega
    dsimp only
    by_cases hle : i ≤ s.length
    ·have fin : ∀ next', RowI s.length c s at' (i + 1) next' → k1 ((s, (), c.I, (), l.map Pc.I, (l.length : Int), (k : Int), ((s.length + 1 : Nat) : Int), ((i + 1 : Nat) : Int), ()), at', next', ()) = some ((s, (), l.map Pc.I, (l.length : Int), (k : Int), ()), rowOf (nx c s at') s.length, ()) :=
      fun next' h' => hk1 (s.length + 1 - (i + 1)) _ (by omega) ⟨i + 1, next', rfl, by omega, h', rfl⟩
     have hn1 : next.length = s.length + 1 := hinv.1
     have ga : (0 : Int) ≤ (i : Int) ∧ (i : Int) < (at'.length : Int) := by omega
     have ga' : i < at'.length := by omega
     have gn : (0 : Int) ≤ (i : Int) ∧ (i : Int) < (next.length : Int) := by omega
     have gn' : i < next.length := by omega
     rw [decide_eq_true (show (i : Int) < ((s.length + 1 : Nat) : Int) by omega), cond_true, many_eq, Option.bind_some]
     simp only [Int.toNat_natCast, if_pos ga, if_pos ga', if_pos gn, if_pos gn', w1]
     cases i with
     | zero =>
      rw [decide_eq_false (show ¬((0 : Nat) : Int) > (0 : Int) by omega)]
      cases hm : c.many with
      | true =>
       cases hA : at'.getD 0 false with
       | true => simp only [cond_true, Option.bind_some, w1]; exact fin _ (hinv.set hle (x := true) (by simp only [nx, hm, hA, cond_true, cond_false, Bool.true_and, Bool.false_and, Bool.true_or, Bool.false_or]))
       | false => simp only [cond_true, cond_false, Option.bind_some, w1]; exact fin _ (hinv.set hle (x := false) (by simp only [nx, hm, hA, cond_true, cond_false, Bool.true_and, Bool.false_and, Bool.true_or, Bool.false_or]))
      | false => simp only [cond_false, Option.bind_some, w1]; exact fin _ (hinv.same (by simp only [nx, hm, cond_true, cond_false, Bool.true_and, Bool.false_and, Bool.true_or, Bool.false_or]))
     | succ j =>
      have wm : IntKind.wrap IntKind.i64 (((j + 1 : Nat) : Int) - 1) = (j : Int) := by rw [wr _ (by omega)]; omega
      have ga2 : (0 : Int) ≤ (j : Int) ∧ (j : Int) < (at'.length : Int) := by omega
      have ga2' : j < at'.length := by omega
      have gn2 : (0 : Int) ≤ (j : Int) ∧ (j : Int) < (next.length : Int) := by omega
      have gn2' : j < next.length := by omega
      have gs2 : (0 : Int) ≤ (j : Int) ∧ (j : Int) < (s.length : Int) := by omega
      have hnj : next.getD j false = nx c s at' j := by rw [hinv.2 j (by omega), if_pos (by omega)]
      have ht : m_impl_piece_takes c.I (((s.getD j 0).toNat : Nat) : Int) = some (c.takes (by8 s j), ()) := takes_eq c hkc _ (by8_lt _ _)
      rw [decide_eq_true (show ((j + 1 : Nat) : Int) > (0 : Int) by omega)]
      simp only [wm, Int.toNat_natCast, if_pos ga2, if_pos ga2', if_pos gn2, if_pos gn2', if_pos gs2, ht, hnj, Option.bind_some, cond_true]
      cases hm : c.many with
      | true =>
       cases hA : at'.getD (j + 1) false with
       | true => simp only [cond_true, Option.bind_some, w1]; exact fin _ (hinv.set hle (x := true) (by simp only [nx, hm, hA, cond_true, cond_false, Bool.true_and, Bool.false_and, Bool.true_or, Bool.false_or]))
       | false =>
        cases hN : nx c s at' j with
        | true => simp only [cond_true, cond_false, Option.bind_some, w1]; exact fin _ (hinv.set hle (x := c.takes (by8 s j)) (by simp only [nx, hm, hA, hN, cond_true, cond_false, Bool.true_and, Bool.false_and, Bool.true_or, Bool.false_or]))
        | false => simp only [cond_true, cond_false, Option.bind_some, w1]; exact fin _ (hinv.set hle (x := false) (by simp only [nx, hm, hA, hN, cond_true, cond_false, Bool.true_and, Bool.false_and, Bool.true_or, Bool.false_or]))
      | false =>
       cases hA : at'.getD j false with
       | true => simp only [cond_true, cond_false, Option.bind_some, w1]; exact fin _ (hinv.set hle (x := c.takes (by8 s j)) (by simp only [nx, hm, hA, cond_true, cond_false, Bool.true_and, Bool.false_and, Bool.true_or, Bool.false_or]))
       | false => simp only [cond_true, cond_false, Option.bind_some, w1]; exact fin _ (hinv.set hle (x := false) (by simp only [nx, hm, hA, cond_true, cond_false, Bool.true_and, Bool.false_and, Bool.true_or, Bool.false_or]))
    ·have : i = s.length + 1 := by omega
     rw [decide_eq_false (by omega), cond_false]
     have : next = rowOf (nx c s at') s.length := eq_rowOf hinv.1 (fun j hj => by rw [hinv.2 j hj, if_pos (by omega)])
     rw [this]
   ·exact ⟨0, _, rfl, by omega, ⟨by simp, fun j hj => by rw [getD_rep, if_neg (by omega)]⟩, rfl⟩
   ·omega
   ·simp only [Option.bind_some]
    have w1 : IntKind.wrap IntKind.i64 ((k : Int) + 1) = ((k + 1 : Nat) : Int) := by rw [wr _ (by omega)]; omega
    rw [w1, hk (l.length - (k + 1)) _ (by omega) ⟨k + 1, _, rfl, rowOf_len _ _, by omega, rfl⟩]
    simp only [Int.toNat_natCast]
    rw [List.drop_eq_getElem_cons hlt, hc]
    rfl
  ·have : k = l.length := by omega
   rw [decide_eq_false (by omega), cond_false, this]
   simp only [Int.toNat_natCast, List.drop_length]; rfl
 ·exact ⟨0, _, rfl, by simp [row0], by omega, rfl⟩
 ·omega
 ·simp only [Option.bind_some, tz, List.drop_zero]
  have hlen : (rows s l (row0 s.length)).length = s.length + 1 := by
   unfold rows
   have : ∀ (l : List Pc) (a : List Bool), a.length = s.length + 1 → (l.foldl (fun a c => rowOf (nx c s a) s.length) a).length = s.length + 1 := by
    intro l
    induction l with
    | nil => intro a h; exact h
    | cons c l ih => intro a h; exact ih _ (rowOf_len _ _)
   exact this _ _ (by simp [row0])
  rw [if_pos (by omega), if_pos (by omega)]
  rfl
theorem impl_Match_eq (p s : List UInt8) : m_impl_Match p s = some (matchB p s, ()) := by
 unfold m_impl_Match matchB
 rw [impl_pieces_eq, Option.bind_some]
 by_cases hp : 1 ≤ p.length ∧ p.length ≤ 60
 ·rw [if_pos hp, if_pos hp]
  cases hq : pieces p with
  | none => rfl
  | some l =>
   have hll : l.length ≤ 60 := by have := pieces_len _ _ _ hq; omega
   simp only [cond_true]
   by_cases hs : s.length ≤ 200
   ·rw [decide_eq_true (show (s.length : Int) ≤ 200 by omega), decide_eq_true hs, impl_match_eq l (pieces_wf hq) hll s hs]; rfl
   ·rw [decide_eq_false (show ¬(s.length : Int) ≤ 200 by omega), decide_eq_false hs]; rfl
 ·rw [if_neg hp, if_neg hp]; rfl
section
variable {α : Type}
end
abbrev RuleT := Int × (Bool × (Bool × List UInt8))
def dR : RuleT := (Int.ofNat (nat_lit 0), false, false, nilOf UInt8)
section
variable {α β : Type}
theorem list_range (l : List α) (d : α) : l = (List.range l.length).map (fun i => l.getD i d) := by
 refine List.ext_getElem (by simp) (fun i h1 h2 => ?_)
 simp [List.getElem?_eq_getElem h1]
theorem range_all (l : List α) (d : α) (f : α → Bool) : (List.range l.length).all (fun i => f (l.getD i d)) = l.all f := by
 have h : ((List.range l.length).map (fun i => l.getD i d)).all f = l.all f := by rw [← list_range l d]
 rw [← h, List.all_map]; rfl
theorem range_find (l : List α) (d : α) (g : α → Option β) : (List.range l.length).findSome? (fun i => g (l.getD i d)) = l.findSome? g := by
 have h : ((List.range l.length).map (fun i => l.getD i d)).findSome? g = l.findSome? g := by rw [← list_range l d]
 rw [← h, List.findSome?_map]; rfl
end
theorem findLoop {S R : Type} (F : S → (S → Option R) → Option R) (st : Nat → S) (len : Nat) (hit : Nat → Option R) (fin : R)
    (hstep : ∀ i k, i < len → F (st i) k = (match hit i with | some r => some r | none => k (st (i + 1)))) (hend : ∀ k, F (st len) k = some fin) (fuel : Nat) (hf : len < fuel) :
    loopC fuel F (st 0) = some (((List.range len).findSome? hit).getD fin) := by
 have key := loopC_inv F (fun n s => ∃ i, i ≤ len ∧ s = st i ∧ n = len - i ∧ ∀ j, j < i → hit j = none) (fun _ => some (((List.range len).findSome? hit).getD fin)) (by
  rintro n s k ⟨i, hi, rfl, rfl, hj⟩ hk
  by_cases hlt : i < len
  ·rw [hstep i k hlt]
   cases ho : hit i with
   | some r =>
    have : (List.range len).findSome? hit = some r := by
     rw [List.findSome?_eq_some_iff]
     refine ⟨List.range i, i, (List.range (len - (i + 1))).map (fun x => x + (i + 1)), ?_, ho, fun x hx => hj x (List.mem_range.1 hx)⟩
     refine List.ext_getElem (by simp; omega) (fun n h1 h2 => ?_)
     rw [List.getElem_range, List.getElem_append]
     split
     ·simp
     ·rename_i h
      simp at h
      rcases Nat.lt_or_ge i n with h' | h'
      ·obtain ⟨m, rfl⟩ : ∃ m, n = i + 1 + m := ⟨n - (i + 1), by omega⟩
       simp only [List.length_range]
       rw [List.getElem_cons, dif_neg (by omega)]
       simp; omega
      ·have : n = i := by omega
       subst this; simp
    rw [this]; rfl
   | none =>
    refine hk (len - (i + 1)) _ (by omega) ⟨i + 1, by omega, rfl, rfl, fun j hj' => ?_⟩
    by_cases h : j = i
    ·subst h; exact ho
    ·exact hj j (by omega)
  ·have : i = len := by omega
   subst this
   rw [hend]
   have : (List.range i).findSome? hit = none := by rw [List.findSome?_eq_none_iff]; exact fun j hj' => hj j (List.mem_range.1 hj')
   rw [this]; rfl)
 exact key fuel len _ ⟨0, by omega, rfl, by omega, fun j hj => by omega⟩ hf
def patB (p : List UInt8) : Bool := decide (1 ≤ p.length ∧ p.length ≤ 60) && (pieces p).isSome
theorem impl_patOk (p : List UInt8) : m_impl_PatternOk p = some (patB p, ()) := by
 unfold m_impl_PatternOk patB
 rw [impl_pieces_eq, Option.bind_some]
 by_cases h : 1 ≤ p.length ∧ p.length ≤ 60
 ·rw [if_pos h, decide_eq_true h]; cases pieces p <;> rfl
 ·rw [if_neg h, decide_eq_false h]; rfl
theorem spec_patOk (p : List UInt8) : m_spec_PatternOk p = some (patB p, ()) := by
 unfold m_spec_PatternOk patB
 rw [spec_pieces_eq, Option.bind_some]
 by_cases h : 1 ≤ p.length ∧ p.length ≤ 60
 ·rw [if_pos h, decide_eq_true h]; cases pieces p <;> rfl
 ·rw [if_neg h, decide_eq_false h]; rfl
def edge (p : List UInt8) (i : Nat) : Bool := ((p.getD i 0).toNat : Int) == 47
theorem edge_iff (p : List UInt8) (i : Nat) : edge p i = (p.getD i 0 == 47) := by
 unfold edge
 rw [Bool.eq_iff_iff, beq_iff_eq, beq_iff_eq, ← UInt8.toNat_inj]
 exact ⟨fun h => by simpa using (by omega : (p.getD i 0).toNat = 47), fun h => by have h : (p.getD i 0).toNat = 47 := h; omega⟩
def ruleOk (r : RuleT) : Bool := cond (r.1 == 4) (!r.2.1 && (!r.2.2.1 && r.2.2.2 == [])) (decide (r.1 ≥ 0 ∧ r.1 ≤ 3) && (patB r.2.2.2 && (!edge r.2.2.2 0 && (!edge r.2.2.2 (r.2.2.2.length - 1) && r.2.2.2.all (fun b => !(b == 32))))))
theorem patB_len {p : List UInt8} (h : patB p = true) : 1 ≤ p.length ∧ p.length ≤ 60 := by
 unfold patB at h; rw [Bool.and_eq_true, decide_eq_true_eq] at h; exact h.1
theorem eqB (b : UInt8) (n : Nat) (hn : n < 256) : (((b.toNat : Nat) : Int) == (n : Int)) = (b == UInt8.ofNat n) := by
 rw [Bool.eq_iff_iff, beq_iff_eq, beq_iff_eq, ← UInt8.toNat_inj]
 simp only [UInt8.toNat_ofNat']
 rw [Nat.mod_eq_of_lt (by omega)]
 omega
theorem spec_ruleOk (r : RuleT) (h10 : (10 : UInt8) ∉ r.2.2.2) : m_spec_RuleOk r = some (ruleOk r, ()) := by
 obtain ⟨kd, rt, di, p⟩ := r
 dsimp only at h10
 unfold m_spec_RuleOk ruleOk
 dsimp only
 cases kd == 4 with
 | true =>
  simp only [cond_true]
  cases rt <;> cases di <;> rfl
 | false =>
  simp only [cond_false]
  refine bind_eq (x := (((), !(decide (kd ≥ 0 ∧ kd ≤ 3) && (patB p && (!edge p 0 && !edge p (p.length - 1)))), ()), (kd, rt, di, p, ()), ())) ?_ ?_
  ·rw [l01In_eq, Option.bind_some]
   cases decide (kd ≥ 0 ∧ kd ≤ 3) with
   | false => rfl
   | true =>
    simp only [Bool.not_true, cond_false, Bool.true_and]
    rw [spec_patOk, Option.bind_some]
    cases hp : patB p with
    | false => rfl
    | true =>
     obtain ⟨h1, h2⟩ := patB_len hp
     simp only [Bool.not_true, cond_false, Bool.true_and]
     rw [if_pos (by omega)]
     show (bif edge p 0 then _ else _) = _
     cases edge p 0 with
     | true => rfl
     | false =>
      simp only [cond_false, Bool.not_false, Bool.true_and]
      rw [wr _ (by omega), if_pos (by omega), show Int.toNat ((p.length : Int) - 1) = p.length - 1 by omega, Bool.not_not]
      rfl
  ·dsimp only
   cases hc : (decide (kd ≥ 0 ∧ kd ≤ 3) && (patB p && (!edge p 0 && !edge p (p.length - 1)))) with
   | false =>
    simp only [Bool.not_false, cond_true]
    have : (decide (kd ≥ 0 ∧ kd ≤ 3) && (patB p && (!edge p 0 && (!edge p (p.length - 1) && p.all fun b => !b == 32)))) = false := by
     revert hc; cases decide (kd ≥ 0 ∧ kd ≤ 3) <;> cases patB p <;> cases edge p 0 <;> cases edge p (p.length - 1) <;> simp
    rw [this]
   | true =>
    simp only [Bool.not_true, cond_false]
    have hpl : p.length ≤ 60 := by
     have : patB p = true := by
      cases h : patB p with
      | true => rfl
      | false => rw [h] at hc; simp at hc
     exact (patB_len this).2
    have hr : (decide (kd ≥ 0 ∧ kd ≤ 3) && (patB p && (!edge p 0 && (!edge p (p.length - 1) && p.all fun b => !b == 32)))) = (p.all fun b => !b == 32) := by
     revert hc; cases decide (kd ≥ 0 ∧ kd ≤ 3) <;> cases patB p <;> cases edge p 0 <;> cases edge p (p.length - 1) <;> simp
    rw [hr]
    refine joinC_of (allLoop _ (fun i => (((), (i : Int), ()), (kd, rt, di, p, ()), ())) p.length (fun i => !(p.getD i 0 == 32)) (.inl ((), ())) (.inr (false, ())) ?_ ?_ _ (by omega)) ?_
    ·intro i k hi
     dsimp only
     rw [decide_eq_true (by omega), cond_true, if_pos (by omega)]
     rw [Int.toNat_natCast]
     have e32 : (((p.getD i 0).toNat : Int) == 32) = (p.getD i 0 == 32) := eqB _ 32 (by omega)
     have e10 : (((p.getD i 0).toNat : Int) == 10) = false := by
      have := eqB (p.getD i 0) 10 (by omega)
      rw [show ((10 : Nat) : Int) = 10 from rfl] at this
      rw [this, beq_eq_false_iff_ne]
      intro h
      exact h10 (by rw [show (10 : UInt8) = UInt8.ofNat 10 from rfl, ← h]; exact getD_mem 0 hi)
     rw [e32, e10, if_pos (by omega)]
     cases p.getD i 0 == 32 with
     | true => rfl
     | false => simp only [cond_false, Option.bind_some, Bool.not_false, cond_true]; rw [wr1 i (by omega)]
    ·intro k; dsimp only; rw [decide_eq_false (by omega)]; rfl
    ·rw [range_all p 0 (fun b => !(b == 32))]
     cases p.all fun b => !(b == 32) <;> rfl
theorem hasSuffix_eq (p : List UInt8) (h : 1 ≤ p.length ∧ p.length ≤ 60) : m_strings_HasSuffix p [47] = some (edge p (p.length - 1), ()) := by
 unfold m_strings_HasSuffix m_stringslite_HasSuffix
 simp only [List.length_cons, List.length_nil]
 rw [decide_eq_true (by omega), cond_true, wr _ (by omega), if_pos (by omega)]
 simp only [Option.bind_some]
 rw [show Int.toNat ((p.length : Int) - ((0 + 1 : Nat) : Int)) = p.length - 1 by omega, show Int.toNat (p.length : Int) = p.length by omega, List.take_length, edge_iff]
 have hlt : p.length - 1 < p.length := by omega
 rw [drop_getD 0 hlt, show p.length - 1 + 1 = p.length by omega, List.drop_length]
 congr 2
 rw [Bool.eq_iff_iff]; simp
theorem slIndex (s : List UInt8) : m_stringslite_Index s = some (Go.Lib.indexByte s 47, ()) := by
 have := index_eq s
 unfold m_strings_Index at this
 cases h : m_stringslite_Index s with
 | none => rw [h] at this; cases this
 | some v => rw [h] at this; exact this
theorem index_neg (s : List UInt8) (c : UInt8) : decide (Go.Lib.indexByte s c ≥ 0) = !(s.all (fun b => !(b == c))) := by
 induction s with
 | nil => rfl
 | cons b r ih =>
  unfold Go.Lib.indexByte
  have hge := Go.Lib.indexByte_ge r c
  by_cases hb : b = c
  ·simp [hb]
  ·have hb' : (b == c) = false := by simp [hb]
   rw [List.all_cons, hb']
   simp only [Bool.false_eq_true, if_false, Bool.not_false, Bool.true_and]
   rw [← ih]
   by_cases h1 : Go.Lib.indexByte r c = -1
   ·rw [h1]; rfl
   ·rw [if_neg (by simpa using h1), decide_eq_true (by omega), decide_eq_true (by omega)]
theorem contains_eq (p : List UInt8) : m_strings_Contains_2 p = some (!(p.all (fun b => !(b == 32))), ()) := by
 unfold m_strings_Contains_2 m_strings_Index_3 m_stringslite_Index_3
 by_cases h : p = [32]
 ·subst h; rfl
 ·rw [show (([32] : List UInt8) == p) = false by rw [beq_eq_false_iff_ne]; exact fun h' => h h'.symm]
  simp only [cond_false]
  rw [if_pos (by decide)]
  show some (decide (Go.Lib.indexByte p 32 ≥ 0), ()) = _
  rw [index_neg]
theorem impl_ruleOk (r : RuleT) : m_impl_RuleOk r = some (ruleOk r, ()) := by
 obtain ⟨kd, rt, di, p⟩ := r
 unfold m_impl_RuleOk ruleOk
 dsimp only
 cases hk : kd == 4 with
 | true =>
  simp only [cond_true]
  cases rt <;> cases di <;> simp
 | false =>
  simp only [cond_false]
  rw [within_eqD, Option.bind_some]
  cases decide (kd ≥ 0 ∧ kd ≤ 3) with
  | false => rfl
  | true =>
   simp only [cond_true, Bool.true_and]
   rw [impl_patOk, Option.bind_some]
   cases hp : patB p with
   | false => rfl
   | true =>
    have hl := patB_len hp
    simp only [cond_true, Bool.true_and]
    rw [contains_eq, Option.bind_some, Bool.not_not]
    cases p.all fun b => !(b == 32) with
    | false => simp
    | true =>
     simp only [cond_true, Bool.and_true]
     rw [hasPrefix_eq, Option.bind_some]
     have h0 : (decide (([47] : List UInt8).length ≤ p.length) && (p.take ([47] : List UInt8).length == [47])) = edge p 0 := by
      rw [take1 p 47 47 rfl, edge_iff, decide_eq_true hl.1, Bool.true_and]
      show (by8 p 0 == 47) = _
      unfold by8
      rw [Bool.eq_iff_iff, beq_iff_eq, beq_iff_eq, ← UInt8.toNat_inj]; rfl
     simp only [h0]
     cases edge p 0 with
     | true => rfl
     | false =>
      simp only [Bool.not_false, cond_true, Bool.true_and]
      rw [hasSuffix_eq p hl, Option.bind_some]
      rfl
def tailsAny (f : List UInt8 → Bool) : List UInt8 → Bool
 | [] => false
 | c :: r => (c == 47 && f r) || tailsAny f r
theorem tailsAny_app (f : List UInt8 → Bool) : ∀ (a b : List UInt8), (47 : UInt8) ∉ a → tailsAny f (a ++ b) = tailsAny f b
 | [], b, _ => rfl
 | c :: r, b, h => by
  have hc : (c == 47) = false := by rw [beq_eq_false_iff_ne]; intro e; exact h (e ▸ List.mem_cons_self)
  show ((c == 47 && f (r ++ b)) || tailsAny f (r ++ b)) = _
  rw [hc, Bool.false_and, Bool.false_or]
  exact tailsAny_app f r b (fun h' => h (List.mem_cons_of_mem _ h'))
theorem index_cut (s : List UInt8) : (Go.Lib.indexByte s 47 = -1 ∧ (47 : UInt8) ∉ s) ∨ ∃ (a b : List UInt8), s = a ++ 47 :: b ∧ (47 : UInt8) ∉ a ∧ Go.Lib.indexByte s 47 = (a.length : Nat) := by
 induction s with
 | nil => exact .inl ⟨rfl, by simp⟩
 | cons c r ih =>
  by_cases hc : c = 47
  ·exact .inr ⟨[], r, by rw [hc]; rfl, by simp, by rw [hc]; rfl⟩
  ·have hb : (c == 47) = false := by simp [hc]
   rcases ih with ⟨h1, h2⟩ | ⟨a, b, h1, h2, h3⟩
   ·refine .inl ⟨?_, ?_⟩
    ·unfold Go.Lib.indexByte; rw [hb, h1]; rfl
    ·simp [h2]; exact fun h => hc h.symm
   ·refine .inr ⟨c :: a, b, by rw [h1]; rfl, by simp [h2]; exact fun h => hc h.symm, ?_⟩
    unfold Go.Lib.indexByte; rw [hb, h3]
    have : ((a.length : Int) == -1) = false := by rw [beq_eq_false_iff_ne]; omega
    simp [this]
theorem tailsAny_range (f : List UInt8 → Bool) : ∀ s : List UInt8, (List.range s.length).any (fun i => s.getD i 0 == 47 && f (s.drop (i + 1))) = tailsAny f s
 | [] => rfl
 | c :: r => by
  rw [List.length_cons, List.range_succ_eq_map, List.any_cons, List.any_map]
  show ((c == 47 && f r) || (List.range r.length).any (fun i => r.getD i 0 == 47 && f (r.drop (i + 1)))) = _
  rw [tailsAny_range f r]; rfl
def means (r : RuleT) (path : List UInt8) (dir : Bool) : Bool :=
 !(r.1 == 4) && (!(r.2.2.1 && !dir) && (matchB r.2.2.2 path || (!r.2.1 && tailsAny (matchB r.2.2.2) path)))
theorem impl_means (r : RuleT) (path : List UInt8) (hp : path.length ≤ 1048576) (dir : Bool) : m_impl_Rule_means r path dir = some (means r path dir, ()) := by
 obtain ⟨kd, rt, di, p⟩ := r
 unfold m_impl_Rule_means means
 dsimp only
 refine bind_eq (x := ((path, (), (kd == 4) || (di && !dir), ()), (kd, rt, di, p, ()), ())) ?_ ?_
 ·cases kd == 4 <;> cases di <;> rfl
 ·dsimp only
  cases kd == 4 with
  | true => rfl
  | false =>
   simp only [Bool.false_or, Bool.not_false, Bool.true_and]
   cases (di && !dir) with
   | true => rfl
   | false =>
    simp only [cond_false, Bool.not_false, Bool.true_and]
    refine loopC_inv _ (fun n s => ∃ q : List UInt8, s = ((q, (), ()), (kd, rt, di, p, ()), ()) ∧ q.length ≤ 1048576 ∧ n = q.length) (fun s => some (matchB p s.1.1 || (!rt && tailsAny (matchB p) s.1.1), ())) ?_ _ path.length _ ⟨path, rfl, hp, rfl⟩ (by omega)
    rintro n s k ⟨q, rfl, hq, rfl⟩ hk
    dsimp only
    rw [impl_Match_eq, Option.bind_some]
    cases hm : matchB p q with
    | true => rfl
    | false =>
     simp only [cond_false, Bool.false_or]
     unfold m_strings_Cut m_stringslite_Cut
     rw [slIndex, Option.bind_some]
     dsimp only
     rcases index_cut q with ⟨h1, h2⟩ | ⟨a, b, h1, h2, h3⟩
     ·rw [h1]
      have : tailsAny (matchB p) q = false := by
       have := tailsAny_app (matchB p) q [] h2
       rw [List.append_nil] at this; exact this
      rw [this]
      cases rt <;> rfl
     ·rw [h3, decide_eq_true (by omega), cond_true]
      have hl : q.length = a.length + (b.length + 1) := by rw [h1]; simp
      rw [if_pos (by omega)]
      simp only [List.length_cons, List.length_nil]
      rw [wr _ (by omega), if_pos (by omega)]
      have hd : List.drop (Int.toNat ((a.length : Int) + ((0 + 1 : Nat) : Int))) (List.take (Int.toNat (q.length : Int)) q) = b := by
       rw [show Int.toNat ((a.length : Int) + ((0 + 1 : Nat) : Int)) = a.length + 1 by omega, show Int.toNat (q.length : Int) = q.length by omega, List.take_length, h1]
       simp
      simp only [hd, Option.bind_some]
      cases rt with
      | true => rfl
      | false =>
       simp only [cond_false, Bool.not_true, Option.bind_some, Bool.not_false, Bool.true_and]
       rw [hk b.length _ (by omega) ⟨b, rfl, by omega, rfl⟩]
       have : tailsAny (matchB p) q = (matchB p b || tailsAny (matchB p) b) := by
        rw [h1, tailsAny_app _ _ _ h2]; simp [tailsAny]
       rw [this]; simp
theorem not_any_all {α : Type} (l : List α) (f : α → Bool) : (l.all fun x => !f x) = !l.any f := by
 induction l with
 | nil => rfl
 | cons a r ih => rw [List.all_cons, List.any_cons, ih, Bool.not_or]
theorem pathOk_len {s : List UInt8} (h : pathOk s = true) : s.length ≤ 168 := by
 unfold pathOk at h; rw [Bool.and_eq_true, decide_eq_true_eq] at h; exact h.1
def rulesOk (l : List RuleT) : Bool := decide (l.length ≤ 100) && l.all ruleOk
theorem impl_areRules (l : List RuleT) : m_impl_areRules l = some (rulesOk l, ()) := by
 unfold m_impl_areRules rulesOk
 by_cases hl : l.length ≤ 100
 ·rw [decide_eq_true (by omega), cond_true, decide_eq_true hl, Bool.true_and]
  unfold m_slices_ContainsFunc_impl_Rule_impl_Rule m_slices_IndexFunc_impl_Rule_impl_Rule
  have key := findLoop (fun (s : (List RuleT × Unit × Int × Int × Unit) × Unit) (k : (List RuleT × Unit × Int × Int × Unit) × Unit → Option (Sum (Unit × Unit) (Int × Unit))) =>
      bif decide (s.fst.snd.snd.snd.fst < s.fst.snd.snd.fst) then
       if 0 ≤ s.fst.snd.snd.snd.fst ∧ s.fst.snd.snd.snd.fst < (↑(List.length s.fst.fst) : Int) then
        Option.bind (m_impl_areRules_1 (List.getD s.fst.fst (Int.toNat s.fst.snd.snd.snd.fst) dR)) fun r =>
         bif r.fst then some (Sum.inr s.fst.snd.snd.snd)
         else k ((s.fst.fst, (), s.fst.snd.snd.fst, IntKind.wrap .i64 (s.fst.snd.snd.snd.fst + 1), ()), ())
       else none
      else some (Sum.inl ((), ())))
   (fun i => ((l, (), (l.length : Int), (i : Int), ()), ())) l.length (fun i => if ruleOk (l.getD i dR) then none else some (.inr ((i : Int), ()))) (.inl ((), ()))
   (by
    intro i k hi
    dsimp only
    rw [decide_eq_true (by omega), cond_true, if_pos (by omega), Int.toNat_natCast]
    have e : m_impl_areRules_1 (l.getD i dR) = some (!ruleOk (l.getD i dR), ()) := by unfold m_impl_areRules_1; rw [impl_ruleOk]; rfl
    rw [e, Option.bind_some]
    dsimp only
    cases ruleOk (l.getD i dR) with
    | true => simp only [Bool.not_true, cond_false, if_true]; rw [wr1 i (by omega)]
    | false => rfl)
   (by intro k; dsimp only; rw [decide_eq_false (by omega)]; rfl)
   (l.length + Int.toNat (l.length : Int) + Int.toNat 0 + 300) (by omega)
  have key2 : ∃ v : Int, Option.bind (joinC (loopC (l.length + Int.toNat (l.length : Int) + Int.toNat 0 + 300) (fun (s : (List RuleT × Unit × Int × Int × Unit) × Unit) (k : (List RuleT × Unit × Int × Int × Unit) × Unit → Option (Sum (Unit × Unit) (Int × Unit))) =>
      bif decide (s.fst.snd.snd.snd.fst < s.fst.snd.snd.fst) then
       if 0 ≤ s.fst.snd.snd.snd.fst ∧ s.fst.snd.snd.snd.fst < (↑(List.length s.fst.fst) : Int) then
        Option.bind (m_impl_areRules_1 (List.getD s.fst.fst (Int.toNat s.fst.snd.snd.snd.fst) dR)) fun r =>
         bif r.fst then some (Sum.inr s.fst.snd.snd.snd)
         else k ((s.fst.fst, (), s.fst.snd.snd.fst, IntKind.wrap .i64 (s.fst.snd.snd.snd.fst + 1), ()), ())
       else none
      else some (Sum.inl ((), ()))) ((l, (), (l.length : Int), ((0 : Nat) : Int), ()), ())) fun s => some ((-1 : Int), ())) (fun r => some (decide (r.fst ≥ 0), ())) = some (!l.all ruleOk, ()) := by
   refine ⟨0, ?_⟩
   rw [key]
   cases hf : (List.range l.length).findSome? (fun i => if ruleOk (l.getD i dR) then none else some (Sum.inr ((i : Int), ()) : Sum (Unit × Unit) (Int × Unit))) with
   | none =>
    have : l.all ruleOk = true := by
     rw [← range_all l dR ruleOk, List.all_eq_true]
     intro i hi
     have := List.findSome?_eq_none_iff.1 hf i hi
     cases hr : ruleOk (l.getD i dR) with
     | true => rfl
     | false => rw [hr] at this; cases this
    rw [this]; rfl
   | some v =>
    obtain ⟨i, hi, hv⟩ := List.exists_of_findSome?_eq_some hf
    cases hr : ruleOk (l.getD i dR) with
    | true => rw [hr] at hv; cases hv
    | false =>
     rw [hr] at hv
     cases hv
     have : l.all ruleOk = false := by
      rw [← range_all l dR ruleOk, List.all_eq_false]
      exact ⟨i, hi, by show ¬ ruleOk (l.getD i dR) = true; rw [hr]; decide⟩
     rw [this]
     show some (decide ((i : Int) ≥ 0), ()) = _
     rw [decide_eq_true (by omega)]; rfl
  obtain ⟨_, key2⟩ := key2
  refine bind_of (x := some ((l.all ruleOk, ()), ())) (bind_of key2 ?_) rfl
  show some ((!!l.all ruleOk, ()), ()) = _
  rw [Bool.not_not]
 ·rw [decide_eq_false (by omega), decide_eq_false hl]; rfl
def saysG (yes no : Int) (path : List UInt8) (dir : Bool) (r : RuleT) : Option Int := if ((r.1 == yes || r.1 == no) && means r path dir) = true then some r.1 else none
def first (l : List RuleT) (yes no : Int) (path : List UInt8) (dir : Bool) : Int := (l.findSome? (saysG yes no path dir)).getD (-1)
def says (l : List RuleT) (yes no : Int) (path : List UInt8) (dir : Bool) : Bool := first l yes no path dir == yes
theorem impl_says (l : List RuleT) (hl : l.length ≤ 102) (yes no : Int) (hy : yes ≠ -1) (path : List UInt8) (hp : path.length ≤ 1048576) (dir : Bool) :
    m_impl_says l yes no path dir = some (says l yes no path dir, ()) := by
 unfold m_impl_says says first
 refine joinC_of (findLoop _ (fun i => ((yes, no, path, dir, l, (l.length : Int), (i : Int), ()), ())) l.length (fun i => (saysG yes no path dir (l.getD i dR)).map (fun k => .inr (k == yes, ()))) (.inl ((), ())) ?_ ?_ _ (by omega)) ?_
 ·intro i k hi
  dsimp only
  rw [decide_eq_true (by omega), cond_true, if_pos (by omega), Int.toNat_natCast]
  have hm : m_impl_Rule_means (l.getD i dR) path dir = some (means (l.getD i dR) path dir, ()) := impl_means _ path hp dir
  refine bind_eq (x := ((yes, no, path, dir, (), l, (l.length : Int), (i : Int), ((l.getD i dR).1 == yes || (l.getD i dR).1 == no) && means (l.getD i dR) path dir, ()), ((l.getD i dR).1, (l.getD i dR).2.1, (l.getD i dR).2.2.1, (l.getD i dR).2.2.2, ()), ())) ?_ ?_
  ·show (bif (l.getD i dR).1 == yes then Option.bind (m_impl_Rule_means (l.getD i dR) path dir) _ else (bif (l.getD i dR).1 == no then Option.bind (m_impl_Rule_means (l.getD i dR) path dir) _ else _)) = _
   rw [hm]
   cases (l.getD i dR).1 == yes <;> cases (l.getD i dR).1 == no <;> rfl
  ·dsimp only
   unfold saysG
   cases ((l.getD i dR).1 == yes || (l.getD i dR).1 == no) && means (l.getD i dR) path dir with
   | true => rfl
   | false => simp only [cond_false]; rw [wr1 i (by omega)]; rfl
 ·intro k; dsimp only; rw [decide_eq_false (by omega)]; rfl
 ·rw [range_find l dR (fun r => (saysG yes no path dir r).map (fun k => (.inr (k == yes, ()) : Sum (Unit × Unit) (Bool × Unit))))]
  have : ∀ l : List RuleT, l.findSome? (fun r => (saysG yes no path dir r).map (fun k => (.inr (k == yes, ()) : Sum (Unit × Unit) (Bool × Unit)))) = (l.findSome? (saysG yes no path dir)).map (fun k => .inr (k == yes, ())) := by
   intro l
   induction l with
   | nil => rfl
   | cons a r ih =>
    rw [List.findSome?_cons, List.findSome?_cons]
    cases saysG yes no path dir a with
    | some v => rfl
    | none => exact ih
  rw [this]
  cases l.findSome? (saysG yes no path dir) with
  | some v => rfl
  | none =>
   show some (false, ()) = some ((-1 : Int) == yes, ())
   rw [show ((-1 : Int) == yes) = false by rw [beq_eq_false_iff_ne]; exact fun h => hy h.symm]
theorem pathOk_take {s : List UInt8} (h : pathOk s = true) {i : Nat} (hi : i < s.length) (h47 : s.getD i 0 = 47) : pathOk (s.take i) = true := by
 have e : s = s.take i ++ 47 :: s.drop (i + 1) := by
  have := List.take_append_drop i s
  rw [drop_getD 0 hi, h47] at this
  exact this.symm
 unfold pathOk at h ⊢
 rw [e, split_app] at h
 simp only [Bool.and_eq_true, decide_eq_true_eq, List.length_append, List.all_append, List.length_cons] at h ⊢
 refine ⟨?_, ?_, h.2.2.1⟩
 ·omega
 ·omega
def under (l : List RuleT) (path : List UInt8) (i : Nat) : Bool := path.getD i 0 == 47 && says l 0 1 (path.take i) true
def hidden (l : List RuleT) (path : List UInt8) (dir : Bool) : Bool := (List.range path.length).any (under l path) || says l 0 1 path dir
theorem impl_hidden (l : List RuleT) (hl : l.length ≤ 102) (path : List UInt8) (hp : path.length ≤ 1048576) (dir : Bool) : m_impl_hidden l path dir = some (hidden l path dir, ()) := by
 unfold m_impl_hidden hidden
 refine joinC_of (allLoop _ (fun i => ((l, path, dir, (path.length : Int), (i : Int), ()), ())) path.length (fun i => !under l path i) (.inl ((l, path, dir, ()), ())) (.inr (true, ())) ?_ ?_ _ (by omega)) ?_
 ·intro i k hi
  dsimp only
  rw [decide_eq_true (by omega), cond_true, if_pos (by omega), Int.toNat_natCast]
  have e47 : (((path.getD i 0).toNat : Int) == 47) = (path.getD i 0 == 47) := eqB _ 47 (by omega)
  refine bind_eq (x := ((l, path, dir, (path.length : Int), (i : Int), under l path i, ()), ())) ?_ ?_
  ·rw [e47]
   unfold under
   cases h47 : path.getD i 0 == 47 with
   | false => rfl
   | true =>
    simp only [cond_true, Bool.true_and]
    rw [if_pos (by omega)]
    simp only [Int.toNat_zero, List.drop_zero]
    rw [impl_says l hl 0 1 (by omega) _ (by rw [List.length_take]; omega) true]
    rfl
  ·dsimp only
   cases under l path i with
   | true => rfl
   | false => simp only [cond_false, Bool.not_false, cond_true]; rw [wr1 i (by omega)]
 ·intro k; dsimp only; rw [decide_eq_false (by omega)]; rfl
 ·rw [not_any_all]
  cases (List.range path.length).any (under l path) with
  | true => rfl
  | false =>
   simp only [Bool.not_false, cond_true, Bool.false_or]
   show Option.bind (m_impl_says l 0 1 path dir) _ = _
   rw [impl_says l hl 0 1 (by omega) path hp dir]
   rfl
def noNl (r : RuleT) : Prop := (10 : UInt8) ∉ r.2.2.2
theorem hidden_under (l : List RuleT) (path : List UInt8) (dir : Bool) (i : Nat) (hi : i < path.length) (h47 : (path.getD i 0 == 47) = true) (h : hidden l (path.take i) true = true) : hidden l path dir = true := by
 unfold hidden at h ⊢
 rw [Bool.or_eq_true] at h ⊢
 left
 rw [List.any_eq_true]
 rcases h with h | h
 ·rw [List.any_eq_true] at h
  obtain ⟨j, hj, hu⟩ := h
  rw [List.mem_range, List.length_take] at hj
  have hji : j < i := by omega
  refine ⟨j, List.mem_range.2 (by omega), ?_⟩
  unfold under at hu ⊢
  have e1 : (path.take i).getD j 0 = path.getD j 0 := by
   rw [List.getD_eq_getElem?_getD, List.getD_eq_getElem?_getD, List.getElem?_take, if_pos hji]
  have e2 : (path.take i).take j = path.take j := by rw [List.take_take, Nat.min_eq_left (by omega)]
  rw [e1, e2] at hu
  exact hu
 ·refine ⟨i, List.mem_range.2 hi, ?_⟩
  unfold under
  rw [h47, h]; rfl
theorem spec_one_eq (c : Pc) (hc : c.wf) (b : Nat) (hb : b < 256) : m_spec_l08One c.S (b : Int) = some (c.takes b, ()) := by
 unfold m_spec_l08One
 cases c with
 | byte x => show some ((((b : Nat) : Int) == ((x : Nat) : Int)), ()) = _; rw [eqNN]; rfl
 | any x => show some (((b : Nat) : Int) != (47 : Int), ()) = _; rw [ne47]; rfl
 | star x => show some (((b : Nat) : Int) != (47 : Int), ()) = _; rw [ne47]; rfl
 | stars x => rfl
 | cl nt s =>
  have hl : s.length = 256 := hc
  show Option.bind (bif ((b : Nat) : Int) != (47 : Int) then (if (0 : Int) ≤ (b : Int) ∧ (b : Int) < (s.length : Int) then some ((!(List.getD s (Int.toNat (b : Int)) false == nt), ()), ()) else none) else some ((false, ()), ())) _ = _
  rw [ne47, if_pos (by omega), Int.toNat_natCast]
  show _ = some (b != 47 && (!(s.getD b false == nt)), ())
  cases (b != 47) <;> rfl
theorem spec_match_eq (p s : List UInt8) : m_spec_Match p s = some (matchB p s, ()) := by
 unfold m_spec_Match matchB
 rw [spec_pieces_eq, Option.bind_some]
 by_cases hp : 1 ≤ p.length ∧ p.length ≤ 60
 ·rw [if_pos hp, if_pos hp]
  cases hq : pieces p with
  | none => rfl
  | some l =>
   have hwf := pieces_wf hq
   have hll : l.length ≤ 60 := by have := pieces_len _ _ _ hq; omega
   simp only [Bool.not_true, cond_false, Option.bind_some]
   by_cases hs : s.length ≤ 200
   ·rw [decide_eq_false (show ¬(s.length : Int) > 200 by omega), decide_eq_true hs]
    simp only [cond_false, Bool.true_and]
    refine (congrArg (fun o => Option.bind o _) ((loopC_inv _
     (fun n st => ∃ (i : Nat), st = ((s, l.map Pc.S, (), (i : Int), ()), true :: List.replicate i false, ()) ∧ i ≤ s.length ∧ n = s.length - i)
     (fun st => some ((s, l.map Pc.S, (), ()), row0 s.length, ())) ?_ _ s.length _ ?_ ?_))).trans ?_
    ·rintro n st k ⟨i, rfl, hi, rfl⟩ hk
     dsimp only
     by_cases hlt : i < s.length
     ·rw [decide_eq_true (show (i : Int) < (s.length : Int) by omega), cond_true, if_pos (by simp only [List.length_cons, List.length_replicate, List.length_nil]; omega)]
      rw [hk (s.length - (i + 1)) _ (by omega) ⟨i + 1, by rw [wr _ (by omega), List.replicate_succ']; rfl, by omega, rfl⟩]
     ·have : i = s.length := by omega
      rw [decide_eq_false (by omega), cond_false, this]; rfl
    ·exact ⟨0, rfl, by omega, rfl⟩
    ·simp only [List.length_map]; omega
    ·simp only [Option.bind_some]
     refine (congrArg (fun o => Option.bind o _) ((loopC_inv _
      (fun n st => ∃ (k : Nat) (at' : List Bool), st = ((s, l.map Pc.S, (), (k : Int), ()), at', ()) ∧ at'.length = s.length + 1 ∧ k ≤ l.length ∧ n = l.length - k)
      (fun st => some ((s, (), ()), rows s (l.drop st.1.2.2.2.1.toNat) st.2.1, ())) ?_ _ l.length _ ?_ ?_))).trans ?_
     ·rintro n st kk ⟨k, at', rfl, hat, hkl, rfl⟩ hk
      dsimp only
      by_cases hlt : k < l.length
      ·rw [decide_eq_true (show (k : Int) < (((l.map Pc.S).length : Nat) : Int) by rw [List.length_map]; omega), cond_true]
       refine (congrArg (fun o => Option.bind o _) ((loopC_inv _
        (fun n st => ∃ (i : Nat), st = ((s, l.map Pc.S, (), (k : Int), (), (i : Int), ()), at', List.replicate i false, ()) ∧ i ≤ s.length + 1 ∧ n = s.length + 1 - i)
        (fun st => some ((s, l.map Pc.S, (), (k : Int), (), ()), at', List.replicate (s.length + 1) false, ())) ?_ _ (s.length + 1) _ ?_ ?_))).trans ?_
       ·rintro n st k1 ⟨i, rfl, hi, rfl⟩ hk1
        dsimp only
        by_cases hlt : i ≤ s.length
        ·rw [decide_eq_true (show (i : Int) ≤ (s.length : Int) by omega), cond_true, if_pos (by simp only [List.length_cons, List.length_replicate, List.length_nil]; omega)]
         rw [hk1 (s.length + 1 - (i + 1)) _ (by omega) ⟨i + 1, by rw [wr _ (by omega), List.replicate_succ']; rfl, by omega, rfl⟩]
        ·have : i = s.length + 1 := by omega
         rw [decide_eq_false (by omega), cond_false, this]
       ·exact ⟨0, rfl, by omega, rfl⟩
       ·simp only [List.length_map, hat]; omega
       ·simp only [Option.bind_some]
        have hkc : (l[k]).wf := hwf _ (List.getElem_mem hlt)
        have g1 : (0 : Int) ≤ (k : Int) ∧ (k : Int) < (((l.map Pc.S).length : Nat) : Int) := by rw [List.length_map]; omega
        rw [if_pos g1]
        simp only [Int.toNat_natCast, mapS_getD l k hlt, manyS]
        generalize hc : l[k] = c at hkc ⊢
        refine (congrArg (fun o => Option.bind o _) ((loopC_inv _
         (fun n st => ∃ (i : Nat) (next : List Bool), st = ((s, l.map Pc.S, (), (k : Int), (), c.many, (i : Int), ()), at', next, ()) ∧ i ≤ s.length + 1 ∧ RowInv s.length c s at' i next ∧ n = s.length + 1 - i)
         (fun st => some ((s, l.map Pc.S, (k : Int), (), ()), rowOf (nx c s at') s.length, ())) ?_ _ (s.length + 1) _ ?_ ?_))).trans ?_
        ·rintro n st k1 ⟨i, next, rfl, hi, hinv, rfl⟩ hk1
         have w1 : IntKind.wrap IntKind.i64 ((i : Int) + 1) = ((i + 1 : Nat) : Int) := by rw [wr _ (by omega)]; omega
         dsimp only
         by_cases hle : i ≤ s.length
         ·have hst := hk1 (s.length + 1 - (i + 1)) ((s, l.map Pc.S, (), (k : Int), (), c.many, ((i + 1 : Nat) : Int), ()), at', nxt2 s.length c s at' next i, ()) (by omega) ⟨i + 1, _, rfl, by omega, hinv.step hle, rfl⟩
          rw [decide_eq_true (show (i : Int) ≤ (s.length : Int) by omega), cond_true]
          have ga : (0 : Int) ≤ (i : Int) ∧ (i : Int) < (at'.length : Int) := by omega
          have ga' : i < at'.length := by omega
          have hn1 : next.length = s.length + 1 := hinv.1
          have gn : (0 : Int) ≤ (i : Int) ∧ (i : Int) < (next.length : Int) := by omega
          have gn' : i < next.length := by omega
          have hc' : ∀ d, (l.map Pc.S).getD k d = c.S := fun d => by rw [mapS_getD l k hlt, hc]
          simp only [Int.toNat_natCast, if_pos ga, if_pos ga', if_pos gn, if_pos gn', w1, hc']
          have b12 : (bif c.many then some ((s, l.map Pc.S, (), (k : Int), (), c.many, (i : Int), at'.getD i false, ()), at', next, ()) else some ((s, l.map Pc.S, (), (k : Int), (), c.many, (i : Int), false, ()), at', next, ()) : Option ((List UInt8 × List (Int × Int × Bool × List Bool) × Unit × Int × Unit × Bool × Int × Bool × Unit) × List Bool × List Bool × Unit))
              = some ((s, l.map Pc.S, (), (k : Int), (), c.many, (i : Int), c.many && at'.getD i false, ()), at', next, ()) := by cases c.many <;> rfl
          rw [b12, Option.bind_some]
          simp only [Int.toNat_natCast, if_pos gn, if_pos gn']
          have b13 : (bif c.many && at'.getD i false then some ((s, l.map Pc.S, (), (k : Int), (), c.many, (i : Int), ()), at', next.set i true, ()) else some ((s, l.map Pc.S, (), (k : Int), (), c.many, (i : Int), ()), at', next, ()) : Option ((List UInt8 × List (Int × Int × Bool × List Bool) × Unit × Int × Unit × Bool × Int × Unit) × List Bool × List Bool × Unit))
              = some ((s, l.map Pc.S, (), (k : Int), (), c.many, (i : Int), ()), at', nxt1 c at' next i, ()) := by unfold nxt1; cases (c.many && at'.getD i false) <;> rfl
          rw [b13, Option.bind_some]
          have hn2 : (nxt1 c at' next i).length = s.length + 1 := by rw [nxt1_len, hn1]
          have hx := nxt1_at hinv hle
          have gm : (0 : Int) ≤ (i : Int) ∧ (i : Int) < ((nxt1 c at' next i).length : Int) := by omega
          have gm' : i < (nxt1 c at' next i).length := by omega
          have hone : m_spec_l08One (c.S.1, c.S.2.1, c.S.2.2.1, c.S.2.2.2) (((s.getD i 0).toNat : Nat) : Int) = some (c.takes (by8 s i), ()) := spec_one_eq c hkc (by8 s i) (by8_lt _ _)
          simp only [Int.toNat_natCast, if_pos gm, if_pos gm', if_pos ga, if_pos ga', hc', hone, Option.bind_some, hx, if_pos g1]
          have b14 : (bif decide ((i : Int) < (s.length : Int)) then
                (if (0 : Int) ≤ (i : Int) ∧ (i : Int) < (s.length : Int) then
                 (bif c.takes (by8 s i) then
                  (bif at'.getD i false then some ((s, l.map Pc.S, (), (k : Int), (), c.many, (i : Int), true, ()), at', nxt1 c at' next i, ())
                   else (bif c.many then some ((s, l.map Pc.S, (), (k : Int), (), c.many, (i : Int), nx c s at' i, ()), at', nxt1 c at' next i, ())
                    else some ((s, l.map Pc.S, (), (k : Int), (), c.many, (i : Int), false, ()), at', nxt1 c at' next i, ())))
                  else some ((s, l.map Pc.S, (), (k : Int), (), c.many, (i : Int), false, ()), at', nxt1 c at' next i, ()))
                 else none)
               else some ((s, l.map Pc.S, (), (k : Int), (), c.many, (i : Int), false, ()), at', nxt1 c at' next i, ()) : Option ((List UInt8 × List (Int × Int × Bool × List Bool) × Unit × Int × Unit × Bool × Int × Bool × Unit) × List Bool × List Bool × Unit))
              = some ((s, l.map Pc.S, (), (k : Int), (), c.many, (i : Int), decide (i < s.length) && pre c s at' (i + 1), ()), at', nxt1 c at' next i, ()) := by
           by_cases hlt2 : i < s.length
           ·rw [decide_eq_true (show (i : Int) < (s.length : Int) by omega), cond_true, if_pos (by omega), decide_eq_true hlt2, Bool.true_and, pre]
            cases c.takes (by8 s i) <;> cases at'.getD i false <;> cases c.many <;> rfl
           ·rw [decide_eq_false (show ¬(i : Int) < (s.length : Int) by omega), decide_eq_false hlt2]; rfl
          rw [b14, Option.bind_some]
          simp only [w1, Int.toNat_natCast]
          have b15 : (bif decide (i < s.length) && pre c s at' (i + 1) then
                (if (0 : Int) ≤ ((i + 1 : Nat) : Int) ∧ ((i + 1 : Nat) : Int) < ((nxt1 c at' next i).length : Int) then
                 (if i + 1 < (nxt1 c at' next i).length then some ((s, l.map Pc.S, (), (k : Int), (), c.many, (i : Int), ()), at', (nxt1 c at' next i).set (i + 1) true, ()) else none) else none)
               else some ((s, l.map Pc.S, (), (k : Int), (), c.many, (i : Int), ()), at', nxt1 c at' next i, ()) : Option ((List UInt8 × List (Int × Int × Bool × List Bool) × Unit × Int × Unit × Bool × Int × Unit) × List Bool × List Bool × Unit))
              = some ((s, l.map Pc.S, (), (k : Int), (), c.many, (i : Int), ()), at', nxt2 s.length c s at' next i, ()) := by
           unfold nxt2
           by_cases hlt2 : i < s.length
           ·rw [if_pos (by omega), if_pos (by omega)]; cases (decide (i < s.length) && pre c s at' (i + 1)) <;> rfl
           ·rw [decide_eq_false hlt2]; rfl
          rw [b15, Option.bind_some]
          simp only [w1]
          exact hst
         ·have : i = s.length + 1 := by omega
          rw [decide_eq_false (by omega), cond_false]
          have : next = rowOf (nx c s at') s.length := eq_rowOf hinv.1 (fun j hj => by rw [hinv.2 j hj, if_pos (by omega)])
          rw [this]
        ·exact ⟨0, _, rfl, by omega, ⟨by simp, fun j hj => by rw [getD_rep, if_neg (by omega)]; split <;> rfl⟩, rfl⟩
        ·simp only [List.length_map, hat]; omega
        ·simp only [Option.bind_some]
         have w1 : IntKind.wrap IntKind.i64 ((k : Int) + 1) = ((k + 1 : Nat) : Int) := by rw [wr _ (by omega)]; omega
         rw [w1, hk (l.length - (k + 1)) _ (by omega) ⟨k + 1, _, rfl, rowOf_len _ _, by omega, rfl⟩]
         simp only [Int.toNat_natCast]
         rw [List.drop_eq_getElem_cons hlt, hc]
         rfl
      ·have : k = l.length := by omega
       rw [decide_eq_false (by rw [List.length_map]; omega), cond_false, this]
       simp only [Int.toNat_natCast, List.drop_length]; rfl
     ·exact ⟨0, _, rfl, by simp [row0], by omega, rfl⟩
     ·simp only [List.length_map]; omega
     ·simp only [Option.bind_some, Int.toNat_zero, List.drop_zero]
      have hlen : (rows s l (row0 s.length)).length = s.length + 1 := by
       unfold rows
       have : ∀ (l : List Pc) (a : List Bool), a.length = s.length + 1 → (l.foldl (fun a c => rowOf (nx c s a) s.length) a).length = s.length + 1 := by
        intro l
        induction l with
        | nil => intro a h; exact h
        | cons c l ih => intro a h; exact ih _ (rowOf_len _ _)
       exact this _ _ (by simp [row0])
      rw [if_pos (by omega), Int.toNat_natCast, if_pos (by omega)]
      rfl
   ·rw [decide_eq_true (show (s.length : Int) > 200 by omega), decide_eq_false hs]; rfl
 ·rw [if_neg hp, if_neg hp]; rfl
abbrev OptsT := Bool × (Bool × (Bool × (Bool × (Bool × (Bool × (Bool × (Bool × (Bool × (Bool × (Bool × (Bool × (Bool × (Int × (Bool × (List UInt8 × List UInt8)))))))))))))))
def sufOk (s : List UInt8) : Bool := s == [] || (decide (s.length ≤ 8) && nameOk ([120] ++ s))
theorem spec_suffix (s : List UInt8) (hs : s.length ≤ 1048576) : m_spec_l11Suffix s = some (sufOk s, ()) := by
 unfold m_spec_l11Suffix sufOk
 simp only [nilOf]
 cases s == [] with
 | true => rfl
 | false =>
  simp only [cond_false, Bool.false_or]
  by_cases h : s.length ≤ 8
  ·rw [decide_eq_true (by omega), decide_eq_true h, cond_true, if_pos (by show 1 + s.length < 9223372036854775808; omega), spec_nameOk _ (by simp; omega)]
   simp
  ·rw [decide_eq_false (by omega), decide_eq_false h]; rfl
theorem impl_suffix (s : List UInt8) (hs : s.length ≤ 1048576) (hn : (s == []) = false) : m_impl_isSuffix s = some (sufOk s, ()) := by
 unfold m_impl_isSuffix sufOk
 rw [within_eq, Option.bind_some, hn, Bool.false_or]
 have h0 : 1 ≤ s.length := by
  rcases s with _ | ⟨a, b⟩
  ·simp at hn
  ·simp
 dsimp only
 rw [decide_eq_true (by omega), Bool.true_and]
 by_cases h : s.length ≤ 8
 ·rw [decide_eq_true (by omega), decide_eq_true h, cond_true, if_pos (by show 1 + s.length < 9223372036854775808; omega), impl_nameOk _ (by simp; omega)]
  simp
 ·rw [decide_eq_false (by omega), decide_eq_false h]; rfl
def optsOk : OptsT → Bool
 | (r, _, _, _, _, ck, so, _, _, _, _, _, _, del, bk, suf, dir) =>
  (decide (del ≥ 0) && decide (del ≤ 3)) && (!(!(del == 0) && !r) && (!(ck && so) && (cond bk (sufOk suf && ((dir == [] || pathOk dir) && !(suf == [] && dir == []))) (suf == [] && dir == []))))
theorem app_nil (a b : List UInt8) : (a ++ b == []) = (a == [] && b == []) := by cases a <;> cases b <;> rfl
theorem spec_optsOk (o : OptsT) (h1 : o.2.2.2.2.2.2.2.2.2.2.2.2.2.2.2.1.length ≤ 1048576) (h2 : o.2.2.2.2.2.2.2.2.2.2.2.2.2.2.2.2.length ≤ 1048576) : m_spec_OptsOk o = some (optsOk o, ()) := by
 obtain ⟨r, l, p, t, hd, ck, so, dry, wh, up, ex, ig, fz, del, bk, suf, dir⟩ := o
 dsimp only at h1 h2
 unfold m_spec_OptsOk optsOk
 simp only [in_eq, Option.bind_some, bne, nilOf]
 refine bind_eq (x := (((), !((decide (del ≥ 0) && decide (del ≤ 3)) && (!(!(del == 0) && !r) && !(ck && so))), ()), (r, l, p, t, hd, ck, so, dry, wh, up, ex, ig, fz, del, bk, suf, dir, ()), ())) ?_ ?_
 ·cases (decide (del ≥ 0) && decide (del ≤ 3)) <;> cases del == 0 <;> cases r <;> cases ck <;> cases so <;> rfl
 ·dsimp only
  have e : ((decide (del ≥ 0) && decide (del ≤ 3)) && (!(!(del == 0) && !r) && (!(ck && so) && (cond bk (sufOk suf && ((dir == [] || pathOk dir) && !(suf == [] && dir == []))) (suf == [] && dir == []))))) = (((decide (del ≥ 0) && decide (del ≤ 3)) && (!(!(del == 0) && !r) && !(ck && so))) && (cond bk (sufOk suf && ((dir == [] || pathOk dir) && !(suf == [] && dir == []))) (suf == [] && dir == []))) := by
   simp only [Bool.and_assoc]
  rw [e]
  cases ((decide (del ≥ 0) && decide (del ≤ 3)) && (!(!(del == 0) && !r) && !(ck && so))) with
  | false => rfl
  | true =>
   simp only [Bool.not_true, cond_false, Bool.true_and]
   cases bk with
   | false =>
    simp only [Bool.not_false, cond_true, cond_false]
    cases suf == [] <;> rfl
   | true =>
    simp only [Bool.not_true, cond_true, cond_false]
    rw [spec_suffix _ h1, Option.bind_some]
    dsimp only
    cases sufOk suf with
    | false => rfl
    | true =>
     have hl : suf.length + dir.length < 2 ^ 63 := by show _ < 9223372036854775808; omega
     simp only [cond_true, Bool.true_and, if_pos hl, app_nil, spec_pathOk, Option.bind_some]
     cases dir == [] <;> cases pathOk dir <;> rfl
theorem impl_optsOk (o : OptsT) (h1 : o.2.2.2.2.2.2.2.2.2.2.2.2.2.2.2.1.length ≤ 1048576) (h2 : o.2.2.2.2.2.2.2.2.2.2.2.2.2.2.2.2.length ≤ 1048576) : m_impl_OptsOk o = some (optsOk o, ()) := by
 obtain ⟨r, l, p, t, hd, ck, so, dry, wh, up, ex, ig, fz, del, bk, suf, dir⟩ := o
 dsimp only at h1 h2
 unfold m_impl_OptsOk optsOk
 simp only [within_eq, Option.bind_some, bne, nilOf]
 refine bind_eq (x := (((), !((decide (del ≥ 0) && decide (del ≤ 3)) && (!(!(del == 0) && !r) && !(ck && so))), ()), (r, l, p, t, hd, ck, so, dry, wh, up, ex, ig, fz, del, bk, suf, dir, ()), ())) ?_ ?_
 ·cases (decide (del ≥ 0) && decide (del ≤ 3)) <;> cases del == 0 <;> cases r <;> cases ck <;> cases so <;> rfl
 ·dsimp only
  have e : ((decide (del ≥ 0) && decide (del ≤ 3)) && (!(!(del == 0) && !r) && (!(ck && so) && (cond bk (sufOk suf && ((dir == [] || pathOk dir) && !(suf == [] && dir == []))) (suf == [] && dir == []))))) = (((decide (del ≥ 0) && decide (del ≤ 3)) && (!(!(del == 0) && !r) && !(ck && so))) && (cond bk (sufOk suf && ((dir == [] || pathOk dir) && !(suf == [] && dir == []))) (suf == [] && dir == []))) := by
   simp only [Bool.and_assoc]
  rw [e]
  cases ((decide (del ≥ 0) && decide (del ≤ 3)) && (!(!(del == 0) && !r) && !(ck && so))) with
  | false => rfl
  | true =>
   simp only [Bool.not_true, cond_false, Bool.true_and]
   cases bk with
   | false =>
    simp only [Bool.not_false, cond_true, cond_false]
    cases suf == [] <;> rfl
   | true =>
    simp only [Bool.not_true, cond_true, cond_false, impl_pathOk, Option.bind_some]
    cases hsn : suf == [] with
    | true =>
     have : sufOk suf = true := by unfold sufOk; rw [hsn]; rfl
     rw [this]
     cases dir == [] <;> cases pathOk dir <;> rfl
    | false =>
     rw [impl_suffix _ h1 hsn]
     simp only [Option.bind_some, cond_false]
     cases sufOk suf <;> cases dir == [] <;> cases pathOk dir <;> rfl
theorem spec_rulesOk (l : List RuleT) (hn : ∀ r ∈ l, noNl r) : m_spec_l09RulesOk l = some (rulesOk l, ()) := by
 unfold m_spec_l09RulesOk rulesOk
 by_cases hl : l.length ≤ 100
 ·rw [decide_eq_false (by omega), cond_false, decide_eq_true hl, Bool.true_and]
  refine joinC_of (allLoop _ (fun i => ((l, (i : Int), ()), ())) l.length (fun i => ruleOk (l.getD i dR)) (.inl ((), ())) (.inr (false, ())) ?_ ?_ _ (by omega)) ?_
  ·intro i k hi
   dsimp only
   have hm : l.getD i dR ∈ l := getD_mem dR hi
   have e : m_spec_RuleOk (l.getD i dR) = some (ruleOk (l.getD i dR), ()) := spec_ruleOk _ (hn _ hm)
   rw [decide_eq_true (by omega), cond_true, if_pos (by omega), Int.toNat_natCast]
   show Option.bind (m_spec_RuleOk (l.getD i dR)) _ = _
   rw [e, Option.bind_some]
   cases ruleOk (l.getD i dR) with
   | true => simp only [Bool.not_true, cond_false, cond_true]; rw [wr1 i (by omega)]
   | false => rfl
  ·intro k; dsimp only; rw [decide_eq_false (by omega)]; rfl
  ·have := range_all l dR ruleOk
   rw [this]
   cases l.all ruleOk <;> rfl
 ·rw [decide_eq_true (by omega), decide_eq_false hl]; rfl
theorem spec_means (r : RuleT) (hr : ruleOk r = true) (hn : noNl r) (path : List UInt8) (hp : pathOk path = true) (dir : Bool) : m_spec_Means r path dir = some (means r path dir, ()) := by
 have hsr := spec_ruleOk r hn
 obtain ⟨kd, rt, di, p⟩ := r
 have hl := pathOk_len hp
 unfold m_spec_Means means
 dsimp only
 refine bind_eq (x := ((path, (), (kd == 4) || (di && !dir), ()), (kd, rt, di, p, ()), ())) ?_ ?_
 ·rw [hsr, Option.bind_some, hr]
  simp only [Bool.not_true, cond_false]
  cases kd == 4 with
  | true => rfl
  | false =>
   rw [cond_false, spec_pathOk, Option.bind_some, hp]
   cases di <;> rfl
 ·dsimp only
  cases kd == 4 with
  | true => rfl
  | false =>
   simp only [Bool.false_or, Bool.not_false, Bool.true_and]
   cases (di && !dir) with
   | true => rfl
   | false =>
    simp only [cond_false, Bool.not_false, Bool.true_and]
    rw [spec_match_eq, Option.bind_some]
    cases matchB p path with
    | true => rfl
    | false =>
     simp only [cond_false, Bool.false_or]
     cases rt with
     | true =>
      refine joinC_of (x := some (.inl ((), ()))) ?_ rfl
      obtain ⟨f, hf⟩ : ∃ f, path.length + Int.toNat (0 : Int) + Int.toNat kd + p.length + 300 = f + 1 := ⟨path.length + Int.toNat (0 : Int) + Int.toNat kd + p.length + 299, by omega⟩
      rw [hf]
      show Option.bind _ _ = _
      dsimp only
      cases decide ((0 : Int) < (path.length : Int)) <;> rfl
     | false =>
      refine joinC_of (allLoop _ (fun i => ((path, (), (i : Int), ()), (kd, false, di, p, ()), ())) path.length (fun i => !(path.getD i 0 == 47 && matchB p (path.drop (i + 1)))) (.inl ((), ())) (.inr (true, ())) ?_ ?_ _ (by omega)) ?_
      ·intro i k hi
       dsimp only
       rw [decide_eq_true (by omega), cond_true, Option.bind_some]
       dsimp only
       simp only [Bool.not_false, cond_true]
       rw [if_pos (by omega), Int.toNat_natCast]
       have e47 : (((path.getD i 0).toNat : Int) == 47) = (path.getD i 0 == 47) := eqB _ 47 (by omega)
       refine bind_eq (x := ((path, (), (i : Int), path.getD i 0 == 47 && matchB p (path.drop (i + 1)), ()), (kd, false, di, p, ()), ())) ?_ ?_
       ·rw [e47]
        cases h47 : path.getD i 0 == 47 with
        | false => rfl
        | true =>
         simp only [cond_true, Bool.true_and]
         rw [wr1 i (by omega), if_pos (by omega)]
         rw [show Int.toNat ((i + 1 : Nat) : Int) = i + 1 by omega, show Int.toNat (path.length : Int) = path.length by omega, List.take_length, spec_match_eq]
         rfl
       ·dsimp only
        cases path.getD i 0 == 47 && matchB p (path.drop (i + 1)) with
        | true => rfl
        | false => simp only [cond_false, Bool.not_false, cond_true]; rw [wr1 i (by omega)]
      ·intro k; dsimp only; rw [decide_eq_false (by omega)]; rfl
      ·rw [not_any_all, tailsAny_range (matchB p) path]
       cases tailsAny (matchB p) path <;> rfl
theorem spec_first (l : List RuleT) (hl : l.length ≤ 102) (ho : ∀ r ∈ l, ruleOk r = true) (hn : ∀ r ∈ l, noNl r) (yes no : Int) (path : List UInt8) (hp : pathOk path = true) (dir : Bool) :
    m_spec_l09First l yes no path dir = some (first l yes no path dir, ()) := by
 unfold m_spec_l09First first
 refine joinC_of (findLoop _ (fun i => ((l, yes, no, path, dir, (i : Int), ()), ())) l.length (fun i => (saysG yes no path dir (l.getD i dR)).map (fun k => .inr (k, ()))) (.inl ((), ())) ?_ ?_ _ (by omega)) ?_
 ·intro i k hi
  dsimp only
  have hx : (0 : Int) ≤ (i : Int) ∧ (i : Int) < (l.length : Int) := by omega
  rw [decide_eq_true (by omega), cond_true, if_pos hx, Int.toNat_natCast, if_pos hx, if_pos hx]
  have hmem : l.getD i dR ∈ l := getD_mem dR hi
  have hm : m_spec_Means (l.getD i dR) path dir = some (means (l.getD i dR) path dir, ()) := spec_means _ (ho _ hmem) (hn _ hmem) path hp dir
  refine bind_eq (x := ((l, yes, no, path, dir, (i : Int), ((l.getD i dR).1 == yes || (l.getD i dR).1 == no) && means (l.getD i dR) path dir, ()), ())) ?_ ?_
  ·show (bif (l.getD i dR).1 == yes then Option.bind (m_spec_Means (l.getD i dR) path dir) _ else (bif (l.getD i dR).1 == no then Option.bind (m_spec_Means (l.getD i dR) path dir) _ else _)) = _
   rw [hm]
   cases (l.getD i dR).1 == yes <;> cases (l.getD i dR).1 == no <;> rfl
  ·dsimp only
   unfold saysG
   cases ((l.getD i dR).1 == yes || (l.getD i dR).1 == no) && means (l.getD i dR) path dir with
   | true => simp only [cond_true]; rw [if_pos hx]; rfl
   | false => simp only [cond_false]; rw [wr1 i (by omega)]; rfl
 ·intro k; dsimp only; rw [decide_eq_false (by omega)]; rfl
 ·rw [range_find l dR (fun r => (saysG yes no path dir r).map (fun k => (.inr (k, ()) : Sum (Unit × Unit) (Int × Unit))))]
  have : ∀ l : List RuleT, l.findSome? (fun r => (saysG yes no path dir r).map (fun k => (.inr (k, ()) : Sum (Unit × Unit) (Int × Unit)))) = (l.findSome? (saysG yes no path dir)).map (fun k => .inr (k, ())) := by
   intro l
   induction l with
   | nil => rfl
   | cons a r ih =>
    rw [List.findSome?_cons, List.findSome?_cons]
    cases saysG yes no path dir a with
    | some v => rfl
    | none => exact ih
  rw [this]
  cases l.findSome? (saysG yes no path dir) <;> rfl
theorem spec_hidden (l : List RuleT) (ho : rulesOk l = true) (hn : ∀ r ∈ l, noNl r) (path : List UInt8) (hp : pathOk path = true) (dir : Bool) : m_spec_Hidden l path dir = some (hidden l path dir, ()) := by
 have hr := spec_rulesOk l hn
 have ho' := ho
 unfold rulesOk at ho'
 rw [Bool.and_eq_true, decide_eq_true_eq, List.all_eq_true] at ho'
 have hl := pathOk_len hp
 unfold m_spec_Hidden hidden
 refine bind_eq (x := ((l, path, dir, false, ()), ())) ?_ ?_
 ·rw [hr, Option.bind_some, ho]
  simp only [Bool.not_true, cond_false]
  rw [spec_pathOk, Option.bind_some, hp]; rfl
 ·dsimp only
  rw [cond_false]
  refine joinC_of (allLoop _ (fun i => ((l, path, dir, (i : Int), ()), ())) path.length (fun i => !under l path i) (.inl ((l, path, dir, ()), ())) (.inr (true, ())) ?_ ?_ _ (by omega)) ?_
  ·intro i k hi
   dsimp only
   rw [decide_eq_true (by omega), cond_true, if_pos (by omega), Int.toNat_natCast]
   have e47 : (((path.getD i 0).toNat : Int) == 47) = (path.getD i 0 == 47) := eqB _ 47 (by omega)
   refine bind_eq (x := ((l, path, dir, (i : Int), under l path i, ()), ())) ?_ ?_
   ·rw [e47]
    unfold under
    cases h47 : path.getD i 0 == 47 with
    | false => rfl
    | true =>
     simp only [cond_true, Bool.true_and]
     rw [if_pos (by omega)]
     simp only [Int.toNat_zero, List.drop_zero]
     rw [spec_first l (by omega) ho'.2 hn 0 1 _ (pathOk_take hp hi (by simpa using h47)) true]
     rfl
   ·dsimp only
    cases under l path i with
    | true => rfl
    | false => simp only [cond_false, Bool.not_false, cond_true]; rw [wr1 i (by omega)]
  ·intro k; dsimp only; rw [decide_eq_false (by omega)]; rfl
  ·rw [not_any_all]
   cases (List.range path.length).any (under l path) with
   | true => rfl
   | false =>
    simp only [Bool.not_false, cond_true, Bool.false_or]
    show Option.bind (m_spec_l09First l 0 1 path dir) _ = _
    rw [spec_first l (by omega) ho'.2 hn 0 1 path hp dir]
    rfl
/-- A path that has a slash stands in a directory. -/
theorem parent_slash {p : List UInt8} (hp : pathOk p = true) : (!(parent p == [])) = !(p.all (fun b => !(b == 47))) := by
 rw [Bool.eq_iff_iff]
 constructor
 ·intro h
  have h0 : parent p ≠ [] := by simpa using h
  obtain ⟨t, ht⟩ := (parent_app hp).resolve_left h0
  rw [Bool.not_eq_true', ← Bool.not_eq_true, List.all_eq_true]
  intro ha
  have := ha 47 (by rw [ht]; simp)
  simp at this
 ·intro h
  have h1 : 47 ∈ p := by
   rw [Bool.not_eq_true', ← Bool.not_eq_true, List.all_eq_true] at h
   exact Classical.byContradiction fun hc => h fun b hb => by
    rw [Bool.not_eq_true', beq_eq_false_iff_ne]; rintro rfl; exact hc hb
  have h2 : 2 ≤ (split p).length := by
   rw [count_slash]
   have := List.count_pos_iff.2 h1
   omega
  rw [Bool.not_eq_true', beq_eq_false_iff_ne]
  intro h0
  have hpp := hp
  unfold pathOk at hpp
  simp only [Bool.and_eq_true, List.all_eq_true] at hpp
  unfold parent at h0
  rw [names_of hp] at h0
  rcases hd : (split p).dropLast with _ | ⟨a, r⟩
  ·have := congrArg List.length hd
   rw [List.length_dropLast, List.length_nil] at this
   omega
  ·have ha : a ∈ split p := (List.dropLast_sublist _).subset (by rw [hd]; exact List.mem_cons_self ..)
   have hna := hpp.2.2 a ha
   rw [hd] at h0
   have : a = [] := by
    cases r with
    | nil => exact h0
    | cons b r =>
     have : joinS (a :: b :: r) = a ++ 47 :: joinS (b :: r) := rfl
     rw [this] at h0
     simp at h0
   rw [this] at hna
   exact absurd hna (by decide)
def hasSlash (p : List UInt8) : Bool := !(p.all (fun b => !(b == 47)))
def skipV (n : NodeT) (o : OptsT) (l : List RuleT) : Int :=
 cond (hidden l n.1 (n.2.1 == 0)) 1 (cond (!o.1 && (n.2.1 == 0 || hasSlash n.1)) 2 (cond (n.2.1 == 2 && !o.2.1) 3 0))
theorem impl_skips (n : NodeT) (o : OptsT) (l : List RuleT) (hl : l.length ≤ 102) (hp : pathOk n.1 = true) : m_impl_skips n o l = some (skipV n o l, ()) := by
 have hlen := pathOk_len hp
 unfold m_impl_skips skipV
 rw [impl_hidden l hl n.1 (by omega), Option.bind_some]
 dsimp only
 cases hidden l n.1 (n.2.1 == 0) with
 | true => rfl
 | false =>
  simp only [cond_false]
  have hc : m_strings_Contains_3 n.1 = some (hasSlash n.1, ()) := by
   unfold m_strings_Contains_3 hasSlash
   rw [index_eq, Option.bind_some, index_neg]
  cases ho : o.1 with
  | true =>
   simp only [Bool.not_true, cond_false, Bool.false_and, Option.bind_some]
   cases n.2.1 == 2 with
   | true => cases o.2.1 <;> rfl
   | false => rfl
  | false =>
   simp only [Bool.not_false, cond_true, Bool.true_and]
   cases n.2.1 == 0 with
   | true => rfl
   | false =>
    simp only [cond_false, Bool.false_or]
    rw [hc, Option.bind_some, Option.bind_some]
    cases hasSlash n.1 with
    | true => rfl
    | false =>
     simp only [cond_false]
     cases n.2.1 == 2 with
     | true => cases o.2.1 <;> rfl
     | false => rfl
theorem spec_skip (n : NodeT) (o : OptsT) (l : List RuleT) (ho : rulesOk l = true) (hn : ∀ r ∈ l, noNl r) (hp : pathOk n.1 = true) : m_spec_l12Skip n o l = some (skipV n o l, ()) := by
 unfold m_spec_l12Skip skipV
 rw [spec_hidden l ho hn n.1 hp, Option.bind_some]
 dsimp only
 cases hidden l n.1 (n.2.1 == 0) with
 | true => rfl
 | false =>
  simp only [cond_false]
  cases ho : o.1 with
  | true =>
   simp only [Bool.not_true, cond_false, Bool.false_and, Option.bind_some]
   cases o.2.1 with
   | true => cases n.2.1 == 2 <;> rfl
   | false => cases n.2.1 == 2 <;> rfl
  | false =>
   simp only [Bool.not_false, cond_true, Bool.true_and]
   cases n.2.1 == 0 with
   | true => rfl
   | false =>
    simp only [cond_false, Bool.false_or]
    rw [spec_parent, Option.bind_some, Option.bind_some]
    dsimp only
    have e : (!(parent n.1 == nilOf UInt8)) = hasSlash n.1 := parent_slash hp
    rw [e]
    cases hasSlash n.1 with
    | true => rfl
    | false =>
     simp only [cond_false]
     cases o.2.1 with
     | true => cases n.2.1 == 2 <;> rfl
     | false => cases n.2.1 == 2 <;> rfl
theorem spec_under {p q : List UInt8} (hp : pathOk p = true) (hq : pathOk q = true) : m_spec_Under p q = some (underB p q, ()) := by
 have hpe : (p == []) = false := by
  cases p with
  | nil => exact absurd hp (by decide)
  | cons => rfl
 have hnp := names_of hp
 have hnq := names_of hq
 have h1 : 0 < (split p).length := List.length_pos_iff.2 (split_ne p)
 have h2 : 0 < (split q).length := List.length_pos_iff.2 (split_ne q)
 have hlp := names_len p
 have hlq := names_len q
 rw [hnp] at hlp
 rw [hnq] at hlq
 unfold m_spec_Under
 rw [spec_names', Option.bind_some, spec_names', Option.bind_some]
 dsimp only
 rw [hnp, hnq]
 refine bind_eq (x := ((split p, split q, decide (((split p).length : Int) > ((split q).length : Int)), ()), ())) ?_ ?_
 ·simp only [nilOf]
  rw [hpe, Bool.not_false, cond_true, show (((split p).length : Int) == 0) = false by rw [beq_eq_false_iff_ne]; omega, cond_false, show (((split q).length : Int) == 0) = false by rw [beq_eq_false_iff_ne]; omega, cond_false]
 ·dsimp only
  have hpre : underB p q = decide ((split p).length ≤ (split q).length ∧ ∀ i, i < (split p).length → (split q).getD i (nilOf UInt8) = (split p).getD i (nilOf UInt8)) := by
   rw [Bool.eq_iff_iff, pre_iff, decide_eq_true_eq, List.isPrefixOf_iff_prefix, List.prefix_iff_getElem?]
   constructor
   ·intro h
    have hl : (split p).length ≤ (split q).length := by
     rcases Nat.lt_or_ge (split q).length (split p).length with h' | h'
     ·have := h (split q).length h'
      rw [List.getElem?_eq_none (Nat.le_refl _)] at this; cases this
     ·exact h'
    refine ⟨hl, fun i hi => ?_⟩
    rw [List.getD_eq_getElem?_getD, List.getD_eq_getElem?_getD, h i hi, List.getElem?_eq_getElem hi]
   ·rintro ⟨hl, h⟩ i hi
    have := h i hi
    rw [List.getD_eq_getElem?_getD, List.getD_eq_getElem?_getD, List.getElem?_eq_getElem hi, List.getElem?_eq_getElem (by omega)] at this
    rw [List.getElem?_eq_getElem (by omega)]
    simpa using this
  by_cases hgt : (split q).length < (split p).length
  ·rw [decide_eq_true (show ((split p).length : Int) > ((split q).length : Int) by omega), cond_true, hpre, decide_eq_false (by rintro ⟨h, _⟩; omega)]
  ·rw [decide_eq_false (show ¬((split p).length : Int) > ((split q).length : Int) by omega), cond_false]
   refine joinC_of (allLoop _ (fun i => ((split p, split q, (i : Int), ()), ())) (split p).length (fun i => (split q).getD i (nilOf UInt8) == (split p).getD i (nilOf UInt8)) (.inl ((), ())) (.inr (false, ())) ?_ ?_ _ (by omega)) ?_
   ·intro i k hi
    dsimp only
    rw [decide_eq_true (by omega), cond_true, if_pos (by omega), if_pos (by omega), Int.toNat_natCast, wr1 i (by omega)]
    rw [show ((split p).getD i (nilOf UInt8) == (split q).getD i (nilOf UInt8)) = ((split q).getD i (nilOf UInt8) == (split p).getD i (nilOf UInt8)) from BEq.comm]
    cases (split q).getD i (nilOf UInt8) == (split p).getD i (nilOf UInt8) <;> rfl
   ·intro k; dsimp only; rw [decide_eq_false (by omega)]; rfl
   ·have : underB p q = (List.range (split p).length).all (fun i => (split q).getD i (nilOf UInt8) == (split p).getD i (nilOf UInt8)) := by
     rw [hpre, Bool.eq_iff_iff, decide_eq_true_eq, all_iff]
     constructor
     ·rintro ⟨_, h⟩ i hi; rw [beq_iff_eq]; exact h i hi
     ·intro h; exact ⟨by omega, fun i hi => by simpa using h i hi⟩
    rw [this]
    cases (List.range (split p).length).all (fun i => (split q).getD i (nilOf UInt8) == (split p).getD i (nilOf UInt8)) <;> rfl
theorem spec_without (l : List NodeT) (hl : l.length ≤ 1048576) (ha : AllP l) (p : List UInt8) (hp : pathOk p = true) : m_spec_l10Without l p = some (loneV (l.filter (keepB p)), ()) := by
 unfold m_spec_l10Without
 have hfl : ∀ i, ((l.take i).filter (keepB p)).length ≤ l.length := fun i => Nat.le_trans (List.length_filter_le _ _) (by rw [List.length_take]; omega)
 refine bind_eq (loopC_inv _ (fun n t => ∃ i : Nat, t = ((l, p, (), (i : Int), ()), (l.take i).filter (keepB p), ()) ∧ i ≤ l.length ∧ n = l.length - i)
  (fun _ => some (((), ()), l.filter (keepB p), ())) ?_ _ l.length _ ⟨0, rfl, by omega, rfl⟩ (by omega)) ?_
 ·rintro n t k ⟨i, rfl, hi, rfl⟩ hk
  dsimp only
  by_cases hlt : i < l.length
  ·rw [decide_eq_true (by omega), cond_true, if_pos (by omega), Int.toNat_natCast]
   refine bind_eq (show m_spec_Under p (pth l i) = _ from spec_under hp (ha i hlt)) ?_
   dsimp only
   refine bind_eq (x := ((l, p, (), (i : Int), ()), (l.take (i + 1)).filter (keepB p), ())) ?_ ?_
   ·have hf := hfl i
    rw [take_succ_nd l hlt, List.filter_append]
    cases hu : underB p (pth l i) with
    | false =>
     have hkp : keepB p (nd l i) = true := by unfold keepB; show (!underB p (pth l i)) = true; rw [hu]; rfl
     have : [nd l i].filter (keepB p) = [nd l i] := by simp [hkp]
     rw [Bool.not_false, cond_true, if_pos (by omega), if_pos (by simp only [List.length_cons, List.length_nil]; omega), this]
     rfl
    | true =>
     have hkp : keepB p (nd l i) = false := by unfold keepB; show (!underB p (pth l i)) = false; rw [hu]; rfl
     have : [nd l i].filter (keepB p) = [] := by simp [hkp]
     rw [Bool.not_true, cond_false, this, List.append_nil]
   ·dsimp only
    rw [wr1 i (by omega)]
    exact hk (l.length - (i + 1)) _ (by omega) ⟨i + 1, rfl, by omega, rfl⟩
  ·have : i = l.length := by omega
   subst this
   rw [decide_eq_false (by omega), cond_false, List.take_length]
 ·dsimp only
  rw [spec_lone2 _ (Nat.le_trans (List.length_filter_le _ _) hl), Option.bind_some]
theorem sorted_putV {l : List NodeT} (hs : Sorted l) (n : NodeT) : Sorted (putV l n) := by
 have hp := sorted_pair.1 hs
 have big : ∀ y, (!ltP n.1 y && neP n.1 y) = true → Op.bytesLess n.1 y.1 = true := fun y hy => by
  rw [Bool.and_eq_true, Bool.not_eq_true'] at hy
  rcases less_total y.1 n.1 with h | h | h
  ·rw [show ltP n.1 y = Op.bytesLess y.1 n.1 from rfl, h] at hy; cases hy.1
  ·have := hy.2
   unfold neP at this
   rw [h, beq_self_eq_true] at this; cases this
  ·exact h
 rw [sorted_pair]
 unfold putV
 rw [List.pairwise_append]
 refine ⟨hp.filter _, ?_, ?_⟩
 ·rw [List.pairwise_cons]
  exact ⟨fun y hy => big y (List.mem_filter.1 hy).2, hp.filter _⟩
 ·intro a ha b hb
  have ha2 : Op.bytesLess a.1 n.1 = true := (List.mem_filter.1 ha).2
  rcases List.mem_cons.1 hb with rfl | hb
  ·exact ha2
  ·exact less_trans ha2 (big b (List.mem_filter.1 hb).2)
theorem putV_mem2 {l : List NodeT} {n x : NodeT} (h : x ∈ putV l n) : x = n ∨ (x ∈ l ∧ x.1 ≠ n.1) := by
 unfold putV at h
 rw [List.mem_append, List.mem_cons, List.mem_filter, List.mem_filter] at h
 rcases h with ⟨h1, h2⟩ | rfl | ⟨h1, h2⟩
 ·refine .inr ⟨h1, fun e => ?_⟩
  have h2 : Op.bytesLess x.1 n.1 = true := h2
  rw [e, less_irrefl] at h2; cases h2
 ·exact .inl rfl
 ·refine .inr ⟨h1, fun e => ?_⟩
  rw [Bool.and_eq_true] at h2
  have := h2.2
  unfold neP at this
  rw [e, beq_self_eq_true] at this; cases this
theorem rightQ_put {l : List NodeT} (h : RightQ l) {n : NodeT} (hok : nodeOk n = true) (hg : gr n = 0) (hup : parent n.1 = [] ∨ ∃ y ∈ l, y.1 = parent n.1 ∧ y.2.1 = 0) (hd : ∀ y ∈ l, y.1 = n.1 → y.2.1 = 0 → n.2.1 = 0) : RightQ (putV l n) := by
 have keep : ∀ y ∈ l, y.2.1 = 0 → ∃ z ∈ putV l n, z.1 = y.1 ∧ z.2.1 = 0 := fun y hy h0 => by
  by_cases e : y.1 = n.1
  ·exact ⟨n, putV_has l n, e.symm, hd y hy e h0⟩
  ·exact ⟨y, putV_keeps hy e, rfl, h0⟩
 refine ⟨fun x hx => ?_, sorted_putV h.sorted n, fun x hx => ?_, fun x hx y hy h0 he => ?_⟩
 ·rcases putV_mem2 hx with rfl | ⟨hx, _⟩
  ·exact hok
  ·exact h.ok x hx
 ·rcases putV_mem2 hx with rfl | ⟨hx, _⟩
  ·rcases hup with e | ⟨y, hy, e1, e2⟩
   ·exact .inl e
   ·obtain ⟨z, hz, f1, f2⟩ := keep y hy e2
    exact .inr ⟨z, hz, f1.trans e1, f2⟩
  ·rcases h.up x hx with e | ⟨y, hy, e1, e2⟩
   ·exact .inl e
   ·obtain ⟨z, hz, f1, f2⟩ := keep y hy e2
    exact .inr ⟨z, hz, f1.trans e1, f2⟩
 ·rcases putV_mem2 hx with rfl | ⟨hx, _⟩
  ·exact absurd hg h0
  ·rcases putV_mem2 hy with rfl | ⟨hy, _⟩
   ·rw [hg] at he; exact absurd he.symm h0
   ·exact h.like x hx y hy h0 he
theorem RightP.q {l : List NodeT} (h : RightP l) : RightQ l := ⟨h.ok, h.sorted, h.up, h.like⟩
theorem cnt_put {l : List NodeT} {n : NodeT} (hno : ∀ y ∈ l, y.1 ≠ n.1) (g : Int) : cnt l g ≤ cnt (putV l n) g := by
 unfold putV cnt
 rw [List.filter_append, List.length_append, List.filter_cons]
 have e : ∀ m : List NodeT, (∀ y ∈ m, y.1 ≠ n.1) → (m.filter (fun x => gr x == g)).length = ((m.filter (ltP n.1)).filter (fun x => gr x == g)).length + ((m.filter (fun x => !ltP n.1 x && neP n.1 x)).filter (fun x => gr x == g)).length := by
  intro m
  induction m with
  | nil => intro _; rfl
  | cons a m ih =>
   intro hm
   have ih := ih fun y hy => hm y (List.mem_cons_of_mem _ hy)
   have hne : neP n.1 a = true := by
    unfold neP
    rw [show (a.1 == n.1) = false by rw [beq_eq_false_iff_ne]; exact hm a (List.mem_cons_self ..)]; rfl
   rw [List.filter_cons, List.filter_cons, List.filter_cons, hne]
   cases ltP n.1 a <;> cases hga : gr a == g <;> simp [hga, ih] <;> omega
 have := e l hno
 split <;> (try simp only [List.length_cons]) <;> omega
theorem rightP_put {l : List NodeT} (h : RightP l) {n : NodeT} (hok : nodeOk n = true) (hg : gr n = 0) (hup : parent n.1 = [] ∨ ∃ y ∈ l, y.1 = parent n.1 ∧ y.2.1 = 0) (hno : ∀ y ∈ l, y.1 ≠ n.1) (hl : (putV l n).length ≤ 200) (hs : dsum (putV l n) ≤ 20000) : RightP (putV l n) := by
 have q := rightQ_put h.q hok hg hup (fun y hy e => absurd e (hno y hy))
 refine ⟨hl, q.ok, q.sorted, q.up, q.like, fun x hx h0 => ?_, hs⟩
 rcases putV_mem2 hx with rfl | ⟨hx, _⟩
 ·exact absurd hg h0
 ·exact Nat.le_trans (h.two x hx h0) (cnt_put hno _)
theorem allS_put {l : List NodeT} (h : AllS l) {n : NodeT} (hn : SmT n) : AllS (putV l n) := fun x hx => by
 rcases putV_mem hx with hx | rfl
 ·exact h x hx
 ·exact hn
theorem allS_filter {l : List NodeT} (h : AllS l) (f : NodeT → Bool) : AllS (l.filter f) := fun x hx => h x (List.mem_filter.1 hx).1
theorem putV_len2 {l : List NodeT} (hs : Sorted l) (n : NodeT) (hl : l.length ≤ 1000) : (putV l n).length ≤ l.length + 1 := by
 obtain ⟨jj, hp, _⟩ := impl_place_eq l hs (by omega) n.1
 exact putV_len hp
theorem size12_some (c : List Int) (hc : c.length ≤ 1048576) : ∃ r, m_spec_l01Size c 12 = some r ∧ (1 ≤ r.1 ∧ r.1 ≤ 12) := by
 unfold m_spec_l01Size
 have hd : Int.tdiv (c.length : Int) 20 = ((c.length / 20 : Nat) : Int) := rfl
 rw [if_pos (by decide), hd, wr ((c.length / 20 : Nat) : Int) (by omega), wr ((2 : Int) + ((c.length / 20 : Nat) : Int)) (by omega)]
 by_cases h : (2 : Int) + ((c.length / 20 : Nat) : Int) > 12
 ·rw [decide_eq_true h]; exact ⟨_, rfl, by decide, by decide⟩
 ·rw [decide_eq_false h]; exact ⟨_, rfl, by show 1 ≤ (2 : Int) + _; omega, by show (2 : Int) + _ ≤ 12; omega⟩
theorem pair_right (b : Int) (hb0 : 0 ≤ b) (hb : b ≤ 14) (s : CurT) (h : Cur s) : ∃ r, m_spec_l14Pair b s = some r ∧ (r.1.1.length ≤ 14 ∧ AllS r.1.1 ∧ RightP r.1.1) ∧ (r.1.2.1.length ≤ 20 ∧ AllS r.1.2.1 ∧ RightP r.1.2.1) ∧ Cur r.2.1 := by
 unfold m_spec_l14Pair
 refine bind_some' (tree_right b hb0 hb s h) ?_
 rintro ⟨u0, s1, src, u1⟩ ⟨hl, hA, hR, h1⟩
 have hl : src.length ≤ 14 := hl
 have hA : AllS src := hA
 have hR : RightP src := hR
 dsimp only
 rw [if_pos (by simp only [nilOf, List.length_nil]; omega)]
 refine bind_some' (below_some' 6 (by omega) (by omega) s1 h1) ?_
 rintro ⟨tn, s2, u2⟩ ⟨htn, h2⟩
 have htn : 0 ≤ tn ∧ tn < 6 := htn
 dsimp only
 rw [show nilOf (List UInt8 × Int × Int × Int × List UInt8 × List UInt8 × Int) ++ src = src from rfl]
 have hs0 := hR.sum
 refine bind_some' (Q := fun r => ∃ (dst : List NodeT) (cu : CurT), r = (((), dst, ()), cu, src, ()) ∧ dst.length ≤ 20 ∧ AllS dst ∧ RightP dst ∧ Cur cu)
  (loopC_some' _ (fun c t => ∃ (j : Nat) (dst : List NodeT) (cu : CurT), t = (((), (), dst, tn, (j : Int), ()), cu, src, ()) ∧ (j : Int) ≤ tn ∧ dst.length ≤ 14 + j ∧ AllS dst ∧ RightP dst ∧ Cur cu ∧ c = tn.toNat - j) _ ?_ _ tn.toNat _ ⟨0, src, s2, rfl, by omega, by omega, hA, hR, h2, by omega⟩ (by omega)) ?_
 ·rintro c t k ⟨j, dst, cu, rfl, hj, hd, hA, hR, hc, rfl⟩ hk
  dsimp only
  refine bind_some' (Q := fun r => ∃ f : Bool, r = (((), (), dst, tn, (j : Int), f, ()), cu, src, ()) ∧ (f = true → (j : Int) < tn ∧ 0 < dst.length)) ?_ ?_
  ·by_cases hlt : (j : Int) < tn
   ·rw [decide_eq_true hlt, cond_true]
    exact ⟨_, rfl, _, rfl, fun e => ⟨hlt, by rw [decide_eq_true_eq] at e; omega⟩⟩
   ·rw [decide_eq_false hlt]; exact ⟨_, rfl, false, rfl, fun e => by cases e⟩
  rintro t ⟨f, rfl, hf⟩
  dsimp only
  cases f with
  | false => rw [cond_false]; exact ⟨_, rfl, dst, cu, rfl, by omega, hA, hR, hc⟩
  | true =>
   obtain ⟨hlt, hpos⟩ := hf rfl
   rw [cond_true]
   refine bind_some' (below_some' (dst.length : Int) (by omega) (by omega) cu hc) ?_
   rintro ⟨i, c1, u3⟩ ⟨hi, hc1⟩
   have hi : 0 ≤ i ∧ i < (dst.length : Int) := hi
   obtain ⟨n, rfl⟩ := Int.eq_ofNat_of_zero_le hi.1
   have hn : n < dst.length := by omega
   dsimp only
   refine bind_some' (below_some' 5 (by omega) (by omega) c1 hc1) ?_
   rintro ⟨q, c2, u4⟩ ⟨_, hc2⟩
   dsimp only
   have hmem : nd dst n ∈ dst := nd_mem hn
   have hnok := hR.ok _ hmem
   have hpok := nodeOk_path hnok
   have hsm := allS_get hA n
   rw [Int.toNat_natCast]
   have step : ∀ (d2 : List NodeT) (c4 : CurT), d2.length ≤ dst.length + 1 → AllS d2 → RightP d2 → Cur c4 → ∃ t, k (((), (), d2, tn, IntKind.wrap .i64 ((j : Int) + 1), ()), c4, src, ()) = some t ∧ ∃ (dst : List NodeT) (cu : CurT), t = (((), dst, ()), cu, src, ()) ∧ dst.length ≤ 20 ∧ AllS dst ∧ RightP dst ∧ Cur cu := fun d2 c4 g1 g2 g3 g4 => by
    rw [wr1 j (by omega)]
    exact hk (tn.toNat - (j + 1)) _ (by omega) ⟨j + 1, d2, c4, rfl, by omega, by omega, g2, g3, g4, rfl⟩
   refine bind_some' (Q := fun r => ∃ (d2 : List NodeT) (c4 : CurT), r = (((), (), d2, tn, (j : Int), ()), c4, src, ()) ∧ d2.length ≤ dst.length + 1 ∧ AllS d2 ∧ RightP d2 ∧ Cur c4) ?_ (by
    rintro t ⟨d2, c4, rfl, g1, g2, g3, g4⟩
    exact step d2 c4 g1 g2 g3 g4)
   have lonely : ∀ {d3 : List NodeT}, RightQ d3 → d3.length ≤ dst.length + 1 → AllS d3 → RightP (loneV d3) ∧ AllS (loneV d3) ∧ (loneV d3).length ≤ dst.length + 1 := fun {d3} hq hl3 hA3 => by
    have := dsum_small hA3
    exact ⟨right_lone hq (by omega) (by omega), loneV_allS hA3, by rw [loneV_len]; exact hl3⟩
   cases q == 0 with
   | true =>
    rw [cond_true, if_pos hi]
    have e : m_spec_l10Without dst (nd dst n).1 = _ := spec_without dst (by omega) (fun i hi => nodeOk_path (hR.ok _ (nd_mem hi))) (nd dst n).1 hpok
    refine bind_some' (Q := fun r => r = (loneV (dst.filter (keepB (nd dst n).1)), ())) ⟨_, e, rfl⟩ ?_
    rintro t rfl
    refine ⟨_, rfl, _, c2, rfl, ?_, loneV_allS (allS_filter hA _), right_without hR _, hc2⟩
    rw [loneV_len]
    exact Nat.le_succ_of_le (List.length_filter_le _ _)
   | false =>
    rw [cond_false]
    have pass : ∀ {o : Option (((Unit × Unit × List NodeT × Int × Int × Unit)) × CurT × List NodeT × Unit)}, (∃ t, o = some t ∧ ∃ (d2 : List NodeT) (c4 : CurT), t = (((), (), d2, tn, (j : Int), ()), c4, src, ()) ∧ d2.length ≤ dst.length + 1 ∧ AllS d2 ∧ RightP d2 ∧ Cur c4) →
        ∃ t, Option.bind o (fun s => some (((), (), s.1.2.2), s.2)) = some t ∧ ∃ (d2 : List NodeT) (c4 : CurT), t = (((), (), d2, tn, (j : Int), ()), c4, src, ()) ∧ d2.length ≤ dst.length + 1 ∧ AllS d2 ∧ RightP d2 ∧ Cur c4 := by
     rintro o ⟨t, rfl, d2, c4, rfl, g⟩
     exact ⟨_, rfl, d2, c4, rfl, g⟩
    refine pass ?_
    cases q == 1 with
    | true =>
     rw [cond_true, if_pos hi]
     refine bind_some' (Q := fun r => ∃ (dt : List UInt8) (c4 : CurT) , r = (((), (), dst, tn, (j : Int), (), ()), c4, src, ((nd dst n).1, (nd dst n).2.1, (nd dst n).2.2.1, (nd dst n).2.2.2.1, dt, (nd dst n).2.2.2.2.2.1, 0, ()), ()) ∧ dt.length ≤ 100 ∧ nodeKind (nd dst n).2.1 (nd dst n).2.2.1 dt (nd dst n).2.2.2.2.2.1 0 = true ∧ Cur c4) ?_ ?_
     ·show ∃ r, (bif (nd dst n).2.1 == 1 then _ else _) = some r ∧ _
      cases hkd : (nd dst n).2.1 == 1 with
      | true =>
       have hk1 : (nd dst n).2.1 = 1 := by simpa using hkd
       rw [cond_true]
       refine bind_some' (below_some' 30 (by omega) (by omega) c2 hc2) ?_
       rintro ⟨m, c3, u5⟩ ⟨hm, hc3⟩
       have hm : 0 ≤ m ∧ m < 30 := hm
       refine bind_some' (text_some m c3 hm.1 (by omega) hc3) ?_
       rintro ⟨tx, c5, u6⟩ ⟨ht, hc5⟩
       have ht : tx.length ≤ m.toNat := ht
       refine ⟨_, rfl, tx, c5, rfl, by omega, ?_, hc5⟩
       have hk := hnok
       unfold nodeOk at hk
       rw [Bool.and_eq_true] at hk
       have hk := hk.2
       unfold nodeKind at hk ⊢
       rw [hk1] at hk ⊢
       simp only [show ((1 : Int) == 0) = false from rfl, show ((1 : Int) == 1) = true from rfl, cond_false, cond_true, Bool.and_eq_true, decide_eq_true_eq] at hk ⊢
       exact ⟨by omega, hk.2.1, rfl⟩
      | false =>
       refine ⟨_, rfl, _, c2, rfl, hsm.2.1, ?_, hc2⟩
       have hk := noG_ok hnok
       unfold nodeOk at hk
       rw [Bool.and_eq_true] at hk
       exact hk.2
     rintro t ⟨dt, c4, rfl, hdt, hkd, hc4⟩
     dsimp only
     refine bind_some' (below_some' 8 (by omega) (by omega) c4 hc4) ?_
     rintro ⟨m, c5, u5⟩ ⟨hm, hc5⟩
     have hm : 0 ≤ m ∧ m < 8 := hm
     dsimp only
     rw [wr ((100 : Int) + m) (by omega), spec_put_eq dst hR.sorted (by omega) _, Option.bind_some]
     dsimp only
     have hl2 := putV_len2 hR.sorted ((nd dst n).1, (nd dst n).2.1, (nd dst n).2.2.1, 100 + m, dt, (nd dst n).2.2.2.2.2.1, 0) (by omega)
     rw [spec_lone2 _ (by omega), Option.bind_some]
     have hok2 : nodeOk ((nd dst n).1, (nd dst n).2.1, (nd dst n).2.2.1, 100 + m, dt, (nd dst n).2.2.2.2.2.1, 0) = true := by
      have hk := hnok
      unfold nodeOk inI at hk ⊢
      simp only [Bool.and_eq_true, decide_eq_true_eq] at hk ⊢
      exact ⟨⟨hk.1.1, hk.1.2.1, by omega, by omega⟩, hkd⟩
     have hq := rightQ_put hR.q (n := ((nd dst n).1, (nd dst n).2.1, (nd dst n).2.2.1, 100 + m, dt, (nd dst n).2.2.2.2.2.1, 0)) hok2 rfl (hR.up (nd dst n) hmem) (fun y hy e h0 => by
      rw [sorted_mem hR.sorted hy hmem e] at h0; exact h0)
     obtain ⟨g1, g2, g3⟩ := lonely hq hl2 (allS_put hA ⟨hsm.1, hdt, hsm.2.2⟩)
     exact ⟨_, rfl, _, c5, rfl, g3, g2, g1, hc5⟩
    | false =>
     rw [cond_false]
     refine pass ?_
     cases q == 2 with
     | true =>
      rw [cond_true, if_pos hi]
      refine bind_some' (node_right (nd dst n).1 hpok hsm.1 c2 hc2) ?_
      rintro ⟨x, c3, u5⟩ ⟨hx1, hx2, hx3, hx4, hc3⟩
      have hx1 : x.1 = (nd dst n).1 := hx1
      dsimp only
      rw [if_pos hi]
      refine pass ?_
      show ∃ t, (bif (nd dst n).2.1 != 0 then _ else _) = some t ∧ _
      cases hkd : (nd dst n).2.1 != 0 with
      | false => exact ⟨_, rfl, dst, c3, rfl, by omega, hA, hR, hc3⟩
      | true =>
       have hk0 : (nd dst n).2.1 ≠ 0 := by simpa using hkd
       have hl2 := putV_len2 hR.sorted x (by omega)
       rw [cond_true, spec_put_eq dst hR.sorted (by omega) _, Option.bind_some]
       dsimp only
       rw [spec_lone2 _ (by omega), Option.bind_some]
       have hq := rightQ_put hR.q hx2 hx3 (by rw [hx1]; exact hR.up _ hmem) (fun y hy e h0 => by
        rw [sorted_mem hR.sorted hy hmem (e.trans hx1)] at h0; exact absurd h0 hk0)
       obtain ⟨g1, g2, g3⟩ := lonely hq hl2 (allS_put hA hx4)
       exact ⟨_, rfl, _, c3, rfl, g3, g2, g1, hc3⟩
     | false =>
      rw [cond_false, if_pos hi]
      refine bind_some' (Q := fun r => ∃ (p : List UInt8), r = (((), (), dst, tn, (j : Int), p, ()), c2, src, ()) ∧ p.length ≤ 200 ∧ (p = [] ∨ ∃ y ∈ dst, y.1 = p ∧ y.2.1 = 0)) ?_ ?_
      ·show ∃ r, (bif (nd dst n).2.1 == 0 then _ else _) = some r ∧ _
       cases hkd : (nd dst n).2.1 == 0 with
       | true => rw [cond_true, if_pos hi]; exact ⟨_, rfl, _, rfl, hsm.1, .inr ⟨nd dst n, hmem, rfl, by simpa using hkd⟩⟩
       | false => exact ⟨_, rfl, [], rfl, Nat.zero_le _, .inl rfl⟩
      rintro t ⟨p, rfl, hp, hdir⟩
      dsimp only
      refine bind_some' (name_some c2 hc2) ?_
      rintro ⟨nm, c3, u5⟩ ⟨hnm, hc3⟩
      have hnm : nm.length ≤ 10 := hnm
      dsimp only
      refine bind_some' (join_right p nm (by omega) (by omega)) ?_
      rintro ⟨jp, u6⟩ ⟨hjp, hjr⟩
      have hjp : jp.length ≤ 168 := hjp
      have hjr : jp = [] ∨ (pathOk jp = true ∧ parent jp = p) := hjr
      dsimp only
      refine bind_some' (Q := fun r => ∃ f : Bool, r = (((), (), dst, tn, (j : Int), jp, f, ()), c3, src, ()) ∧ (f = true → jp ≠ [] ∧ ∀ x ∈ dst, x.1 ≠ jp)) ?_ ?_
      ·show ∃ r, (bif !(jp == []) then _ else _) = some r ∧ _
       cases hjn : jp == [] with
       | true => exact ⟨_, rfl, false, rfl, fun h => by cases h⟩
       | false =>
        rw [Bool.not_false, cond_true, spec_at dst (by omega), Option.bind_some]
        refine ⟨_, rfl, _, rfl, fun hf => ⟨by simpa using hjn, fun x hx e => ?_⟩⟩
        obtain ⟨k2, hk2, rfl⟩ := mem_nd hx
        have := atO_at hR.sorted hk2
        rw [show pth dst k2 = jp from e] at this
        unfold atV at hf
        rw [this] at hf
        have hf : decide ((k2 : Int) < 0) = true := hf
        rw [decide_eq_true_eq] at hf
        omega
      rintro t ⟨f, rfl, hf2⟩
      dsimp only
      refine pass ?_
      cases f with
      | false => exact ⟨_, rfl, dst, c3, rfl, by omega, hA, hR, hc3⟩
      | true =>
       rw [cond_true]
       obtain ⟨hne, hno⟩ := hf2 rfl
       obtain ⟨hjok, hjpar⟩ := hjr.resolve_left hne
       refine bind_some' (node_right jp hjok (by omega) c3 hc3) ?_
       rintro ⟨x, c4, u7⟩ ⟨hx1, hx2, hx3, hx4, hc4⟩
       have hx1 : x.1 = jp := hx1
       dsimp only
       rw [spec_put_eq dst hR.sorted (by omega) x, Option.bind_some]
       have hl2 := putV_len2 hR.sorted x (by omega)
       have hx4 : SmT x := hx4
       have hA2 := allS_put hA hx4
       have := dsum_small hA2
       exact ⟨_, rfl, putV dst x, c4, rfl, hl2, hA2, rightP_put hR hx2 hx3 (by rw [hx1, hjpar]; exact hdir) (by rw [hx1]; exact hno) (by omega) (by omega), hc4⟩
 ·rintro t ⟨dst, cu, rfl, g1, g2, g3, g4⟩
  exact ⟨_, rfl, ⟨hl, hA, hR⟩, ⟨g1, g2, g3⟩, g4⟩
def zB : (Bool × Bool × Bool × Bool × Bool × Bool × Bool × Bool × Bool × Bool × Bool × Bool × Bool × Int × Bool × List UInt8 × List UInt8 × Unit) := (false, false, false, false, false, false, false, false, false, false, false, false, false, 0, false, [], [], ())
def oB (a b c d e ck so x f g h i j : Bool) (del : Int) (bk : Bool) (suf dir : List UInt8) : (Bool × Bool × Bool × Bool × Bool × Bool × Bool × Bool × Bool × Bool × Bool × Bool × Bool × Int × Bool × List UInt8 × List UInt8 × Unit) := (a, b, c, d, e, ck, so, x, f, g, h, i, j, del, bk, suf, dir, ())
theorem opts_right (s : CurT) (h : Cur s) : ∃ r, m_spec_l11Opts s = some r ∧ optsOk r.1 = true ∧ (r.1.2.2.2.2.2.2.2.2.2.2.2.2.2.2.2.1.length ≤ 100 ∧ r.1.2.2.2.2.2.2.2.2.2.2.2.2.2.2.2.2.length ≤ 100) ∧ Cur r.2.1 := by
 unfold m_spec_l11Opts
 refine bind_some' (once_some' 6 (by omega) s h) ?_
 rintro ⟨f0, s0, u0⟩ h0
 refine bind_some' (once_some' 4 (by omega) s0 h0) ?_
 rintro ⟨f1, s1, u1⟩ h1
 refine bind_some' (once_some' 3 (by omega) s1 h1) ?_
 rintro ⟨f2, s2, u2⟩ h2
 refine bind_some' (once_some' 3 (by omega) s2 h2) ?_
 rintro ⟨f3, s3, u3⟩ h3
 refine bind_some' (once_some' 3 (by omega) s3 h3) ?_
 rintro ⟨f4, s4, u4⟩ h4
 refine bind_some' (once_some' 4 (by omega) s4 h4) ?_
 rintro ⟨f5, s5, u5⟩ h5
 refine bind_some' (once_some' 6 (by omega) s5 h5) ?_
 rintro ⟨f6, s6, u6⟩ h6
 refine bind_some' (once_some' 10 (by omega) s6 h6) ?_
 rintro ⟨f7, s7, u7⟩ h7
 refine bind_some' (once_some' 12 (by omega) s7 h7) ?_
 rintro ⟨f8, s8, u8⟩ h8
 refine bind_some' (once_some' 3 (by omega) s8 h8) ?_
 rintro ⟨f9, s9, u9⟩ h9
 refine bind_some' (below_some' 5 (by omega) (by omega) s9 h9) ?_
 rintro ⟨q, s10, u10⟩ ⟨_, h10⟩
 dsimp only
 refine bind_some' (Q := fun t => ∃ (ck so : Bool), t = (((), (), (), ()), s10, zB, oB (!f0) (!f1) (!f2) (!f3) f4 ck so false f5 f6 f7 f8 f9 0 false [] [], ()) ∧ (ck && so) = false) ?_ ?_
 ·cases q == 0 with
  | true => exact ⟨_, rfl, true, false, rfl, rfl⟩
  | false =>
   rw [cond_false]
   cases q == 1 with
   | true => exact ⟨_, rfl, false, true, rfl, rfl⟩
   | false => exact ⟨_, rfl, false, false, rfl, rfl⟩
 rintro t ⟨ck, so, rfl, hcs⟩
 unfold oB
 dsimp only
 refine bind_some' (Q := fun t => ∃ (del : Int) (cu : CurT), t = (((), (), (), ()), cu, zB, oB (!f0) (!f1) (!f2) (!f3) f4 ck so false f5 f6 f7 f8 f9 del false [] [], ()) ∧ (0 ≤ del ∧ del ≤ 3) ∧ (!(del == 0) && !(!f0)) = false ∧ Cur cu) ?_ ?_
 ·cases hf : !f0 with
  | true =>
   rw [cond_true]
   refine bind_some' (below_some' 4 (by omega) (by omega) s10 h10) ?_
   rintro ⟨del, s11, u11⟩ ⟨hd, h11⟩
   have hd : 0 ≤ del ∧ del < 4 := hd
   exact ⟨_, rfl, del, s11, rfl, by omega, by simp, h11⟩
  | false => exact ⟨_, rfl, 0, s10, rfl, by omega, rfl, h10⟩
 rintro t ⟨del, cu, rfl, hdel, hrec, hcu⟩
 unfold oB
 dsimp only
 refine bind_some' (once_some' 4 (by omega) cu hcu) ?_
 rintro ⟨fb, s12, u12⟩ h12
 dsimp only
 have base : ∀ (bk : Bool) (suf dir : List UInt8), cond bk (sufOk suf && ((dir == [] || pathOk dir) && !(suf == [] && dir == []))) (suf == [] && dir == []) = true → optsOk ((!f0), (!f1), (!f2), (!f3), f4, ck, so, false, f5, f6, f7, f8, f9, del, bk, suf, dir) = true := fun bk suf dir hb => by
  unfold optsOk
  dsimp only
  rw [decide_eq_true (show del ≥ 0 from hdel.1), decide_eq_true hdel.2, hrec, hcs, hb]; rfl
 refine bind_some' (Q := fun t => ∃ (bk : Bool) (suf dir : List UInt8) (c2 : CurT), t = (((), (), ()), c2, zB, oB (!f0) (!f1) (!f2) (!f3) f4 ck so false f5 f6 f7 f8 f9 del bk suf dir, ()) ∧ cond bk (sufOk suf && ((dir == [] || pathOk dir) && !(suf == [] && dir == []))) (suf == [] && dir == []) = true ∧ suf.length ≤ 100 ∧ dir.length ≤ 100 ∧ Cur c2) ?_ ?_
 ·cases fb with
  | false => exact ⟨_, rfl, false, [], [], s12, rfl, rfl, Nat.zero_le _, Nat.zero_le _, h12⟩
  | true =>
   rw [cond_true]
   refine bind_some' (pick_mem _ (fun x => x = [46, 98, 97, 107] ∨ x = [46, 111, 108, 100] ∨ x = []) s12 (by decide) h12) ?_
   rintro ⟨suf, s13, u13⟩ ⟨hsuf, h13⟩
   have hsuf : suf = [46, 98, 97, 107] ∨ suf = [46, 111, 108, 100] ∨ suf = [] := hsuf
   have hs1 : sufOk suf = true := by rcases hsuf with rfl | rfl | rfl <;> decide
   have hs2 : suf.length ≤ 100 := by rcases hsuf with rfl | rfl | rfl <;> decide
   dsimp only
   refine bind_some' (Q := fun t => ∃ (f : Bool) (c2 : CurT), t = (((), (), (), f, ()), c2, zB, oB (!f0) (!f1) (!f2) (!f3) f4 ck so false f5 f6 f7 f8 f9 del true suf [], ()) ∧ (f = false → (suf == []) = false) ∧ Cur c2) ?_ ?_
   ·show ∃ r, (bif suf == [] then _ else _) = some r ∧ _
    cases hsn : suf == [] with
    | true => exact ⟨_, rfl, true, s13, rfl, (fun e => by cases e), h13⟩
    | false =>
     rw [cond_false]
     refine bind_some' (once_some' 2 (by omega) s13 h13) ?_
     rintro ⟨f, s14, u14⟩ h14
     exact ⟨_, rfl, f, s14, rfl, fun _ => rfl, h14⟩
   rintro t ⟨f, c2, rfl, hf, hc2⟩
   unfold oB
   dsimp only
   refine bind_some' (Q := fun t => ∃ (dir : List UInt8) (c3 : CurT), t = (((), (), ()), c3, zB, oB (!f0) (!f1) (!f2) (!f3) f4 ck so false f5 f6 f7 f8 f9 del true suf dir, ()) ∧ ((dir == [] || pathOk dir) && !(suf == [] && dir == [])) = true ∧ dir.length ≤ 100 ∧ Cur c3) ?_ ?_
   ·cases f with
    | false => exact ⟨_, rfl, [], c2, rfl, by rw [hf rfl]; rfl, Nat.zero_le _, hc2⟩
    | true =>
     rw [cond_true]
     refine bind_some' (pick_mem _ (fun x => pathOk x = true ∧ (x == []) = false ∧ x.length ≤ 100) c2 (by decide) hc2) ?_
     rintro ⟨dir, s15, u15⟩ ⟨⟨hd1, hd2, hd3⟩, h15⟩
     have hd1 : pathOk dir = true := hd1
     have hd2 : (dir == []) = false := hd2
     exact ⟨_, rfl, dir, s15, rfl, by rw [hd1, hd2, Bool.and_false]; rfl, hd3, h15⟩
   rintro t ⟨dir, c3, rfl, hd, hd2, hc3⟩
   exact ⟨_, rfl, true, suf, dir, c3, rfl, by rw [cond_true, hs1, hd]; rfl, hs2, hd2, hc3⟩
 rintro t ⟨bk, suf, dir, c2, rfl, hb, g1, g2, hc2⟩
 exact ⟨_, rfl, base bk suf dir hb, ⟨g1, g2⟩, hc2⟩
theorem pat_of {p : List UInt8} (h : m_impl_PatternOk p = some (true, ())) : patB p = true := by
 rw [impl_patOk] at h
 simpa using h
def ruleP (x : List UInt8) : Prop := patB x = true ∧ (!edge x 0 && (!edge x (x.length - 1) && x.all (fun b => !(b == 32)))) = true ∧ (10 : UInt8) ∉ x
theorem rule_right (s : CurT) (h : Cur s) : ∃ r, m_spec_l09Rule s = some r ∧ (ruleOk r.1 = true ∧ noNl r.1) ∧ Cur r.2.1 := by
 unfold m_spec_l09Rule
 refine bind_some' (pickInt_mem _ s (by decide) h) ?_
 rintro ⟨k, s1, u1⟩ ⟨hk, h1⟩
 have hk2 : 0 ≤ k ∧ k ≤ 3 := by simp only [List.mem_cons, List.not_mem_nil, or_false] at hk; omega
 refine bind_some' (once_some' 3 (by omega) s1 h1) ?_
 rintro ⟨rt, s2, u2⟩ h2
 refine bind_some' (once_some' 4 (by omega) s2 h2) ?_
 rintro ⟨di, s3, u3⟩ h3
 refine bind_some' (pick_mem _ ruleP s3 ⟨by decide, by decide, ?_⟩ h3) ?_
 ·intro x hx
  simp only [List.mem_cons, List.not_mem_nil, or_false] at hx
  rcases hx with rfl | rfl | rfl | rfl | rfl | rfl | rfl | rfl | rfl | rfl | rfl | rfl | rfl | rfl | rfl <;> exact ⟨pat_of (by decide +kernel), by decide, by decide⟩
 rintro ⟨p, s4, u4⟩ ⟨⟨hp1, hp2, hp3⟩, h4⟩
 have hp1 : patB p = true := hp1
 refine ⟨_, rfl, ⟨?_, hp3⟩, h4⟩
 show ruleOk (k, rt, di, p) = true
 unfold ruleOk
 rw [show (k == 4) = false by rw [beq_eq_false_iff_ne]; omega, cond_false, decide_eq_true hk2, hp1, hp2]; rfl
theorem rules_right (n : Int) (hn : 0 ≤ n ∧ n < 7) (s : CurT) (h : Cur s) : ∃ r, m_spec_l09Rules n s = some r ∧ (∀ x ∈ r.2.2.1, ruleOk x = true ∧ noNl x) ∧ r.2.2.1.length ≤ 7 ∧ Cur r.2.1 := by
 unfold m_spec_l09Rules
 refine bind_some' (Q := fun r => (∀ x ∈ r.2.2.1, ruleOk x = true ∧ noNl x) ∧ r.2.2.1.length ≤ 7 ∧ Cur r.2.1) (loopC_some' _ (fun c t => ∃ (j : Nat) (cu : CurT) (l : List RuleT), t = (((), n, (), (j : Int), ()), cu, l, ()) ∧ (∀ x ∈ l, ruleOk x = true ∧ noNl x) ∧ l.length = j ∧ (j : Int) ≤ n ∧ Cur cu ∧ c = n.toNat - j) _ ?_ _ n.toNat _ ⟨0, s, [], rfl, by simp, rfl, by omega, h, by omega⟩ (by omega)) ?_
 ·rintro c t k ⟨j, cu, l, rfl, h1, h2, h3, h4, rfl⟩ hk
  dsimp only
  by_cases hl : (j : Int) < n
  ·rw [decide_eq_true hl, cond_true]
   refine bind_some' (rule_right cu h4) ?_
   rintro ⟨r, cu2, u2⟩ ⟨hr, hc2⟩
   dsimp only
   rw [if_pos (by simp only [List.length_cons, List.length_nil]; omega), wr1 j (by omega)]
   refine hk (n.toNat - (j + 1)) _ (by omega) ⟨j + 1, cu2, l ++ [r], rfl, ?_, by simp [h2], by omega, hc2, rfl⟩
   intro x hx
   rcases List.mem_append.1 hx with hx | hx
   ·exact h1 x hx
   ·rw [List.mem_singleton.1 hx]; exact hr
  ·rw [decide_eq_false hl, cond_false]
   exact ⟨_, rfl, h1, by show l.length ≤ 7; omega, h4⟩
 ·rintro ⟨⟨u1, u2⟩, cu, l, u3⟩ ⟨h1, h2, h3⟩
  exact ⟨_, rfl, h1, h2, h3⟩
structure Drawn2 (src dst : List NodeT) (o : OptsT) (rules : List RuleT) : Prop where
 s1 : src.length ≤ 14
 s2 : AllS src
 s3 : RightP src
 d1 : dst.length ≤ 20
 d2 : AllS dst
 d3 : RightP dst
 o1 : optsOk o = true
 o2 : o.2.2.2.2.2.2.2.2.2.2.2.2.2.2.2.1.length ≤ 100
 o3 : o.2.2.2.2.2.2.2.2.2.2.2.2.2.2.2.2.length ≤ 100
 r1 : ∀ x ∈ rules, ruleOk x = true ∧ noNl x
 r2 : rules.length ≤ 7
theorem two_right (c : List Int) (hc : c.length ≤ 1048576) : ∃ r, m_spec_DrawTwoTrees c = some r ∧ Drawn2 r.1.1 r.1.2.1 r.1.2.2.1 r.1.2.2.2.1 := by
 unfold m_spec_DrawTwoTrees
 refine bind_some' (Q := fun r => Drawn2 r.1.1 r.1.2.1 r.1.2.2.1 r.1.2.2.2.1) ?_ (fun r hr => ⟨_, rfl, hr⟩)
 unfold m_spec_l14Draw
 refine bind_some' (new_some c hc) ?_
 rintro ⟨u0, s0, u1⟩ h0
 refine bind_some' (size12_some c hc) ?_
 rintro ⟨z, u2⟩ hz
 have hz : 1 ≤ z ∧ z ≤ 12 := hz
 refine bind_some' (below_some' z (by omega) (by omega) s0 h0) ?_
 rintro ⟨b, s1, u3⟩ ⟨hb, h1⟩
 have hb : 0 ≤ b ∧ b < z := hb
 dsimp only
 rw [wr (b + 1) (by omega)]
 refine bind_some' (pair_right (b + 1) (by omega) (by omega) s1 h1) ?_
 rintro ⟨⟨src, dst, u4⟩, s2, u5⟩ ⟨⟨a1, a2, a3⟩, ⟨b1, b2, b3⟩, h2⟩
 dsimp only
 refine bind_some' (opts_right s2 h2) ?_
 rintro ⟨o, s3, u6⟩ ⟨o1, ⟨o2, o3⟩, h3⟩
 dsimp only
 refine bind_some' (once_some' 2 (by omega) s3 h3) ?_
 rintro ⟨f, s4, u7⟩ h4
 dsimp only
 refine bind_some' (Q := fun t => ∃ (rules : List RuleT) (c5 : CurT), t = (((), (), src, dst, (), (), ()), zB, c5, (o.1, o.2.1, o.2.2.1, o.2.2.2.1, o.2.2.2.2.1, o.2.2.2.2.2.1, o.2.2.2.2.2.2.1, o.2.2.2.2.2.2.2.1, o.2.2.2.2.2.2.2.2.1, o.2.2.2.2.2.2.2.2.2.1, o.2.2.2.2.2.2.2.2.2.2.1, o.2.2.2.2.2.2.2.2.2.2.2.1, o.2.2.2.2.2.2.2.2.2.2.2.2.1, o.2.2.2.2.2.2.2.2.2.2.2.2.2.1, o.2.2.2.2.2.2.2.2.2.2.2.2.2.2.1, o.2.2.2.2.2.2.2.2.2.2.2.2.2.2.2.1, o.2.2.2.2.2.2.2.2.2.2.2.2.2.2.2.2, ()), rules, ()) ∧ (∀ x ∈ rules, ruleOk x = true ∧ noNl x) ∧ rules.length ≤ 7) ?_ ?_
 ·cases f with
  | false => exact ⟨_, rfl, [], s4, rfl, (fun x hx => by cases hx), Nat.zero_le _⟩
  | true =>
   rw [cond_true]
   refine bind_some' (below_some' 4 (by omega) (by omega) s4 h4) ?_
   rintro ⟨m, s5, u8⟩ ⟨hm, h5⟩
   have hm : 0 ≤ m ∧ m < 4 := hm
   refine bind_some' (rules_right m (by omega) s5 h5) ?_
   rintro ⟨u9, s6, rules, u10⟩ ⟨hr1, hr2, h6⟩
   exact ⟨_, rfl, rules, s6, rfl, hr1, hr2⟩
 rintro t ⟨rules, c5, rfl, hr1, hr2⟩
 exact ⟨_, rfl, ⟨a1, a2, a3, b1, b2, b3, o1, o2, o3, hr1, hr2⟩⟩
def hardN (o : OptsT) (x : NodeT) : NodeT := cond o.2.2.2.2.1 x (noG x)
def filtW (l : List NodeT) (o : OptsT) (r : List RuleT) : List NodeT := (l.filter (fun x => skipV x o r == 0)).map (hardN o)
def wantedV (l : List NodeT) (o : OptsT) (r : List RuleT) : List NodeT := loneV (filtW l o r)
theorem hardN_path (o : OptsT) (x : NodeT) : (hardN o x).1 = x.1 := by unfold hardN; cases o.2.2.2.2.1 <;> rfl
theorem hardN_kind (o : OptsT) (x : NodeT) : (hardN o x).2.1 = x.2.1 := by unfold hardN; cases o.2.2.2.2.1 <;> rfl
theorem hardN_data (o : OptsT) (x : NodeT) : (hardN o x).2.2.2.2.1 = x.2.2.2.2.1 := by unfold hardN; cases o.2.2.2.2.1 <;> rfl
theorem hardN_ok (o : OptsT) {x : NodeT} (h : nodeOk x = true) : nodeOk (hardN o x) = true := by
 unfold hardN; cases o.2.2.2.2.1
 ·exact noG_ok h
 ·exact h
theorem hardN_plain (o : OptsT) (x : NodeT) : noG (hardN o x) = noG x := by unfold hardN; cases o.2.2.2.2.1 <;> rfl
theorem lone1_plain (l : List NodeT) (x : NodeT) : noG (lone1 l x) = noG x := by
 rcases lone1_cases l x with e | ⟨e, _⟩ <;> rw [e]; rfl
theorem skip_parent {x y : NodeT} {o : OptsT} {r : List RuleT} (hx : skipV x o r = 0) (hp : pathOk x.1 = true) (h0 : parent x.1 ≠ []) (e1 : y.1 = parent x.1) (e2 : y.2.1 = 0) : skipV y o r = 0 := by
 obtain ⟨t, ht⟩ := (parent_app hp).resolve_left h0
 unfold skipV at hx ⊢
 cases hh : hidden r x.1 (x.2.1 == 0) with
 | true => rw [hh] at hx; cases hx
 | false =>
  rw [hh, cond_false] at hx
  have hs : hasSlash x.1 = true := by
   have := parent_slash hp
   unfold hasSlash
   rw [← this, Bool.not_eq_true', beq_eq_false_iff_ne]; exact h0
  rw [hs, Bool.or_true, Bool.and_true] at hx
  cases hr : o.1 with
  | false => rw [hr] at hx; cases hx
  | true =>
   have hy : hidden r y.1 true = false := by
    cases hc : hidden r y.1 true with
    | false => rfl
    | true =>
     have hlen : (parent x.1).length < x.1.length := by
      have := congrArg List.length ht
      rw [List.length_append, List.length_cons] at this; omega
     have ht2 : x.1.take (parent x.1).length = parent x.1 := by
      conv => lhs; arg 2; rw [ht]
      rw [List.take_left']; rfl
     have hg : x.1.getD (parent x.1).length 0 = 47 := by
      conv => lhs; arg 1; rw [ht]
      rw [List.getD_eq_getElem?_getD, List.getElem?_append_right (Nat.le_refl _)]
      simp
     have := hidden_under r x.1 (x.2.1 == 0) (parent x.1).length hlen (by rw [hg]; rfl) (by rw [ht2, ← e1]; exact hc)
     rw [hh] at this; cases this
   rw [e2]
   simp only [show ((0 : Int) == 0) = true from rfl, hy, cond_false, Bool.not_true, Bool.false_and, show ((0 : Int) == 2) = false from rfl]
theorem right_filtW {l : List NodeT} (h : RightP l) (o : OptsT) (r : List RuleT) : RightQ (filtW l o r) := by
 have hm : ∀ y ∈ filtW l o r, ∃ x ∈ l, skipV x o r = 0 ∧ y = hardN o x := fun y hy => by
  obtain ⟨x, hx, rfl⟩ := List.mem_map.1 hy
  obtain ⟨h1, h2⟩ := List.mem_filter.1 hx
  exact ⟨x, h1, by simpa using h2, rfl⟩
 refine ⟨fun y hy => ?_, ?_, fun y hy => ?_, fun x' hx' y' hy' hg he => ?_⟩
 ·obtain ⟨x, hx, _, rfl⟩ := hm y hy
  exact hardN_ok o (h.ok x hx)
 ·have hs := sorted_pair.1 h.sorted
  rw [sorted_pair]
  unfold filtW
  rw [List.pairwise_map]
  refine (hs.filter _).imp ?_
  intro a b hab
  rw [hardN_path, hardN_path]; exact hab
 ·obtain ⟨x, hx, hk, rfl⟩ := hm y hy
  rw [hardN_path]
  rcases h.up x hx with e | ⟨z, hz, e1, e2⟩
  ·exact .inl e
  ·by_cases h0 : parent x.1 = []
   ·exact .inl h0
   ·refine .inr ⟨hardN o z, List.mem_map.2 ⟨z, List.mem_filter.2 ⟨hz, ?_⟩, rfl⟩, by rw [hardN_path]; exact e1, by rw [hardN_kind]; exact e2⟩
    rw [skip_parent hk (nodeOk_path (h.ok x hx)) h0 e1 e2]; rfl
 ·obtain ⟨x, hx, _, rfl⟩ := hm x' hx'
  obtain ⟨y, hy, _, rfl⟩ := hm y' hy'
  unfold hardN at hg he ⊢
  cases ho : o.2.2.2.2.1 with
  | false => rw [ho] at hg; exact absurd rfl hg
  | true =>
   rw [ho] at hg he
   exact h.like x hx y hy hg he
theorem filtW_len (l : List NodeT) (o : OptsT) (r : List RuleT) : (filtW l o r).length ≤ l.length := by
 unfold filtW
 rw [List.length_map]; exact List.length_filter_le _ _
theorem filtW_sum (l : List NodeT) (o : OptsT) (r : List RuleT) : dsum (filtW l o r) ≤ dsum l := by
 have : dsum (filtW l o r) = dsum (l.filter (fun x => skipV x o r == 0)) := by
  unfold filtW dsum
  rw [List.map_map]
  congr 1
  exact List.map_congr_left fun x _ => congrArg List.length (hardN_data o x)
 rw [this]
 exact dsum_filter _ _
theorem right_wanted {l : List NodeT} (h : RightP l) (o : OptsT) (r : List RuleT) : RightP (wantedV l o r) :=
 right_lone (right_filtW h o r) (Nat.le_trans (filtW_len l o r) h.len) (Nat.le_trans (filtW_sum l o r) h.sum)
theorem allS_filtW {l : List NodeT} (h : AllS l) (o : OptsT) (r : List RuleT) : AllS (filtW l o r) := fun y hy => by
 obtain ⟨x, hx, rfl⟩ := List.mem_map.1 hy
 have := h x (List.mem_filter.1 hx).1
 unfold hardN
 cases o.2.2.2.2.1 <;> exact this
theorem smallS {l : List NodeT} (h : AllS l) (hl : l.length ≤ 1000) : Small l := ⟨by omega, fun x hx => by
 have := h x hx
 unfold SmT at this
 omega⟩
theorem impl_wanted_eq (l : List NodeT) (o : OptsT) (r : List RuleT) (hl : l.length ≤ 1000) (hr : r.length ≤ 102) (hp : ∀ x ∈ l, pathOk x.1 = true) : m_impl_wanted l o r = some (wantedV l o r, ()) := by
 unfold m_impl_wanted
 refine bind_eq (loopC_inv _ (fun n t => ∃ i : Nat, t = ((r, (), (), l, (l.length : Int), (i : Int), ()), (o.1, o.2.1, o.2.2.1, o.2.2.2.1, o.2.2.2.2.1, o.2.2.2.2.2.1, o.2.2.2.2.2.2.1, o.2.2.2.2.2.2.2.1, o.2.2.2.2.2.2.2.2.1, o.2.2.2.2.2.2.2.2.2.1, o.2.2.2.2.2.2.2.2.2.2.1, o.2.2.2.2.2.2.2.2.2.2.2.1, o.2.2.2.2.2.2.2.2.2.2.2.2.1, o.2.2.2.2.2.2.2.2.2.2.2.2.2.1, o.2.2.2.2.2.2.2.2.2.2.2.2.2.2.1, o.2.2.2.2.2.2.2.2.2.2.2.2.2.2.2.1, o.2.2.2.2.2.2.2.2.2.2.2.2.2.2.2.2, ()), filtW (l.take i) o r, ()) ∧ i ≤ l.length ∧ n = l.length - i)
  (fun _ => some (((), ()), filtW l o r, ())) ?_ _ l.length _ ⟨0, rfl, by omega, rfl⟩ (by omega)) ?_
 ·rintro n t k ⟨i, rfl, hi, rfl⟩ hk
  dsimp only
  by_cases hlt : i < l.length
  ·have hx : (0 : Int) ≤ (i : Int) ∧ (i : Int) < (l.length : Int) := by omega
   rw [decide_eq_true (show (i : Int) < (l.length : Int) by omega), cond_true, if_pos hx, Int.toNat_natCast]
   have hmem : nd l i ∈ l := nd_mem hlt
   have e : m_impl_skips (nd l i) o r = _ := impl_skips (nd l i) o r hr (hp _ hmem)
   refine bind_eq e ?_
   dsimp only
   have hlen : (filtW (l.take i) o r).length ≤ i := by
    have := filtW_len (l.take i) o r
    rw [List.length_take] at this; omega
   refine bind_eq (x := ((r, (), (), l, (l.length : Int), (i : Int), ()), (o.1, o.2.1, o.2.2.1, o.2.2.2.1, o.2.2.2.2.1, o.2.2.2.2.2.1, o.2.2.2.2.2.2.1, o.2.2.2.2.2.2.2.1, o.2.2.2.2.2.2.2.2.1, o.2.2.2.2.2.2.2.2.2.1, o.2.2.2.2.2.2.2.2.2.2.1, o.2.2.2.2.2.2.2.2.2.2.2.1, o.2.2.2.2.2.2.2.2.2.2.2.2.1, o.2.2.2.2.2.2.2.2.2.2.2.2.2.1, o.2.2.2.2.2.2.2.2.2.2.2.2.2.2.1, o.2.2.2.2.2.2.2.2.2.2.2.2.2.2.2.1, o.2.2.2.2.2.2.2.2.2.2.2.2.2.2.2.2, ()), filtW (l.take (i + 1)) o r, ())) ?_ ?_
   ·have hf : filtW (l.take (i + 1)) o r = filtW (l.take i) o r ++ cond (skipV (nd l i) o r == 0) [hardN o (nd l i)] [] := by
     unfold filtW
     rw [take_nd l hlt, List.filter_append, List.map_append, filter_one]
     cases skipV (nd l i) o r == 0 <;> rfl
    rw [hf]
    cases skipV (nd l i) o r == 0 with
    | false => rw [cond_false, cond_false, List.append_nil]
    | true =>
     rw [cond_true, cond_true]
     cases ho : o.2.2.2.2.1 with
     | false =>
      have : hardN o (nd l i) = noG (nd l i) := by unfold hardN; rw [ho]; rfl
      rw [this]
      simp only [Bool.not_false, cond_true, Option.bind_some]
      rw [if_pos (by simp only [List.length_cons, List.length_nil]; omega)]
      rfl
     | true =>
      have : hardN o (nd l i) = nd l i := by unfold hardN; rw [ho]; rfl
      rw [this]
      simp only [Bool.not_true, cond_false, Option.bind_some]
      rw [if_pos (by simp only [List.length_cons, List.length_nil]; omega)]
      rfl
   ·dsimp only
    rw [wr1 i (by omega)]
    exact hk (l.length - (i + 1)) _ (by omega) ⟨i + 1, rfl, by omega, rfl⟩
  ·have : i = l.length := by omega
   subst this
   rw [decide_eq_false (by omega), cond_false, List.take_length]
 ·dsimp only
  have := filtW_len l o r
  rw [impl_lone _ (by omega), Option.bind_some]
  rfl
theorem nodeAt_no {l : List NodeT} (hl : l.length ≤ 1000) {p : List UInt8} (hno : ∀ x ∈ l, x.1 ≠ p) : m_laws_nodeAt l p = some (dN, ()) := by
 unfold m_laws_nodeAt
 refine joinC_of (loopC_inv _ (fun n t => ∃ k : Nat, t = ((l, p, (), (k : Int), ()), ([], 0, 0, 0, [], [], 0, ()), ()) ∧ k ≤ l.length ∧ n = l.length - k) (fun _ => some (.inl (((), ()), ([], 0, 0, 0, [], [], 0, ()), ()))) ?_ _ l.length _ ⟨0, rfl, by omega, by omega⟩ (by omega)) rfl
 rintro n t kk ⟨k, rfl, hk, rfl⟩ hkk
 dsimp only
 by_cases hlt : k < l.length
 ·have hx : (0 : Int) ≤ (k : Int) ∧ (k : Int) < (l.length : Int) := by omega
  rw [decide_eq_true (by omega), cond_true, if_pos hx, Int.toNat_natCast]
  show (bif pth l k == p then _ else _) = _
  rw [show (pth l k == p) = false by rw [beq_eq_false_iff_ne]; exact hno _ (nd_mem hlt), cond_false, wr1 k (by omega)]
  exact hkk (l.length - (k + 1)) _ (by omega) ⟨k + 1, rfl, by omega, rfl⟩
 ·rw [decide_eq_false (by omega)]; rfl
section
variable {src dst : List NodeT} {o : OptsT} {r : List RuleT}
theorem Drawn2.rules (h : Drawn2 src dst o r) : rulesOk r = true := by
 unfold rulesOk
 rw [decide_eq_true (by have := h.r2; omega), Bool.true_and, List.all_eq_true]
 exact fun x hx => (h.r1 x hx).1
theorem Drawn2.small (h : Drawn2 src dst o r) : Small src := smallS h.s2 (by have := h.s1; omega)
theorem Drawn2.tree (h : Drawn2 src dst o r) : treeS src = true := treeS_of h.s3
theorem Drawn2.asked (h : Drawn2 src dst o r) : m_impl_areAsked src o r = some (true, ()) := by
 unfold m_impl_areAsked
 rw [impl_treeOk src h.small, Option.bind_some, h.tree]
 have h2 := h.o2
 have h3 := h.o3
 simp only [cond_true]
 rw [impl_optsOk o (by omega) (by omega), Option.bind_some, h.o1]
 simp only [cond_true]
 rw [impl_areRules, Option.bind_some, h.rules]; rfl
theorem Drawn2.okS (h : Drawn2 src dst o r) : m_spec_l12Ok src o r = some (true, ()) := by
 unfold m_spec_l12Ok
 rw [spec_treeOk src h.small, Option.bind_some, h.tree]
 have h2 := h.o2
 have h3 := h.o3
 simp only [cond_true]
 rw [spec_optsOk o (by omega) (by omega), Option.bind_some, h.o1]
 simp only [cond_true]
 rw [spec_rulesOk r (fun x hx => (h.r1 x hx).2), Option.bind_some, h.rules]; rfl
theorem Drawn2.skipI (h : Drawn2 src dst o r) {i : Nat} (hi : i < src.length) : m_impl_Skips src o r (pth src i) = some (skipV (nd src i) o r, ()) := by
 have hr := h.r2
 unfold m_impl_Skips
 rw [impl_find src h.small, Option.bind_some]
 have e : fv src (pth src i) = (i : Int) := by
  unfold fv atV
  rw [h.tree, cond_true, atO_at h.s3.sorted hi]
 rw [e]
 dsimp only
 rw [decide_eq_false (show ¬(i : Int) < 0 by omega), cond_false, h.asked, Option.bind_some, Option.bind_some]
 dsimp only
 simp only [Bool.not_true, cond_false]
 rw [if_pos (by omega), Int.toNat_natCast]
 have e2 : m_impl_skips (nd src i) o r = _ := impl_skips (nd src i) o r (by omega) (nodeOk_path (h.s3.ok _ (nd_mem hi)))
 exact bind_eq e2 rfl
theorem Drawn2.skipS (h : Drawn2 src dst o r) {i : Nat} (hi : i < src.length) : m_spec_Skips src o r (pth src i) = some (skipV (nd src i) o r, ()) := by
 have hl := h.s1
 unfold m_spec_Skips
 rw [spec_at src (by omega), Option.bind_some]
 have e : atV src (pth src i) = (i : Int) := by
  unfold atV
  rw [atO_at h.s3.sorted hi]
 rw [e]
 dsimp only
 rw [h.okS, Option.bind_some]
 simp only [Bool.not_true, cond_false, Option.bind_some]
 rw [decide_eq_false (show ¬(i : Int) < 0 by omega), cond_false, if_pos (by omega), Int.toNat_natCast]
 have e2 : m_spec_l12Skip (nd src i) o r = _ := spec_skip (nd src i) o r h.rules (fun x hx => (h.r1 x hx).2) (nodeOk_path (h.s3.ok _ (nd_mem hi)))
 exact bind_eq e2 rfl
theorem Drawn2.wanted (h : Drawn2 src dst o r) : m_impl_Wanted src o r = some ((wantedV src o r, true, ()), ()) := by
 have hl := h.s1
 have hr := h.r2
 unfold m_impl_Wanted
 rw [h.asked, Option.bind_some]
 simp only [Bool.not_true, cond_false]
 rw [impl_wanted_eq src o r (by omega) (by omega) (fun x hx => nodeOk_path (h.s3.ok x hx)), Option.bind_some]
theorem wanted_yes {x : NodeT} (hx : x ∈ src) (hk : skipV x o r = 0) : lone1 (filtW src o r) (hardN o x) ∈ wantedV src o r := by
 unfold wantedV
 rw [loneV_map]
 exact List.mem_map.2 ⟨_, List.mem_map.2 ⟨x, List.mem_filter.2 ⟨hx, by rw [hk]; rfl⟩, rfl⟩, rfl⟩
theorem wanted_no (hs : Sorted src) {x : NodeT} (hx : x ∈ src) (hk : skipV x o r ≠ 0) : ∀ y ∈ wantedV src o r, y.1 ≠ x.1 := by
 intro y hy e
 unfold wantedV at hy
 rw [loneV_map] at hy
 obtain ⟨z, hz, rfl⟩ := List.mem_map.1 hy
 obtain ⟨w, hw, rfl⟩ := List.mem_map.1 hz
 obtain ⟨h1, h2⟩ := List.mem_filter.1 hw
 rw [lone1_path, hardN_path] at e
 rw [sorted_mem hs h1 hx e] at h2
 exact hk (by simpa using h2)
end
theorem law_FnWanted (c : List Int) : m_laws_FnWanted c = some (true, ()) := by
 unfold m_laws_FnWanted
 have hbig : m_laws_big c = some (decide ((c.length : Int) > 1048576), ()) := rfl
 rw [hbig, Option.bind_some]
 by_cases hb : (c.length : Int) > 1048576
 ·rw [decide_eq_true hb]; rfl
 rw [decide_eq_false hb, cond_false]
 refine bind_ex (two_right c (by omega)) ?_
 rintro ⟨⟨src, dst, o, r, u0⟩, u1⟩ h
 have h : Drawn2 src dst o r := h
 dsimp only
 rw [h.wanted, Option.bind_some]
 simp only [Bool.not_true, cond_false]
 have hl := h.s1
 have hRW := right_wanted h.s3 o r
 have hWl : (wantedV src o r).length ≤ src.length := by unfold wantedV; rw [loneV_len]; exact filtW_len ..
 refine joinC_of (loopC_inv _ (fun n t => ∃ i : Nat, t = ((src, (), r, wantedV src o r, (((src.take i).filter (fun x => skipV x o r == 0)).length : Int), (i : Int), ()), (o.1, o.2.1, o.2.2.1, o.2.2.2.1, o.2.2.2.2.1, o.2.2.2.2.2.1, o.2.2.2.2.2.2.1, o.2.2.2.2.2.2.2.1, o.2.2.2.2.2.2.2.2.1, o.2.2.2.2.2.2.2.2.2.1, o.2.2.2.2.2.2.2.2.2.2.1, o.2.2.2.2.2.2.2.2.2.2.2.1, o.2.2.2.2.2.2.2.2.2.2.2.2.1, o.2.2.2.2.2.2.2.2.2.2.2.2.2.1, o.2.2.2.2.2.2.2.2.2.2.2.2.2.2.1, o.2.2.2.2.2.2.2.2.2.2.2.2.2.2.2.1, o.2.2.2.2.2.2.2.2.2.2.2.2.2.2.2.2, ()), ()) ∧ i ≤ src.length ∧ n = src.length - i)
  (fun _ => some (.inl ((wantedV src o r, ((src.filter (fun x => skipV x o r == 0)).length : Int), ()), ()))) ?_ _ src.length _ ⟨0, rfl, by omega, rfl⟩ (by omega)) ?_
 ·rintro n t k ⟨i, rfl, hi, rfl⟩ hk
  dsimp only
  by_cases hlt : i < src.length
  ·have hx : (0 : Int) ≤ (i : Int) ∧ (i : Int) < (src.length : Int) := by omega
   have hmem : nd src i ∈ src := nd_mem hlt
   have hpne : ((nd src i).1 == []) = false := by
    rw [beq_eq_false_iff_ne]; intro e
    have := nodeOk_path (h.s3.ok _ hmem)
    rw [e] at this
    exact absurd this (by decide)
   rw [decide_eq_true (show (i : Int) < (src.length : Int) by omega), cond_true]
   simp only [if_pos hx, Int.toNat_natCast]
   have hcnt : ((src.take (i + 1)).filter (fun x => skipV x o r == 0)).length = ((src.take i).filter (fun x => skipV x o r == 0)).length + cond (skipV (nd src i) o r == 0) 1 0 := by
    rw [take_nd src hlt, List.filter_append, List.length_append, filter_one]
    cases skipV (nd src i) o r == 0 <;> rfl
   have hcl : ((src.take i).filter (fun x => skipV x o r == 0)).length ≤ i := by
    refine Nat.le_trans (List.length_filter_le _ _) ?_
    rw [List.length_take]; omega
   have hSI := h.skipI hlt
   have hSS := h.skipS hlt
   cases hsk : skipV (nd src i) o r == 0 with
   | true =>
    have hk0 : skipV (nd src i) o r = 0 := by simpa using hsk
    generalize hy : lone1 (filtW src o r) (hardN o (nd src i)) = y
    have hyW : y ∈ wantedV src o r := by rw [← hy]; exact wanted_yes hmem hk0
    have hyp : y.1 = (nd src i).1 := by rw [← hy, lone1_path, hardN_path]
    have hypl : noG y = noG (nd src i) := by rw [← hy, lone1_plain, hardN_plain]
    have hyg : (!o.2.2.2.2.1) = true → y.2.2.2.2.2.2 = 0 := fun ho => by
     have ho : o.2.2.2.2.1 = false := by simpa using ho
     have e1 : hardN o (nd src i) = noG (nd src i) := by unfold hardN; rw [ho]; rfl
     rw [← hy, e1]
     rcases lone1_cases (filtW src o r) (noG (nd src i)) with e | ⟨e, _⟩ <;> rw [e] <;> rfl
    have hna : m_laws_nodeAt (wantedV src o r) (nd src i).1 = some (y, ()) := nodeAt_mem hRW.sorted (by omega) hyW hyp.symm
    refine bind_eq hna ?_
    dsimp only
    refine bind_eq hSI ?_
    dsimp only
    refine bind_of (bind_eq hSS rfl) ?_
    dsimp only
    rw [hk0, hyp]
    have hpne' : ((nd src i).1 == nilOf UInt8) = false := hpne
    simp only [bne_self_eq_false, hpne', Bool.not_false, beq_self_eq_true, Bool.not_true, cond_false, cond_true, Option.bind_some]
    have hpy : m_laws_plain ((nd src i).1, y.2.1, y.2.2.1, y.2.2.2.1, y.2.2.2.2.1, y.2.2.2.2.2.1, y.2.2.2.2.2.2) = some (noG (nd src i), ()) := by
     rw [← hypl, ← hyp]; rfl
    have hpx : m_laws_plain (nd src i) = some (noG (nd src i), ()) := rfl
    rw [wr1 _ (show ((src.take i).filter (fun x => skipV x o r == 0)).length ≤ 4611686018427387904 by omega)]
    rw [hsk, cond_true] at hcnt
    rw [hpy, Option.bind_some, if_pos hx]
    refine joinC_of (x := some (.inl ((src, (), r, wantedV src o r, ((((src.take i).filter (fun x => skipV x o r == 0)).length + 1 : Nat) : Int), (i : Int), ()), (o.1, o.2.1, o.2.2.1, o.2.2.2.1, o.2.2.2.2.1, o.2.2.2.2.2.1, o.2.2.2.2.2.2.1, o.2.2.2.2.2.2.2.1, o.2.2.2.2.2.2.2.2.1, o.2.2.2.2.2.2.2.2.2.1, o.2.2.2.2.2.2.2.2.2.2.1, o.2.2.2.2.2.2.2.2.2.2.2.1, o.2.2.2.2.2.2.2.2.2.2.2.2.1, o.2.2.2.2.2.2.2.2.2.2.2.2.2.1, o.2.2.2.2.2.2.2.2.2.2.2.2.2.2.1, o.2.2.2.2.2.2.2.2.2.2.2.2.2.2.2.1, o.2.2.2.2.2.2.2.2.2.2.2.2.2.2.2.2, ()), ()))) ?_ ?_
    ·refine bind_of (bind_eq hpx rfl) ?_
     dsimp only
     rw [node_eq]
     simp only [Bool.not_true, cond_false]
     cases ho : !o.2.2.2.2.1 with
     | false => rfl
     | true => rw [cond_true, hyg ho]; rfl
    ·show k _ = _
     dsimp only
     rw [wr1 i (by omega)]
     exact hk (src.length - (i + 1)) _ (by omega) ⟨i + 1, by rw [hcnt], by omega, rfl⟩
   | false =>
    have hk0 : skipV (nd src i) o r ≠ 0 := by simpa using hsk
    have hna : m_laws_nodeAt (wantedV src o r) (nd src i).1 = some (dN, ()) := nodeAt_no (by omega) (wanted_no h.s3.sorted hmem hk0)
    refine bind_eq hna ?_
    dsimp only
    refine bind_eq hSI ?_
    dsimp only
    refine bind_of (bind_eq hSS rfl) ?_
    dsimp only
    rw [hsk]
    simp only [bne_self_eq_false, cond_false, Option.bind_some]
    rw [hsk, cond_false, Nat.add_zero] at hcnt
    show k _ = _
    dsimp only
    rw [wr1 i (by omega)]
    exact hk (src.length - (i + 1)) _ (by omega) ⟨i + 1, by rw [hcnt]; rfl, by omega, rfl⟩
  ·have : i = src.length := by omega
   subst this
   rw [decide_eq_false (by omega), cond_false, List.take_length]
 ·show Option.bind (bif ((src.filter (fun x => skipV x o r == 0)).length : Int) == ((wantedV src o r).length : Int) then _ else _) _ = _
  have e : (wantedV src o r).length = (src.filter (fun x => skipV x o r == 0)).length := by
   unfold wantedV filtW; rw [loneV_len, List.length_map]
  have hAW : AllS (wantedV src o r) := loneV_allS (allS_filtW h.s2 o r)
  rw [e, beq_self_eq_true, cond_true, impl_treeOk _ (smallS hAW (by omega)), Option.bind_some, treeS_of hRW]
  rfl
end Go.AM
