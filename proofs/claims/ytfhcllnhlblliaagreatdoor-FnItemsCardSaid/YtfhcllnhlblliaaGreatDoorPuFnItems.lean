/- The plain law: the model of the law answers true. -/
import Derived.Test.YtfhcllnhlblliaaGreatDoorPAFnItems
set_option linter.unusedVariables false
set_option linter.unusedSimpArgs false
namespace Go.AM
open Go
def zB : (Bool × Bool × Bool × Bool × Bool × Bool × Bool × Bool × Bool × Bool × Bool × Bool × Bool × Int × Bool × List UInt8 × List UInt8 × Unit) := (false, false, false, false, false, false, false, false, false, false, false, false, false, 0, false, [], [], ())
def oB (a b c d e ck so x f g h i j : Bool) (del : Int) (bk : Bool) (suf dir : List UInt8) : (Bool × Bool × Bool × Bool × Bool × Bool × Bool × Bool × Bool × Bool × Bool × Bool × Bool × Int × Bool × List UInt8 × List UInt8 × Unit) := (a, b, c, d, e, ck, so, x, f, g, h, i, j, del, bk, suf, dir, ())
theorem qVu (s : CurT) (h : Cur s) : ∃ r, qvf s = some r /\ qNd r.1 = true /\ (r.1.2.2.2.2.2.2.2.2.2.2.2.2.2.2.2.1.length <= 100 /\ r.1.2.2.2.2.2.2.2.2.2.2.2.2.2.2.2.2.length <= 100) /\ Cur r.2.1 := by
 unfold qvf
 refine qb (qW 6 (by omega) s h) ?_
 rintro ⟨f0, s0, u0⟩ h0
 refine qb (qW 4 (by omega) s0 h0) ?_
 rintro ⟨f1, s1, u1⟩ h1
 refine qb (qW 3 (by omega) s1 h1) ?_
 rintro ⟨f2, s2, u2⟩ h2
 refine qb (qW 3 (by omega) s2 h2) ?_
 rintro ⟨f3, s3, u3⟩ h3
 refine qb (qW 3 (by omega) s3 h3) ?_
 rintro ⟨f4, s4, u4⟩ h4
 refine qb (qW 4 (by omega) s4 h4) ?_
 rintro ⟨f5, s5, u5⟩ h5
 refine qb (qW 6 (by omega) s5 h5) ?_
 rintro ⟨f6, s6, u6⟩ h6
 refine qb (qW 10 (by omega) s6 h6) ?_
 rintro ⟨f7, s7, u7⟩ h7
 refine qb (qW 12 (by omega) s7 h7) ?_
 rintro ⟨f8, s8, u8⟩ h8
 refine qb (qW 3 (by omega) s8 h8) ?_
 rintro ⟨f9, s9, u9⟩ h9
 refine qb (qzb 5 (by omega) (by omega) s9 h9) ?_
 rintro ⟨q, s10, u10⟩ ⟨_, h10⟩
 dsimp only
 refine qb (Q := fun t => ∃ (ck so : Bool), t = (((), (), (), ()), s10, zB, oB (!f0) (!f1) (!f2) (!f3) f4 ck so false f5 f6 f7 f8 f9 0 false [] [], ()) /\ (ck && so) = false) ?_ ?_
 .cases q == 0 with
  | true => exact ⟨_, rfl, true, false, rfl, rfl⟩
  | false =>
   rw [cond_false];cases q == 1 with
   | true => exact ⟨_, rfl, false, true, rfl, rfl⟩
   | false => exact ⟨_, rfl, false, false, rfl, rfl⟩
 rintro t ⟨ck, so, rfl, hcs⟩
 unfold oB
 dsimp only
 refine qb (Q := fun t => ∃ (del : Int) (cu : CurT), t = (((), (), (), ()), cu, zB, oB (!f0) (!f1) (!f2) (!f3) f4 ck so false f5 f6 f7 f8 f9 del false [] [], ()) /\ (0 <= del /\ del <= 3) /\ (!(del == 0) && !(!f0)) = false /\ Cur cu) ?_ ?_
 .cases hf : !f0 with
  | true =>
   rw [cond_true];refine qb (qzb 4 (by omega) (by omega) s10 h10) ?_;rintro ⟨del, s11, u11⟩ ⟨hd, h11⟩;have hd : 0 <= del /\ del < 4 := hd;exact ⟨_, rfl, del, s11, rfl, by omega, by simp, h11⟩
  | false => exact ⟨_, rfl, 0, s10, rfl, by omega, rfl, h10⟩
 rintro t ⟨del, cu, rfl, hdel, hrec, hcu⟩
 unfold oB
 dsimp only
 refine qb (qW 4 (by omega) cu hcu) ?_
 rintro ⟨fb, s12, u12⟩ h12
 dsimp only
 have base : ∀ (bk : Bool) (suf dir : List UInt8), cond bk (qSi suf && ((dir == [] || qj dir) && !(suf == [] && dir == []))) (suf == [] && dir == []) = true -> qNd ((!f0), (!f1), (!f2), (!f3), f4, ck, so, false, f5, f6, f7, f8, f9, del, bk, suf, dir) = true := fun bk suf dir hb => by
  unfold qNd;dsimp only;rw [decide_eq_true (show del >= 0 from hdel.1), decide_eq_true hdel.2, hrec, hcs, hb]; rfl
 refine qb (Q := fun t => ∃ (bk : Bool) (suf dir : List UInt8) (c2 : CurT), t = (((), (), ()), c2, zB, oB (!f0) (!f1) (!f2) (!f3) f4 ck so false f5 f6 f7 f8 f9 del bk suf dir, ()) /\ cond bk (qSi suf && ((dir == [] || qj dir) && !(suf == [] && dir == []))) (suf == [] && dir == []) = true /\ suf.length <= 100 /\ dir.length <= 100 /\ Cur c2) ?_ ?_
 .cases fb with
  | false => exact ⟨_, rfl, false, [], [], s12, rfl, rfl, Nat.zero_le _, Nat.zero_le _, h12⟩
  | true =>
   rw [cond_true];refine qb (qcm _ (fun x => x = [46, 98, 97, 107] ∨ x = [46, 111, 108, 100] ∨ x = []) s12 (by decide) h12) ?_;rintro ⟨suf, s13, u13⟩ ⟨hsuf, h13⟩;have hsuf : suf = [46, 98, 97, 107] ∨ suf = [46, 111, 108, 100] ∨ suf = [] := hsuf;have hs1 : qSi suf = true := by rcases hsuf with rfl | rfl | rfl <;> decide
   have hs2 : suf.length <= 100 := by rcases hsuf with rfl | rfl | rfl <;> decide
   dsimp only;refine qb (Q := fun t => ∃ (f : Bool) (c2 : CurT), t = (((), (), (), f, ()), c2, zB, oB (!f0) (!f1) (!f2) (!f3) f4 ck so false f5 f6 f7 f8 f9 del true suf [], ()) /\ (f = false -> (suf == []) = false) /\ Cur c2) ?_ ?_
   .show ∃ r, (bif suf == [] then _ else _) = some r /\ _
    cases hsn : suf == [] with
    | true => exact ⟨_, rfl, true, s13, rfl, (fun e => by cases e), h13⟩
    | false =>
     rw [cond_false];refine qb (qW 2 (by omega) s13 h13) ?_;rintro ⟨f, s14, u14⟩ h14;exact ⟨_, rfl, f, s14, rfl, fun _ => rfl, h14⟩
   rintro t ⟨f, c2, rfl, hf, hc2⟩;unfold oB;dsimp only;refine qb (Q := fun t => ∃ (dir : List UInt8) (c3 : CurT), t = (((), (), ()), c3, zB, oB (!f0) (!f1) (!f2) (!f3) f4 ck so false f5 f6 f7 f8 f9 del true suf dir, ()) /\ ((dir == [] || qj dir) && !(suf == [] && dir == [])) = true /\ dir.length <= 100 /\ Cur c3) ?_ ?_
   .cases f with
    | false => exact ⟨_, rfl, [], c2, rfl, by rw [hf rfl]; rfl, Nat.zero_le _, hc2⟩
    | true =>
     rw [cond_true];refine qb (qcm _ (fun x => qj x = true /\ (x == []) = false /\ x.length <= 100) c2 (by decide) hc2) ?_;rintro ⟨dir, s15, u15⟩ ⟨⟨hd1, hd2, hd3⟩, h15⟩;have hd1 : qj dir = true := hd1;have hd2 : (dir == []) = false := hd2;exact ⟨_, rfl, dir, s15, rfl, by rw [hd1, hd2, Bool.and_false]; rfl, hd3, h15⟩
   rintro t ⟨dir, c3, rfl, hd, hd2, hc3⟩;exact ⟨_, rfl, true, suf, dir, c3, rfl, by rw [cond_true, hs1, hd]; rfl, hs2, hd2, hc3⟩
 rintro t ⟨bk, suf, dir, c2, rfl, hb, g1, g2, hc2⟩
 exact ⟨_, rfl, base bk suf dir hb, ⟨g1, g2⟩, hc2⟩
theorem qSy {p : List UInt8} (h : qQc p = some (true, ())) : patB p = true := by
 rw [qrp] at h
 simpa using h
def qZy (x : List UInt8) : Prop := patB x = true /\ (!edge x 0 && (!edge x (x.length - 1) && x.all (fun b => !(b == 32)))) = true /\ (10 : UInt8) ∉ x
theorem qcu (s : CurT) (h : Cur s) : ∃ r, quf s = some r /\ (qOe r.1 = true /\ noNl r.1) /\ Cur r.2.1 := by
 unfold quf
 refine qb (qEj _ s (by decide) h) ?_
 rintro ⟨k, s1, u1⟩ ⟨hk, h1⟩
 have hk2 : 0 <= k /\ k <= 3 := by simp only [List.mem_cons, List.not_mem_nil, or_false] at hk; omega
 refine qb (qW 3 (by omega) s1 h1) ?_
 rintro ⟨rt, s2, u2⟩ h2
 refine qb (qW 4 (by omega) s2 h2) ?_
 rintro ⟨di, s3, u3⟩ h3
 refine qb (qcm _ qZy s3 ⟨by decide, by decide, ?_⟩ h3) ?_
 .intro x hx
  simp only [List.mem_cons, List.not_mem_nil, or_false] at hx;rcases hx with rfl | rfl | rfl | rfl | rfl | rfl | rfl | rfl | rfl | rfl | rfl | rfl | rfl | rfl | rfl <;> exact ⟨qSy (by decide +kernel), by decide, by decide⟩
 rintro ⟨p, s4, u4⟩ ⟨⟨hp1, hp2, hp3⟩, h4⟩
 have hp1 : patB p = true := hp1
 refine ⟨_, rfl, ⟨?_, hp3⟩, h4⟩
 show qOe (k, rt, di, p) = true
 unfold qOe
 rw [show (k == 4) = false by rw [beq_eq_false_iff_ne]; omega, cond_false, decide_eq_true hk2, hp1, hp2]; rfl
theorem qVs (n : Int) (hn : 0 <= n /\ n < 7) (s : CurT) (h : Cur s) : ∃ r, qTe n s = some r /\ (∀ x ∈ r.2.2.1, qOe x = true /\ noNl x) /\ r.2.2.1.length <= 7 /\ Cur r.2.1 := by
 unfold qTe
 refine qb (Q := fun r => (∀ x ∈ r.2.2.1, qOe x = true /\ noNl x) /\ r.2.2.1.length <= 7 /\ Cur r.2.1) (qjc _ (fun c t => ∃ (j : Nat) (cu : CurT) (l : List quc), t = (((), n, (), (j : Int), ()), cu, l, ()) /\ (∀ x ∈ l, qOe x = true /\ noNl x) /\ l.length = j /\ (j : Int) <= n /\ Cur cu /\ c = n.toNat - j) _ ?_ _ n.toNat _ ⟨0, s, [], rfl, by simp, rfl, by omega, h, by omega⟩ (by omega)) ?_
 .rintro c t k ⟨j, cu, l, rfl, h1, h2, h3, h4, rfl⟩ hk
  dsimp only
  by_cases hl : (j : Int) < n
  .rw [decide_eq_true hl, cond_true]
   refine qb (qcu cu h4) ?_;rintro ⟨r, cu2, u2⟩ ⟨hr, hc2⟩;dsimp only;rw [if_pos (by simp only [List.length_cons, List.length_nil]; omega), wr1 j (by omega)];refine hk (n.toNat - (j + 1)) _ (by omega) ⟨j + 1, cu2, l ++ [r], rfl, ?_, by simp [h2], by omega, hc2, rfl⟩;intro x hx;rcases List.mem_append.1 hx with hx | hx
   .exact h1 x hx
   .rw [List.mem_singleton.1 hx]; exact hr
  .rw [decide_eq_false hl, cond_false]
   exact ⟨_, rfl, h1, by show l.length <= 7; omega, h4⟩
 .rintro ⟨⟨u1, u2⟩, cu, l, u3⟩ ⟨h1, h2, h3⟩
  exact ⟨_, rfl, h1, h2, h3⟩
structure Drawn2 (src dst : List qa) (o : qA) (rules : List quc) : Prop where
 s1 : src.length <= 14
 s2 : AllS src
 s3 : RightP src
 d1 : dst.length <= 20
 d2 : AllS dst
 d3 : RightP dst
 o1 : qNd o = true
 o2 : o.2.2.2.2.2.2.2.2.2.2.2.2.2.2.2.1.length <= 100
 o3 : o.2.2.2.2.2.2.2.2.2.2.2.2.2.2.2.2.length <= 100
 r1 : ∀ x ∈ rules, qOe x = true /\ noNl x
 r2 : rules.length <= 7
theorem qvv (c : List Int) (hc : c.length <= 1048576) : ∃ r, qIc c = some r /\ Drawn2 r.1.1 r.1.2.1 r.1.2.2.1 r.1.2.2.2.1 := by
 unfold qIc
 refine qb (Q := fun r => Drawn2 r.1.1 r.1.2.1 r.1.2.2.1 r.1.2.2.2.1) ?_ (fun r hr => ⟨_, rfl, hr⟩)
 unfold qgh
 refine qb (qOw c hc) ?_
 rintro ⟨u0, s0, u1⟩ h0
 refine qb (qks c hc) ?_
 rintro ⟨z, u2⟩ hz
 have hz : 1 <= z /\ z <= 12 := hz
 refine qb (qzb z (by omega) (by omega) s0 h0) ?_
 rintro ⟨b, s1, u3⟩ ⟨hb, h1⟩
 have hb : 0 <= b /\ b < z := hb
 dsimp only
 rw [wr (b + 1) (by omega)]
 refine qb (qqu (b + 1) (by omega) (by omega) s1 h1) ?_
 rintro ⟨⟨src, dst, u4⟩, s2, u5⟩ ⟨⟨a1, a2, a3⟩, ⟨b1, b2, b3⟩, h2⟩
 dsimp only
 refine qb (qVu s2 h2) ?_
 rintro ⟨o, s3, u6⟩ ⟨o1, ⟨o2, o3⟩, h3⟩
 dsimp only
 refine qb (qW 2 (by omega) s3 h3) ?_
 rintro ⟨f, s4, u7⟩ h4
 dsimp only
 refine qb (Q := fun t => ∃ (rules : List quc) (c5 : CurT), t = (((), (), src, dst, (), (), ()), zB, c5, (o.1, o.2.1, o.2.2.1, o.2.2.2.1, o.2.2.2.2.1, o.2.2.2.2.2.1, o.2.2.2.2.2.2.1, o.2.2.2.2.2.2.2.1, o.2.2.2.2.2.2.2.2.1, o.2.2.2.2.2.2.2.2.2.1, o.2.2.2.2.2.2.2.2.2.2.1, o.2.2.2.2.2.2.2.2.2.2.2.1, o.2.2.2.2.2.2.2.2.2.2.2.2.1, o.2.2.2.2.2.2.2.2.2.2.2.2.2.1, o.2.2.2.2.2.2.2.2.2.2.2.2.2.2.1, o.2.2.2.2.2.2.2.2.2.2.2.2.2.2.2.1, o.2.2.2.2.2.2.2.2.2.2.2.2.2.2.2.2, ()), rules, ()) /\ (∀ x ∈ rules, qOe x = true /\ noNl x) /\ rules.length <= 7) ?_ ?_
 .cases f with
  | false => exact ⟨_, rfl, [], s4, rfl, (fun x hx => by cases hx), Nat.zero_le _⟩
  | true =>
   rw [cond_true];refine qb (qzb 4 (by omega) (by omega) s4 h4) ?_;rintro ⟨m, s5, u8⟩ ⟨hm, h5⟩;have hm : 0 <= m /\ m < 4 := hm;refine qb (qVs m (by omega) s5 h5) ?_;rintro ⟨u9, s6, rules, u10⟩ ⟨hr1, hr2, h6⟩;exact ⟨_, rfl, rules, s6, rfl, hr1, hr2⟩
 rintro t ⟨rules, c5, rfl, hr1, hr2⟩
 exact ⟨_, rfl, ⟨a1, a2, a3, b1, b2, b3, o1, o2, o3, hr1, hr2⟩⟩
def qzj (o : qA) (x : qa) : qa := cond o.2.2.2.2.1 x (noG x)
def qwh (l : List qa) (o : qA) (r : List quc) : List qa := (l.filter (fun x => qUi x o r == 0)).map (qzj o)
def qC (l : List qa) (o : qA) (r : List quc) : List qa := qpc (qwh l o r)
theorem qKi (o : qA) (x : qa) : (qzj o x).1 = x.1 := by unfold qzj; cases o.2.2.2.2.1 <;> rfl
theorem qav (o : qA) (x : qa) : (qzj o x).2.1 = x.2.1 := by unfold qzj; cases o.2.2.2.2.1 <;> rfl
theorem qxu (o : qA) (x : qa) : (qzj o x).2.2.2.2.1 = x.2.2.2.2.1 := by unfold qzj; cases o.2.2.2.2.1 <;> rfl
theorem qUw (o : qA) {x : qa} (h : qt x = true) : qt (qzj o x) = true := by
 unfold qzj; cases o.2.2.2.2.1
 .exact qxp h
 .exact h
theorem qos {x y : qa} {o : qA} {r : List quc} (hx : qUi x o r = 0) (hp : qj x.1 = true) (h0 : qg x.1 ≠ []) (e1 : y.1 = qg x.1) (e2 : y.2.1 = 0) : qUi y o r = 0 := by
 obtain ⟨t, ht⟩ := (qIi hp).resolve_left h0
 unfold qUi at hx ⊢
 cases hh : qwe r x.1 (x.2.1 == 0) with
 | true => rw [hh] at hx; cases hx
 | false =>
  rw [hh, cond_false] at hx;have hs : qsk x.1 = true := by
   have := qnl hp;unfold qsk;rw [<- this, Bool.not_eq_true', beq_eq_false_iff_ne]; exact h0
  rw [hs, Bool.or_true, Bool.and_true] at hx;cases hr : o.1 with
  | false => rw [hr] at hx; cases hx
  | true =>
   have hy : qwe r y.1 true = false := by
    cases hc : qwe r y.1 true with
    | false => rfl
    | true =>
     have hlen : (qg x.1).length < x.1.length := by
      have := congrArg List.length ht;rw [List.length_append, List.length_cons] at this; omega
     have ht2 : x.1.take (qg x.1).length = qg x.1 := by
      conv => lhs; arg 2; rw [ht]
      rw [List.take_left']; rfl
     have hg : x.1.getD (qg x.1).length 0 = 47 := by
      conv => lhs; arg 1; rw [ht]
      rw [List.getD_eq_getElem?_getD, List.getElem?_append_right (Nat.le_refl _)];simp
     have := qOq r x.1 (x.2.1 == 0) (qg x.1).length hlen (by rw [hg]; rfl) (by rw [ht2, <- e1]; exact hc);rw [hh] at this; cases this
   rw [e2];simp only [show ((0 : Int) == 0) = true from rfl, hy, cond_false, Bool.not_true, Bool.false_and, show ((0 : Int) == 2) = false from rfl]
theorem qdt {l : List qa} (h : RightP l) (o : qA) (r : List quc) : RightQ (qwh l o r) := by
 have hm : ∀ y ∈ qwh l o r, ∃ x ∈ l, qUi x o r = 0 /\ y = qzj o x := fun y hy => by
  obtain ⟨x, hx, rfl⟩ := List.mem_map.1 hy;obtain ⟨h1, h2⟩ := List.mem_filter.1 hx;exact ⟨x, h1, by simpa using h2, rfl⟩
 refine ⟨fun y hy => ?_, ?_, fun y hy => ?_, fun x' hx' y' hy' hg he => ?_⟩
 .obtain ⟨x, hx, _, rfl⟩ := hm y hy
  exact qUw o (h.ok x hx)
 .have hs := qib.1 h.sorted
  rw [qib];unfold qwh;rw [List.pairwise_map];refine (hs.filter _).imp ?_;intro a b hab;rw [qKi, qKi]; exact hab
 .obtain ⟨x, hx, hk, rfl⟩ := hm y hy
  rw [qKi];rcases h.up x hx with e | ⟨z, hz, e1, e2⟩
  .exact .inl e
  .by_cases h0 : qg x.1 = []
   .exact .inl h0
   .refine .inr ⟨qzj o z, List.mem_map.2 ⟨z, List.mem_filter.2 ⟨hz, ?_⟩, rfl⟩, by rw [qKi]; exact e1, by rw [qav]; exact e2⟩
    rw [qos hk (qG (h.ok x hx)) h0 e1 e2]; rfl
 .obtain ⟨x, hx, _, rfl⟩ := hm x' hx'
  obtain ⟨y, hy, _, rfl⟩ := hm y' hy';unfold qzj at hg he ⊢;cases ho : o.2.2.2.2.1 with
  | false => rw [ho] at hg; exact absurd rfl hg
  | true =>
   rw [ho] at hg he;exact h.like x hx y hy hg he
theorem qXn (l : List qa) (o : qA) (r : List quc) : (qwh l o r).length <= l.length := by
 unfold qwh
 rw [List.length_map]; exact List.length_filter_le _ _
theorem qow (l : List qa) (o : qA) (r : List quc) : dsum (qwh l o r) <= dsum l := by
 have : dsum (qwh l o r) = dsum (l.filter (fun x => qUi x o r == 0)) := by
  unfold qwh dsum;rw [List.map_map];congr 1;exact List.map_congr_left fun x _ => congrArg List.length (qxu o x)
 rw [this]
 exact qjj _ _
theorem qJf {l : List qa} (h : RightP l) (o : qA) (r : List quc) : RightP (qC l o r) :=
 qcl (qdt h o r) (Nat.le_trans (qXn l o r) h.len) (Nat.le_trans (qow l o r) h.sum)
section
variable {src dst : List qa} {o : qA} {r : List quc}
theorem Drawn2.rules (h : Drawn2 src dst o r) : qHh r = true := by
 unfold qHh
 rw [decide_eq_true (by have := h.r2; omega), Bool.true_and, List.all_eq_true]
 exact fun x hx => (h.r1 x hx).1
theorem Drawn2.tree (h : Drawn2 src dst o r) : qrs src = true := qhm h.s3
end
def qOo (o : qA) (p : List UInt8) : List UInt8 := cond (!(o.2.2.2.2.2.2.2.2.2.2.2.2.2.2.2.2 == [])) (o.2.2.2.2.2.2.2.2.2.2.2.2.2.2.2.2 ++ [47] ++ (p ++ o.2.2.2.2.2.2.2.2.2.2.2.2.2.2.2.1)) (p ++ o.2.2.2.2.2.2.2.2.2.2.2.2.2.2.2.1)
def qB (o : qA) (p : List UInt8) : List UInt8 := cond (!(qNd o && (o.2.2.2.2.2.2.2.2.2.2.2.2.2.2.1 && qj p))) [] (cond (!qj (qOo o p)) [] (qOo o p))
theorem qXs (o : qA) (p : List UInt8) (h0 : p.length <= 1048576) (h1 : o.2.2.2.2.2.2.2.2.2.2.2.2.2.2.2.1.length <= 1048576) (h2 : o.2.2.2.2.2.2.2.2.2.2.2.2.2.2.2.2.length <= 1048576) : qBd o p = some (qB o p, ()) := by
 unfold qBd
 refine qz (x := ((p, (), !(qNd o && (o.2.2.2.2.2.2.2.2.2.2.2.2.2.2.1 && qj p)), ()), (o.1, o.2.1, o.2.2.1, o.2.2.2.1, o.2.2.2.2.1, o.2.2.2.2.2.1, o.2.2.2.2.2.2.1, o.2.2.2.2.2.2.2.1, o.2.2.2.2.2.2.2.2.1, o.2.2.2.2.2.2.2.2.2.1, o.2.2.2.2.2.2.2.2.2.2.1, o.2.2.2.2.2.2.2.2.2.2.2.1, o.2.2.2.2.2.2.2.2.2.2.2.2.1, o.2.2.2.2.2.2.2.2.2.2.2.2.2.1, o.2.2.2.2.2.2.2.2.2.2.2.2.2.2.1, o.2.2.2.2.2.2.2.2.2.2.2.2.2.2.2.1, o.2.2.2.2.2.2.2.2.2.2.2.2.2.2.2.2, ()), ())) ?_ ?_
 .refine qz (qrj o h1 h2) ?_
  dsimp only;rw [qMb];cases qNd o <;> cases o.2.2.2.2.2.2.2.2.2.2.2.2.2.2.1 <;> rfl
 .dsimp only
  unfold qB;cases !(qNd o && (o.2.2.2.2.2.2.2.2.2.2.2.2.2.2.1 && qj p)) with
  | true => rfl
  | false =>
   simp only [cond_false];rw [if_pos (by show _ < 9223372036854775808; omega)];refine qz (x := ((qOo o p, ()), ())) ?_ ?_
   .unfold qOo
    simp only [qc];cases !(o.2.2.2.2.2.2.2.2.2.2.2.2.2.2.2.2 == []) with
    | false => rfl
    | true =>
     simp only [cond_true];rw [if_pos (by show _ + 1 < 9223372036854775808; omega), if_pos (by simp only [List.length_append, List.length_cons, List.length_nil]; show _ < 9223372036854775808; omega)]
   .dsimp only
    rw [qMb, Option.bind_some];cases qj (qOo o p) <;> rfl
structure RightT (l : List qa) : Prop extends RightQ l where
 two : ∀ x ∈ l, gr x ≠ 0 -> 2 <= cnt l (gr x)
theorem RightP.t {l : List qa} (h : RightP l) : RightT l := ⟨h.q, h.two⟩
theorem RightT.p {l : List qa} (h : RightT l) (hl : l.length <= 200) (hs : dsum l <= 20000) : RightP l := ⟨hl, h.ok, h.sorted, h.up, h.like, h.two, hs⟩
theorem qpg {F : List qa} (h : RightQ F) : RightT (qpc F) := by
 rw [qki]
 refine ⟨⟨?_, ?_, ?_, ?_⟩, ?_⟩
 .intro y hy
  obtain ⟨x, hx, rfl⟩ := List.mem_map.1 hy;have := h.ok x hx;rcases qLb F x with e | ⟨e, _⟩
  .rw [e]; exact this
  .rw [e]; exact qxp this
 .have hs := qib.1 h.sorted
  rw [qib, List.pairwise_map];refine hs.imp ?_;intro a b hab;rw [qWb, qWb]; exact hab
 .intro y hy
  obtain ⟨x, hx, rfl⟩ := List.mem_map.1 hy;rw [qWb];rcases h.up x hx with e | ⟨z, hz, e1, e2⟩
  .exact .inl e
  .exact .inr ⟨qlf F z, List.mem_map.2 ⟨z, hz, rfl⟩, by rw [qWb]; exact e1, by rw [qNk]; exact e2⟩
 .intro x' hx' y' hy' hg he
  obtain ⟨x, hx, rfl⟩ := List.mem_map.1 hx';obtain ⟨y, hy, rfl⟩ := List.mem_map.1 hy';have ex := qHd hg;have ey := qHd (l := F) (x := y) (by rw [he]; exact hg);rw [ex] at hg he ⊢;rw [ey] at he ⊢;exact h.like x hx y hy hg he
 .intro x' hx hg
  obtain ⟨x, hx, rfl⟩ := List.mem_map.1 hx;have ex := qHd hg;have hg' := hg;rw [ex] at hg ⊢;have h2 : ¬cnt F (gr x) < 2 := by
   intro hlt;unfold qlf at hg';rw [decide_eq_true hlt] at hg';exact hg' rfl
  have : cnt (F.map (qlf F)) (gr x) = cnt F (gr x) := by
   unfold cnt;rw [List.filter_map, List.length_map];congr 1;refine List.filter_congr fun y hy => ?_
   show (gr (qlf F y) == gr x) = (gr y == gr x)
   rcases qLb F y with e | ⟨e, hlt⟩
   .rw [e]
   .rw [e]
    have a : (gr (noG y) == gr x) = false := by
     rw [beq_eq_false_iff_ne]; intro e2; exact hg e2.symm
    have b : (gr y == gr x) = false := by
     rw [beq_eq_false_iff_ne]; intro e2; rw [e2] at hlt; exact h2 hlt
    rw [a, b]
  rw [this]; omega
theorem qxv {p : List UInt8} (h : qj p = true) : qg p ≠ p := fun e => by
 have := qpj h
 rw [e, qrd] at this; cases this
theorem qzh {l : List qa} (h : RightQ l) {n : qa} (hok : qt n = true) (hg : gr n = 0) (hup : qg n.1 = [] ∨ ∃ y ∈ l, y.1 = qg n.1 /\ y.2.1 = 0)
    (hd : ∀ y ∈ l, y.1 = n.1 -> y.2.1 = 0 -> n.2.1 = 0 ∨ ∀ z ∈ l, qg z.1 ≠ n.1) : RightQ (putV l n) := by
 have hpn : qj n.1 = true := by
  unfold qt at hok;simp only [Bool.and_eq_true] at hok;exact hok.1.1
 have keep : ∀ y ∈ l, y.2.1 = 0 -> y.1 ≠ n.1 ∨ n.2.1 = 0 -> ∃ z ∈ putV l n, z.1 = y.1 /\ z.2.1 = 0 := fun y hy h0 hc => by
  by_cases e : y.1 = n.1
  .exact ⟨n, qYl l n, e.symm, hc.resolve_left (fun h => h e)⟩
  .exact ⟨y, qrf hy e, rfl, h0⟩
 refine ⟨fun x hx => ?_, qHm h.sorted n, fun x hx => ?_, fun x hx y hy h0 he => ?_⟩
 .rcases qmd hx with rfl | ⟨hx, _⟩
  .exact hok
  .exact h.ok x hx
 .rcases qmd hx with rfl | ⟨hx, _⟩
  .rcases hup with e | ⟨y, hy, e1, e2⟩
   .exact .inl e
   .obtain ⟨z, hz, f1, f2⟩ := keep y hy e2 (.inl (fun e => qxv hpn (e1.symm.trans e)))
    exact .inr ⟨z, hz, f1.trans e1, f2⟩
  .rcases h.up x hx with e | ⟨y, hy, e1, e2⟩
   .exact .inl e
   .have hc : y.1 ≠ n.1 ∨ n.2.1 = 0 := by
     by_cases e : y.1 = n.1
     .rcases hd y hy e e2 with h1 | h1
      .exact .inr h1
      .exact absurd (e1.symm.trans e) (h1 x hx)
     .exact .inl e
    obtain ⟨z, hz, f1, f2⟩ := keep y hy e2 hc;exact .inr ⟨z, hz, f1.trans e1, f2⟩
 .rcases qmd hx with rfl | ⟨hx, _⟩
  .exact absurd hg h0
  .rcases qmd hy with rfl | ⟨hy, _⟩
   .rw [hg] at he; exact absurd he.symm h0
   .exact h.like x hx y hy h0 he
theorem qwo {l : List qa} (h : RightQ l) (p : List UInt8) : RightQ (l.filter (qof p)) := by
 have hm : ∀ x, x ∈ l.filter (qof p) ↔ x ∈ l /\ qof p x = true := fun x => List.mem_filter
 refine ⟨fun x hx => h.ok x ((hm x).1 hx).1, ?_, fun x hx => ?_, fun x hx y hy => h.like x ((hm x).1 hx).1 y ((hm y).1 hy).1⟩
 .have hs := qib.1 h.sorted
  rw [qib];exact hs.filter _
 .obtain ⟨hxl, hxk⟩ := (hm x).1 hx
  rcases h.up x hxl with e | ⟨z, hz, e1, e2⟩
  .exact .inl e
  .by_cases h0 : qg x.1 = []
   .exact .inl h0
   .refine .inr ⟨z, (hm z).2 ⟨hz, ?_⟩, e1, e2⟩
    unfold qof at hxk ⊢;rw [Bool.not_eq_true'] at hxk ⊢;rw [e1];cases hu : qHb p (qg x.1) with
    | false => rfl
    | true =>
     have hpx : qj x.1 = true := by
      have := h.ok x hxl;unfold qt at this;simp only [Bool.and_eq_true] at this;exact this.1.1
     rw [qzl hpx h0 hu] at hxk; cases hxk
def getP (l : List qa) (p : List UInt8) : Option qa := (atO l p).map (nd l)
theorem qLg {l : List qa} {p : List UInt8} {x : qa} (h : getP l p = some x) : x ∈ l /\ x.1 = p := by
 unfold getP at h
 rcases qCi l p with ⟨i, e, hi, hp⟩ | ⟨e, _⟩
 .rw [e] at h
  simp only [Option.map_some, Option.some.injEq] at h;subst h;exact ⟨qNf hi, hp⟩
 .rw [e] at h; cases h
theorem qIm {l : List qa} {p : List UInt8} (h : getP l p = none) : ∀ x ∈ l, x.1 ≠ p := by
 unfold getP at h
 rcases qCi l p with ⟨i, e, hi, hp⟩ | ⟨_, hn⟩
 .rw [e] at h; cases h
 .intro x hx e
  obtain ⟨i, hi, rfl⟩ := qfk hx;exact hn i hi e
theorem qnk {l : List qa} (hs : qmc l) {x : qa} (hx : x ∈ l) : getP l x.1 = some x := by
 obtain ⟨i, hi, rfl⟩ := qfk hx
 unfold getP
 rw [show (nd l i).1 = pth l i from rfl, qkt hs hi]; rfl
theorem qCe (l : List qa) (p : List UInt8) : (getP l p = none /\ atV l p = -1) ∨ ∃ i : Nat, i < l.length /\ atV l p = i /\ getP l p = some (nd l i) := by
 unfold getP atV
 rcases qCi l p with ⟨i, e, hi, hp⟩ | ⟨e, _⟩
 .right; exact ⟨i, hi, by rw [e], by rw [e]; rfl⟩
 .left; rw [e]; exact ⟨rfl, rfl⟩
def qIe (l : List qa) (d : List UInt8) : Bool := l.any (fun x => qg x.1 == d)
abbrev qxb := Int × (List UInt8 × (qa × qa))
abbrev RefT := List UInt8 × Int
structure SV where
 tree : List qa
 ch : List qxb
 rf : List RefT
 trees : List (List qa)
 bad : Bool
def put1 (s : SV) (n : qa) : SV := { s with tree := qpc (putV s.tree n), bad := s.bad || !qrs (qpc (putV s.tree n)) }
def qBc (s : SV) (l : List qa) : SV := l.foldl put1 s
def upL (T : List qa) : Nat -> List UInt8 -> Option (List (List UInt8))
 | 0, _ => some []
 | n + 1, p => if p = [] then some [] else match getP T p with
  | none => (upL T n (qg p)).map (p :: ·)
  | some d => if d.2.1 = 0 then upL T n (qg p) else none
def dirN (now : Int) (p : List UInt8) : qa := (p, 0, 493, now, [], [], 0)
def qQd (o : qA) (now : Int) (T : List qa) (d : qa) : List qa :=
 if qB o d.1 = [] ∨ d.2.1 = 0 then [] else
 match upL T 200 (qg (qB o d.1)) with
 | none => []
 | some ups => match getP T (qB o d.1) with
  | some x => if x.2.1 = 0 then [] else ups.reverse.map (dirN now) ++ [(qB o d.1, d.2.1, d.2.2.1, d.2.2.2.1, d.2.2.2.2.1, d.2.2.2.2.2.1, 0)]
  | none => ups.reverse.map (dirN now) ++ [(qB o d.1, d.2.1, d.2.2.1, d.2.2.2.1, d.2.2.2.2.1, d.2.2.2.2.2.1, 0)]
def chg (s : SV) (c : qxb) : SV := { s with ch := s.ch ++ [c], trees := s.trees ++ [s.tree] }
def delV (o : qA) (now : Int) (s : SV) (p : List UInt8) : SV :=
 match getP s.tree p with
 | none => s
 | some d => if d.2.1 = 0 /\ qIe s.tree p = true then s else
  let s1 := qBc s (qQd o now s.tree d)
  chg { s1 with tree := qpc (s1.tree.filter (qof p)) } (0, d.1, d, ([], 0, 0, 0, [], [], 0))
def refV (o : qA) (T : List qa) (n : qa) : Int :=
 match getP T n.1 with
 | none => if o.2.2.2.2.2.2.2.2.2.2.1 = true then 1 else 0
 | some d => if n.2.1 = 0 then 0 else if o.2.2.2.2.2.2.2.2.2.2.2.1 = true then 2
  else if o.2.2.2.2.2.2.2.2.2.1 = true /\ n.2.1 = 1 /\ d.2.1 = 1 /\ d.2.2.2.1 > n.2.2.2.1 then 3
  else if d.2.1 = 0 /\ qIe T n.1 = true then 4 else 0
def qGt (a b : qa) (o : qA) : Bool :=
 if a.2.1 = 1 /\ b.2.1 = 1 /\ a.2.2.2.2.1.length = b.2.2.2.2.1.length then
  (if o.2.2.2.2.2.1 = true then a.2.2.2.2.1 == b.2.2.2.2.1 else if o.2.2.2.2.2.2.1 = true then true else a.2.2.2.1 == b.2.2.2.1)
 else false
def qjh (n d : qa) (o : qA) : Bool := (d.2.1 == n.2.1) && ((n.2.1 == 0) || ((n.2.1 == 1) && qGt n d o) || ((n.2.1 == 2) && (d.2.2.2.2.2.1 == n.2.2.2.2.2.1)))
def newV (o : qA) (now : Int) (n : qa) (d : Option qa) : qa :=
 match d with
 | none => (n.1, n.2.1, n.2.2.1, if o.2.2.2.1 = true then n.2.2.2.1 else now, n.2.2.2.2.1, n.2.2.2.2.2.1, 0)
 | some d => (n.1, n.2.1, if d.2.1 = n.2.1 /\ o.2.2.1 = false then d.2.2.1 else n.2.2.1,
     if o.2.2.2.1 = true then n.2.2.2.1 else if qjh n d o = true then d.2.2.2.1 else now,
     if qjh n d o = true then d.2.2.2.2.1 else n.2.2.2.2.1, n.2.2.2.2.2.1, 0)
def qje (o : qA) (now : Int) (n : qa) (d : Option qa) : Int :=
 match d with
 | none => 1
 | some d => if d.2.1 ≠ n.2.1 then 4 else if qjh n d o = false then 2 else
  if (newV o now n (some d)).2.2.1 = d.2.2.1 /\ (newV o now n (some d)).2.2.2.1 = d.2.2.2.1 then -1 else 3
def qxc (o : qA) (now : Int) (s : SV) (n : qa) : SV :=
 if refV o s.tree n ≠ 0 then { s with rf := s.rf ++ [(n.1, refV o s.tree n)] } else
 let d := getP s.tree n.1
 let k := qje o now n d
 if k = -1 then s else
 let s1 := if k = 2 ∨ k = 4 then qBc s (qQd o now s.tree (d.getD dN)) else s
 chg (put1 s1 (newV o now n d)) (k, n.1, d.getD dN, newV o now n d)
theorem qCn {x : qa} (h : qt x = true) : x.2.2.2.2.1.length <= 20000 /\ x.2.2.2.2.2.1.length <= 60 := by
 unfold qt at h
 rw [Bool.and_eq_true] at h
 have h2 := h.2
 unfold qbc at h2
 cases h0 : x.2.1 == 0 with
 | true =>
  rw [h0] at h2;simp only [cond_true, Bool.and_eq_true, beq_iff_eq] at h2;rw [h2.1, h2.2.1]; simp
 | false =>
  rw [h0] at h2;simp only [cond_false] at h2;cases h1 : x.2.1 == 1 with
  | true =>
   rw [h1] at h2;simp only [cond_true, Bool.and_eq_true, beq_iff_eq, decide_eq_true_eq] at h2;rw [h2.2.1];exact ⟨by omega, by simp⟩
  | false =>
   rw [h1] at h2;simp only [cond_false] at h2;cases h3 : x.2.1 == 2 with
   | true =>
    rw [h3] at h2;unfold inI at h2;simp only [cond_true, Bool.and_eq_true, beq_iff_eq, decide_eq_true_eq] at h2;rw [h2.1.1];have := h2.1.2.2.2.2;exact ⟨by simp, by omega⟩
   | false => rw [h3] at h2; cases h2
theorem qlt {l : List qa} (h : ∀ x ∈ l, qt x = true) (hl : l.length <= 1000000) : qmx l := ⟨by omega, fun x hx => by
 have := qCn (h x hx); omega⟩
theorem qji {l : List qa} (hs : qmc l) (n : qa) : (putV l n).length <= l.length + 1 := by
 obtain ⟨j, hp⟩ := qgm l hs n.1
 exact qkq hp
theorem qjn (s : SV) (t0 : List qa) (n : qa) (h : RightQ (putV s.tree n)) (hs : qmc s.tree) (hl : s.tree.length <= 900000) :
    qFd n (s.tree, (), (), (), s.bad, (), ()) t0 s.ch s.rf s.trees = some ((), ((put1 s n).tree, (), (), (), (put1 s n).bad, (), ()), t0, s.ch, s.rf, s.trees, ()) := by
 unfold qFd
 have hlen := qji hs n
 have hT := qpg h
 rw [qHg s.tree hs (by omega) n, Option.bind_some]
 dsimp only
 rw [qkg _ (by omega), Option.bind_some]
 dsimp only
 rw [qAh _ (qlt hT.ok (by rw [qkd]; omega)), Option.bind_some]
 dsimp only
 unfold put1
 cases qrs (qpc (putV s.tree n)) <;> cases s.bad <;> rfl
theorem qgn (s : SV) (t0 : List qa) (k : Int) (a b : qa) (h1 : s.ch.length <= 1000000) (h2 : s.tree.length <= 1000000) (h3 : s.trees.length <= 1000000) :
    qSc k a b (s.tree, (), (), (), s.bad, (), ()) t0 s.ch s.rf s.trees =
     some ((), (s.tree, (), (), (), s.bad, (), ()), t0, (chg s (k, (if k = 0 then a.1 else b.1), a, b)).ch, s.rf, (chg s (k, a.1, a, b)).trees, ()) := by
 unfold qSc chg
 by_cases hk : k = 0
 .subst hk
  rw [if_pos rfl];simp only [beq_self_eq_true, cond_true, Option.bind_some];rw [if_pos (by simp only [List.length_cons, List.length_nil]; omega), if_pos (by omega), if_pos (by simp only [List.length_cons, List.length_nil]; omega)]
 .rw [if_neg hk]
  have : (k == 0) = false := beq_eq_false_iff_ne.2 hk;simp only [this, cond_false, Option.bind_some];rw [if_pos (by simp only [List.length_cons, List.length_nil]; omega), if_pos (by omega), if_pos (by simp only [List.length_cons, List.length_nil]; omega)]
theorem qQm (l : List qa) (hl : l.length <= 1000000) (d : List UInt8) : qNc l d = some (qIe l d, ()) := by
 unfold qNc
 refine qbb (qu _ (fun n t => ∃ i : Nat, t = ((l, d, (i : Int), ()), ()) /\ i <= l.length /\ n = l.length - i)
  (fun t => some (if (l.drop t.1.2.2.1.toNat).any (fun x => qg x.1 == d) then .inr (true, ()) else .inl ((), ()))) ?_ _ l.length _ ⟨0, rfl, by omega, rfl⟩ (by omega)) ?_
 .rintro n t k ⟨i, rfl, hi, rfl⟩ hk
  dsimp only
  by_cases hlt : i < l.length
  .rw [decide_eq_true (by omega), cond_true, if_pos (by omega), Int.toNat_natCast, qpf, Option.bind_some]
   dsimp only;have hd : (l.drop i).any (fun x => qg x.1 == d) = ((qg (l.getD i dN).1 == d) || (l.drop (i + 1)).any (fun x => qg x.1 == d)) := by
    rw [List.getD_eq_getElem?_getD, List.getElem?_eq_getElem hlt, List.drop_eq_getElem_cons hlt, List.any_cons]; rfl
   rw [hd];cases hc : qg (l.getD i dN).1 == d with
   | true =>
    have hc' : (qg (l.getD i (qc UInt8, Int.ofNat (nat_lit 0), Int.ofNat (nat_lit 0), Int.ofNat (nat_lit 0), qc UInt8, qc UInt8, Int.ofNat (nat_lit 0))).1 == d) = true := hc
    first | rw [hc'] | simp only [hc']
    rfl
   | false =>
    have hc' : (qg (l.getD i (qc UInt8, Int.ofNat (nat_lit 0), Int.ofNat (nat_lit 0), Int.ofNat (nat_lit 0), qc UInt8, qc UInt8, Int.ofNat (nat_lit 0))).1 == d) = false := hc
    first | rw [hc'] | simp only [hc']
    rw [cond_false, wr1 _ (by omega), hk (l.length - (i + 1)) _ (by omega) ⟨i + 1, rfl, by omega, rfl⟩];dsimp only;rw [Int.toNat_natCast, Bool.false_or]
  .obtain rfl : i = l.length := by omega
   rw [decide_eq_false (by omega), cond_false, Int.toNat_natCast, List.drop_length]; rfl
 .show qVb (some (if (l.drop 0).any _ = true then _ else _)) _ = _
  rw [List.drop_zero];unfold qIe;cases l.any (fun x => qg x.1 == d) <;> rfl
theorem qNu (a b : qa) (o : qA) : qTg a b o = some (qGt a b o, ()) := by
 unfold qTg qGt
 by_cases h1 : a.2.1 = 1
 .by_cases h2 : b.2.1 = 1
  .by_cases h3 : a.2.2.2.2.1.length = b.2.2.2.2.1.length
   .rw [if_pos ⟨h1, h2, h3⟩]
    simp only [h1, h2, bne_self_eq_false, cond_false, Option.bind_some];have : (((a.2.2.2.2.1.length : Nat) : Int) != ((b.2.2.2.2.1.length : Nat) : Int)) = false := by rw [h3]; simp
    rw [this];cases o.2.2.2.2.2.1 <;> cases o.2.2.2.2.2.2.1 <;> simp
   .rw [if_neg (fun h => h3 h.2.2)]
    simp only [h1, h2, bne_self_eq_false, cond_false, Option.bind_some];have : (((a.2.2.2.2.1.length : Nat) : Int) != ((b.2.2.2.2.1.length : Nat) : Int)) = true := by rw [bne_iff_ne]; omega
    rw [this]; rfl
  .rw [if_neg (fun h => h2 h.2.1)]
   have : (b.2.1 != 1) = true := by rw [bne_iff_ne]; exact h2
   simp only [h1, this, bne_self_eq_false, cond_false, cond_true, Option.bind_some]
 .rw [if_neg (fun h => h1 h.1)]
  have : (a.2.1 != 1) = true := by rw [bne_iff_ne]; exact h1
  simp only [this, cond_true, Option.bind_some]
abbrev zN : qa := (qc UInt8, Int.ofNat (nat_lit 0), Int.ofNat (nat_lit 0), Int.ofNat (nat_lit 0), qc UInt8, qc UInt8, Int.ofNat (nat_lit 0))
theorem qwr (T : List qa) (hl : T.length <= 1000000) (o : qA) (n : qa) : qId T o n (atV T n.1) = some (refV o T n, ()) := by
 unfold qId refV
 rcases qCe T n.1 with ⟨e1, e2⟩ | ⟨i, hi, e1, e2⟩
 .rw [e1, e2]
  rw [decide_eq_true (by omega), cond_true];cases h : o.2.2.2.2.2.2.2.2.2.2.1 <;> rfl
 .rw [e2, e1]
  rw [decide_eq_false (by omega), cond_false];have hg : List.getD T (Int.toNat ((i : Nat) : Int)) zN = nd T i := by rw [Int.toNat_natCast]; rfl
  have hb : (0 : Int) <= (i : Int) /\ (i : Int) < (T.length : Int) := by omega
  have hst := qQm T hl n.1;dsimp only
  by_cases hk : n.2.1 = 0
  .rw [if_pos hk]
   have : (n.2.1 == 0) = true := by rw [hk]; rfl
   rw [this]; rfl
  .rw [if_neg hk]
   have : (n.2.1 == 0) = false := beq_eq_false_iff_ne.2 hk;rw [this, cond_false];cases h11 : o.2.2.2.2.2.2.2.2.2.2.2.1 with
   | true => rw [if_pos rfl]; rfl
   | false =>
    simp only [cond_false, Bool.false_eq_true, if_false];refine qbb (x := some (if o.2.2.2.2.2.2.2.2.2.1 = true /\ n.2.1 = 1 /\ (nd T i).2.1 = 1 /\ (nd T i).2.2.2.1 > n.2.2.2.1 then (Sum.inr ((3 : Int), ()) : (Unit × Unit) ⊕ (Int × Unit)) else if (nd T i).2.1 = 0 /\ qIe T n.1 = true then Sum.inr ((4 : Int), ()) else Sum.inl ((), ()))) ?_ ?_
    .refine qbb (x := some (if o.2.2.2.2.2.2.2.2.2.1 = true /\ n.2.1 = 1 /\ (nd T i).2.1 = 1 /\ (nd T i).2.2.2.1 > n.2.2.2.1 then (Sum.inr (Sum.inr ((3 : Int), ())) : (Unit × Unit) ⊕ ((Unit × Unit) ⊕ (Int × Unit))) else if (nd T i).2.1 = 0 /\ qIe T n.1 = true then Sum.inr (Sum.inr ((4 : Int), ())) else Sum.inl ((), ()))) ?_ ?_
     .refine ql (x := some ((T, (i : Int), (), decide (o.2.2.2.2.2.2.2.2.2.1 = true /\ n.2.1 = 1 /\ (nd T i).2.1 = 1 /\ (nd T i).2.2.2.1 > n.2.2.2.1), ()), (n.1, n.2.1, n.2.2.1, n.2.2.2.1, n.2.2.2.2.1, n.2.2.2.2.2.1, n.2.2.2.2.2.2, ()), ())) ?_ ?_
      .cases h10 : o.2.2.2.2.2.2.2.2.2.1 with
       | false => rw [cond_false, decide_eq_false (fun h => by cases h.1)]
       | true =>
        rw [cond_true]
        by_cases hn1 : n.2.1 = 1
        .rw [show (n.2.1 == 1) = true by rw [hn1]; rfl, cond_true, if_pos hb, hg]
         by_cases hd1 : (nd T i).2.1 = 1
         .rw [show ((nd T i).2.1 == 1) = true by rw [hd1]; rfl, cond_true, if_pos hb]
          congr 6;exact decide_eq_decide.2 ⟨fun h => ⟨rfl, hn1, hd1, h⟩, fun h => h.2.2.2⟩
         .rw [show ((nd T i).2.1 == 1) = false from beq_eq_false_iff_ne.2 hd1, cond_false, decide_eq_false (fun h => hd1 h.2.2.1)]
        .rw [show (n.2.1 == 1) = false from beq_eq_false_iff_ne.2 hn1, cond_false, decide_eq_false (fun h => hn1 h.2.1)]
      .rw [Option.bind_some]
       dsimp only
       by_cases hX : o.2.2.2.2.2.2.2.2.2.1 = true /\ n.2.1 = 1 /\ (nd T i).2.1 = 1 /\ (nd T i).2.2.2.1 > n.2.2.2.1
       .rw [decide_eq_true hX, if_pos hX]; rfl
       .rw [decide_eq_false hX, if_neg hX, cond_false, if_pos hb, hg]
        by_cases hd : (nd T i).2.1 = 0
        .rw [show ((nd T i).2.1 == 0) = true by rw [hd]; rfl, cond_true, hst, Option.bind_some, Option.bind_some]
         dsimp only;cases hs : qIe T n.1 with
         | true => rw [if_pos ⟨hd, rfl⟩]; rfl
         | false => rw [if_neg (fun h => by cases h.2)]; rfl
        .rw [show ((nd T i).2.1 == 0) = false from beq_eq_false_iff_ne.2 hd, cond_false, if_neg (fun h => hd h.1)]; rfl
     .split
      .rfl
      .split <;> rfl
    .split
     .rfl
     .split <;> rfl
theorem qNt : ∀ {x : List UInt8}, (∀ b ∈ x, b ≠ 47) -> split x = [x]
 | [], _ => rfl
 | c :: r, h => by
  rw [qlb (h c (List.mem_cons_self ..)), qNt (fun b hb => h b (List.mem_cons_of_mem _ hb))]; rfl
theorem qWr : ∀ {x s : List UInt8}, (∀ b ∈ x, b ≠ 47) -> split (x ++ 47 :: s) = x :: split s
 | [], s, _ => by rw [List.nil_append, qQb rfl]
 | c :: r, s, h => by
  rw [List.cons_append, qlb (h c (List.mem_cons_self ..)), qWr (fun b hb => h b (List.mem_cons_of_mem _ hb))]; rfl
theorem qIn : ∀ {l : List (List UInt8)}, l ≠ [] -> (∀ x ∈ l, ∀ b ∈ x, b ≠ 47) -> split (qhd l) = l
 | [], h, _ => absurd rfl h
 | [x], _, h => qNt (h x (List.mem_cons_self ..))
 | x :: y :: r, _, h => by
  show split (x ++ 47 :: qhd (y :: r)) = _
  rw [qWr (h x (List.mem_cons_self ..)), qIn (by simp) (fun z hz => h z (List.mem_cons_of_mem _ hz))]
theorem qgr {x : List UInt8} (h : qCb x = true) : ∀ b ∈ x, b ≠ 47 := by
 intro b hb e
 unfold qCb at h
 simp only [Bool.and_eq_true] at h
 have := List.all_eq_true.1 h.2.2.2 b hb
 subst e
 revert this; decide
theorem qxe {p : List UInt8} (h : p ≠ []) : (qg p).length < p.length := by
 by_cases hp : qj p = true
 .rcases qIi hp with e | ⟨t, ht⟩
  .rw [e]; exact List.length_pos_iff.2 h
  .have := congrArg List.length ht
   rw [List.length_append, List.length_cons] at this; omega
 .have : qg p = [] := by
   unfold qg;rw [qOi, if_neg hp]; rfl
  rw [this]; exact List.length_pos_iff.2 h
theorem qgi {q : List UInt8} (hq : qj q = true) (h0 : qg q ≠ []) : qj (qg q) = true := by
 have hn := qek hq
 have he : qg q = qhd (split q).dropLast := by unfold qg; rw [hn]
 have hl : (split q).dropLast ≠ [] := fun e => h0 (by rw [he, e]; rfl)
 have hq' := hq
 unfold qj at hq'
 simp only [Bool.and_eq_true, decide_eq_true_eq] at hq'
 obtain ⟨h1, h2, h3⟩ := hq'
 have hall : ∀ x ∈ (split q).dropLast, qCb x = true := fun x hx => List.all_eq_true.1 h3 x (List.dropLast_subset _ hx)
 have hs : split (qg q) = (split q).dropLast := by
  rw [he]; exact qIn hl (fun x hx => qgr (hall x hx))
 have hlt := qxe (p := q) (fun e => h0 (by rw [e]; rfl))
 unfold qj
 rw [hs]
 simp only [Bool.and_eq_true, decide_eq_true_eq]
 refine ⟨by omega, by rw [List.length_dropLast]; omega, List.all_eq_true.2 hall⟩
theorem qgk {p : List UInt8} (h : qj p = true) : p ≠ [] := by
 intro e; subst e; revert h; decide
theorem qzw {p : List UInt8} (h : qj p = true) {now : Int} (hn : 0 <= now /\ now <= 1000000000) : qt (dirN now p) = true := by
 unfold qt dirN inI qbc
 simp [h, hn]
theorem qgx {d : qa} (h : qt d = true) {p : List UInt8} (hp : qj p = true) : qt (p, d.2.1, d.2.2.1, d.2.2.2.1, d.2.2.2.2.1, d.2.2.2.2.2.1, 0) = true := by
 have h2 := qxp h
 unfold qt at h2 ⊢
 rw [Bool.and_eq_true] at h2 ⊢
 refine ⟨?_, h2.2⟩
 have h3 := h2.1
 rw [Bool.and_eq_true] at h3 ⊢
 exact ⟨hp, h3.2⟩
structure Grown (T : List qa) (L : Nat) (B : Nat) (T' : List qa) : Prop where
 right : RightT T'
 old : ∀ y ∈ T, ∃ z ∈ T', noG z = noG y
 new : ∀ z ∈ T', (∃ y ∈ T, noG z = noG y) ∨ (z.2.1 = 0 /\ z.1.length <= L)
 len : T'.length <= T.length + B
theorem qmb {a b : qa} (h : noG a = noG b) : a.1 = b.1 /\ a.2.1 = b.2.1 /\ a.2.2.1 = b.2.2.1 /\ a.2.2.2.1 = b.2.2.2.1 /\ a.2.2.2.2.1 = b.2.2.2.2.1 /\ a.2.2.2.2.2.1 = b.2.2.2.2.2.1 := by
 unfold noG at h
 simp only [Prod.mk.injEq] at h
 exact ⟨h.1, h.2.1, h.2.2.1, h.2.2.2.1, h.2.2.2.2.1, h.2.2.2.2.2.1⟩
theorem qot (l : List qa) (x : qa) : noG (qlf l x) = noG x := by
 rcases qLb l x with e | ⟨e, _⟩ <;> rw [e]; rfl
theorem qUt {l : List qa} {z : qa} (h : z ∈ qpc l) : ∃ x ∈ l, noG z = noG x := by
 rw [qki] at h
 obtain ⟨x, hx, rfl⟩ := List.mem_map.1 h
 exact ⟨x, hx, qot l x⟩
theorem qLi {l : List qa} {x : qa} (h : x ∈ l) : ∃ z ∈ qpc l, noG z = noG x := by
 rw [qki]
 exact ⟨_, List.mem_map.2 ⟨x, h, rfl⟩, qot l x⟩
theorem qPg (s : SV) (a b : List qa) : qBc s (a ++ b) = qBc (qBc s a) b := by unfold qBc; rw [List.foldl_append]
theorem qxw (s : SV) (n : qa) : (put1 s n).tree = qpc (putV s.tree n) := rfl
theorem qRi (l : List qa) : ∀ s : SV, (qBc s l).ch = s.ch /\ (qBc s l).rf = s.rf /\ (qBc s l).trees = s.trees := by
 induction l with
 | nil => exact fun s => ⟨rfl, rfl, rfl⟩
 | cons n l ih => exact fun s => ih (put1 s n)
theorem qYp (T : List qa) (hT : RightT T) (now : Int) (hn : 0 <= now /\ now <= 1000000000) : ∀ (f : Nat) (p : List UInt8) (l : List (List UInt8)), upL T f p = some l -> p.length < f -> (p = [] ∨ qj p = true) ->
    ∀ s : SV, s.tree = T -> Grown T p.length l.length (qBc s (l.reverse.map (dirN now))).tree /\ (p = [] ∨ ∃ z ∈ (qBc s (l.reverse.map (dirN now))).tree, z.1 = p /\ z.2.1 = 0) /\ l.length <= p.length := by
 intro f
 induction f with
 | zero => intro p l _ h; omega
 | succ f ih =>
  intro p l h hp hok s hs;unfold upL at h;have base : ∀ L, Grown T L 0 s.tree := fun L => ⟨by rw [hs]; exact hT, fun y hy => ⟨y, by rw [hs]; exact hy, rfl⟩, fun z hz => .inl ⟨z, by rw [<- hs]; exact hz, rfl⟩, by rw [hs]; omega⟩
  by_cases h0 : p = []
  .rw [if_pos h0] at h
   simp only [Option.some.injEq] at h;subst h;exact ⟨base _, .inl h0, by simp⟩
  .rw [if_neg h0] at h
   have hpok := hok.resolve_left h0;have hlt := qxe h0;have hpar : qg p = [] ∨ qj (qg p) = true := by
    by_cases e : qg p = []
    .exact .inl e
    .exact .inr (qgi hpok e)
   cases hg : getP T p with
   | none =>
    rw [hg] at h;simp only at h;obtain ⟨l', h1, rfl⟩ := Option.map_eq_some_iff.1 h;obtain ⟨g, hd, hl⟩ := ih (qg p) l' h1 (by omega) hpar s hs;rw [List.reverse_cons, List.map_append, qPg];generalize qBc s (l'.reverse.map (dirN now)) = s' at g hd;have hno : ∀ y ∈ s'.tree, y.1 ≠ p := by
     intro y hy e;rcases g.new y hy with ⟨x, hx, e2⟩ | ⟨_, e2⟩
     .exact qIm hg x hx ((qmb e2).1.symm.trans e)
     .rw [e] at e2; omega
    have hq : RightQ (putV s'.tree (dirN now p)) := qzh g.right.toRightQ (qzw hpok hn) rfl (by
     rcases hd with e | ⟨z, hz, e1, e2⟩
     .exact .inl e
     .exact .inr ⟨z, hz, e1, e2⟩) (fun y hy e _ => .inl rfl)
    show Grown T p.length (l'.length + 1) (qpc (putV s'.tree (dirN now p))) /\ (p = [] ∨ ∃ z ∈ qpc (putV s'.tree (dirN now p)), z.1 = p /\ z.2.1 = 0) /\ l'.length + 1 <= p.length
    refine ⟨⟨qpg hq, fun y hy => ?_, fun z hz => ?_, ?_⟩, .inr ?_, by omega⟩
    .obtain ⟨z, hz, e⟩ := g.old y hy
     obtain ⟨z', hz', e'⟩ := qLi (qrf (n := dirN now p) hz (hno z hz));exact ⟨z', hz', e'.trans e⟩
    .obtain ⟨x, hx, e⟩ := qUt hz
     rcases qmd hx with rfl | ⟨hx, _⟩
     .right
      exact ⟨(qmb e).2.1, by rw [(qmb e).1]; exact Nat.le_refl _⟩
     .rcases g.new x hx with ⟨y, hy, e2⟩ | ⟨e2, e3⟩
      .exact .inl ⟨y, hy, e.trans e2⟩
      .exact .inr ⟨(qmb e).2.1.trans e2, by rw [(qmb e).1]; omega⟩
    .rw [qkd]
     have := qji g.right.sorted (dirN now p);have := g.len;omega
    .obtain ⟨z, hz, e⟩ := qLi (qYl s'.tree (dirN now p))
     exact ⟨z, hz, (qmb e).1, (qmb e).2.1⟩
   | some d =>
    rw [hg] at h;simp only at h;obtain ⟨hdm, hdp⟩ := qLg hg
    by_cases hk : d.2.1 = 0
    .rw [if_pos hk] at h
     obtain ⟨g, hd, hl⟩ := ih (qg p) l h (by omega) hpar s hs;obtain ⟨z, hz, e⟩ := g.old d hdm;exact ⟨⟨g.right, g.old, fun z hz => (g.new z hz).imp id (fun e => ⟨e.1, by omega⟩), g.len⟩, .inr ⟨z, hz, (qmb e).1.trans hdp, (qmb e).2.1.trans hk⟩, by omega⟩
    .rw [if_neg hk] at h; cases h
theorem qIx (T : List qa) : ∀ (f g : Nat) (p : List UInt8), p.length < f -> p.length < g -> upL T f p = upL T g p := by
 intro f
 induction f with
 | zero => intro g p h; omega
 | succ f ih =>
  intro g p h1 h2;cases g with
  | zero => omega
  | succ g =>
   unfold upL
   by_cases h0 : p = []
   .rw [if_pos h0, if_pos h0]
   .rw [if_neg h0, if_neg h0]
    have := qxe h0;rw [ih g (qg p) (by omega) (by omega)]
theorem qAm {o : qA} {p : List UInt8} (h : qB o p ≠ []) : qj (qB o p) = true := by
 unfold qB at h ⊢
 cases h1 : !(qNd o && (o.2.2.2.2.2.2.2.2.2.2.2.2.2.2.1 && qj p)) with
 | true => rw [h1] at h; exact absurd rfl h
 | false =>
  rw [h1] at h;rw [cond_false] at h ⊢;cases h2 : !qj (qOo o p) with
  | true => rw [h2] at h; exact absurd rfl h
  | false =>
   rw [cond_false];simpa using h2
theorem qhx {T : List qa} {L B : Nat} {T' : List qa} (g : Grown T L B T') {p : List UInt8} (hg : getP T p = none) (hpok : qj p = true) (hL : L < p.length) (hd : qg p = [] ∨ ∃ z ∈ T', z.1 = qg p /\ z.2.1 = 0) {now : Int} (hn : 0 <= now /\ now <= 1000000000) :
    RightQ (putV T' (dirN now p)) :=
 qzh g.right.toRightQ (qzw hpok hn) rfl (by
  rcases hd with e | ⟨z, hz, e1, e2⟩
  .exact .inl e
  .exact .inr ⟨z, hz, e1, e2⟩) (fun y hy e _ => .inl rfl)
theorem qEu (T : List qa) : ∀ (f : Nat) (p : List UInt8) (l : List (List UInt8)), upL T f p = some l -> p.length < f -> (p = [] ∨ qj p = true) ->
    ∀ i (hi : i < l.length), ∃ f', upL T f' (qg (l[i])) = some (l.drop (i + 1)) /\ (qg (l[i])).length < f' /\ getP T (l[i]) = none /\ qj (l[i]) = true /\ (l[i]).length <= p.length := by
 intro f
 induction f with
 | zero => intro p l _ h; omega
 | succ f ih =>
  intro p l h hp hok i hi;unfold upL at h
  by_cases h0 : p = []
  .rw [if_pos h0] at h
   simp only [Option.some.injEq] at h;subst h; simp at hi
  .rw [if_neg h0] at h
   have hpok := hok.resolve_left h0;have hlt := qxe h0;have hpar : qg p = [] ∨ qj (qg p) = true := by
    by_cases e : qg p = []
    .exact .inl e
    .exact .inr (qgi hpok e)
   cases hg : getP T p with
   | none =>
    rw [hg] at h;simp only at h;obtain ⟨l', h1, rfl⟩ := Option.map_eq_some_iff.1 h;cases i with
    | zero => exact ⟨f, h1, by show (qg p).length < f; omega, hg, hpok, Nat.le_refl _⟩
    | succ i =>
     obtain ⟨f', g1, g2, g3, g4, g5⟩ := ih (qg p) l' h1 (by omega) hpar i (by simpa using hi);exact ⟨f', g1, g2, g3, g4, by show (l'[i]'(by simpa using hi)).length <= p.length; omega⟩
   | some d =>
    rw [hg] at h;simp only at h
    by_cases hk : d.2.1 = 0
    .rw [if_pos hk] at h
     obtain ⟨f', g1, g2, g3, g4, g5⟩ := ih (qg p) l h (by omega) hpar i hi;exact ⟨f', g1, g2, g3, g4, by omega⟩
    .rw [if_neg hk] at h; cases h
theorem qvd (T : List qa) (i : Nat) : List.getD T (Int.toNat ((i : Nat) : Int)) zN = nd T i := by rw [Int.toNat_natCast]; rfl
theorem qsu {α : Type} {l : List α} {j : Nat} (h : j < l.length) : l.drop j = l[j] :: l.drop (j + 1) := List.drop_eq_getElem_cons h
set_option maxHeartbeats 1000000 in
theorem qlr (o : qA) (ho1 : o.2.2.2.2.2.2.2.2.2.2.2.2.2.2.2.1.length <= 1048576) (ho2 : o.2.2.2.2.2.2.2.2.2.2.2.2.2.2.2.2.length <= 1048576) (now : Int) (hn : 0 <= now /\ now <= 1000000000) (d : qa) (hd : qt d = true) (s : SV) (t0 : List qa) (hT : RightT s.tree) (hl : s.tree.length <= 800000)
    (hq : RightQ (putV (qBc s ((qQd o now s.tree d).dropLast)).tree ((qQd o now s.tree d).getLastD dN)) ∨ qQd o now s.tree d = []) :
    qfe o now d (s.tree, (), (), (), s.bad, (), ()) t0 s.ch s.rf s.trees =
     some ((), ((qBc s (qQd o now s.tree d)).tree, (), (), (), (qBc s (qQd o now s.tree d)).bad, (), ()), t0, s.ch, s.rf, s.trees, ()) := by
 have hdp := qad (qG hd)
 unfold qfe
 rw [qXs o d.1 (by omega) ho1 ho2, Option.bind_some]
 dsimp only
 refine ql (x := some (((), now, (), qB o d.1, decide (qB o d.1 = [] ∨ d.2.1 = 0), ()), (s.tree, (), (), (), s.bad, (), ()), t0, s.ch, s.rf, s.trees, (d.1, d.2.1, d.2.2.1, d.2.2.2.1, d.2.2.2.2.1, d.2.2.2.2.2.1, d.2.2.2.2.2.2, ()), ())) ?_ ?_
 .by_cases hb : qB o d.1 = []
  .rw [show (qB o d.1 == qc UInt8) = true by rw [hb]; rfl, cond_true, decide_eq_true (.inl hb)]
  .rw [show (qB o d.1 == qc UInt8) = false from beq_eq_false_iff_ne.2 hb, cond_false]
   by_cases hk : d.2.1 = 0
   .rw [decide_eq_true (.inr hk), show (d.2.1 == 0) = true by rw [hk]; rfl]
   .rw [decide_eq_false (fun h => h.elim hb hk), show (d.2.1 == 0) = false from beq_eq_false_iff_ne.2 hk]
 .rw [Option.bind_some]
  dsimp only
  by_cases hc : qB o d.1 = [] ∨ d.2.1 = 0
  .have hk : qQd o now s.tree d = [] := by unfold qQd; rw [if_pos hc]
   rw [decide_eq_true hc, cond_true, hk]; rfl
  .have hb : qB o d.1 ≠ [] := fun h => hc (.inl h)
   have hbok := qAm hb;have hbl := qad hbok;have hpl := qxe (qgk hbok);have hpar : qg (qB o d.1) = [] ∨ qj (qg (qB o d.1)) = true := by
    by_cases e : qg (qB o d.1) = []
    .exact .inl e
    .exact .inr (qgi hbok e)
   rw [decide_eq_false hc, cond_false, qpf, Option.bind_some];dsimp only;refine qbb (x := some (match upL s.tree 200 (qg (qB o d.1)) with
    | none => Sum.inr ((), (s.tree, (), (), (), s.bad, (), ()), t0, s.ch, s.rf, s.trees, ())
    | some l => Sum.inl (((), now, (), qB o d.1, (), ()), (s.tree, (), (), (), s.bad, (), ()), t0, s.ch, s.rf, s.trees, (d.1, d.2.1, d.2.2.1, d.2.2.2.1, d.2.2.2.2.1, d.2.2.2.2.2.1, d.2.2.2.2.2.2, ()), l, ()))) ?_ ?_
   .refine (qu _ (fun n t => ∃ (up : List UInt8) (acc : List (List UInt8)), t = (((), now, (), qB o d.1, (), up, ()), (s.tree, (), (), (), s.bad, (), ()), t0, s.ch, s.rf, s.trees, (d.1, d.2.1, d.2.2.1, d.2.2.2.1, d.2.2.2.2.1, d.2.2.2.2.2.1, d.2.2.2.2.2.2, ()), acc, ()) /\ acc.length + up.length <= 168 /\ n = up.length)
     (fun t => some (match upL s.tree 200 t.1.2.2.2.2.2.1 with
      | none => Sum.inr ((), (s.tree, (), (), (), s.bad, (), ()), t0, s.ch, s.rf, s.trees, ())
      | some l => Sum.inl (((), now, (), qB o d.1, (), ()), (s.tree, (), (), (), s.bad, (), ()), t0, s.ch, s.rf, s.trees, (d.1, d.2.1, d.2.2.1, d.2.2.2.1, d.2.2.2.2.1, d.2.2.2.2.2.1, d.2.2.2.2.2.2, ()), t.2.2.2.2.2.2.2.1 ++ l, ())))
     ?_ _ (qg (qB o d.1)).length _ ⟨qg (qB o d.1), [], rfl, by simp; omega, rfl⟩ (by omega)).trans ?_
    .rintro n t k ⟨up, acc, rfl, hacc, rfl⟩ hk
     dsimp only;have hrec : ∀ acc', acc'.length + (qg up).length <= 168 -> up ≠ [] -> k (((), now, (), qB o d.1, (), qg up, ()), (s.tree, (), (), (), s.bad, (), ()), t0, s.ch, s.rf, s.trees, (d.1, d.2.1, d.2.2.1, d.2.2.2.1, d.2.2.2.2.1, d.2.2.2.2.2.1, d.2.2.2.2.2.2, ()), acc', ()) = some (match upL s.tree 199 (qg up) with
         | none => Sum.inr ((), (s.tree, (), (), (), s.bad, (), ()), t0, s.ch, s.rf, s.trees, ())
         | some l => Sum.inl (((), now, (), qB o d.1, (), ()), (s.tree, (), (), (), s.bad, (), ()), t0, s.ch, s.rf, s.trees, (d.1, d.2.1, d.2.2.1, d.2.2.2.1, d.2.2.2.2.1, d.2.2.2.2.2.1, d.2.2.2.2.2.2, ()), acc' ++ l, ())) := by
      intro acc' ha hne;have hlt := qxe hne;rw [hk (qg up).length _ hlt ⟨qg up, acc', rfl, ha, rfl⟩];dsimp only;rw [qIx s.tree 199 200 (qg up) (by omega) (by omega)]
     by_cases h0 : up = []
     .rw [show (!up == qc UInt8) = false by rw [h0]; rfl, cond_false]
      have : upL s.tree 200 up = some [] := by unfold upL; rw [if_pos h0]
      rw [this];dsimp only;rw [List.append_nil]
     .rw [show (!up == qc UInt8) = true by rw [Bool.not_eq_true']; exact beq_eq_false_iff_ne.2 h0, cond_true, qFh s.tree (by omega), Option.bind_some]
      dsimp only;have hlt := qxe h0;rcases qCe s.tree up with ⟨e1, e2⟩ | ⟨i, hi, e1, e2⟩
      .rw [e2, decide_eq_true (by omega), cond_true, if_pos (by simp only [List.length_cons, List.length_nil]; omega), qTc]
       dsimp only;rw [qpf, Option.bind_some];rw [hrec (acc ++ [up]) (by simp; omega) h0];have : upL s.tree 200 up = (upL s.tree 199 (qg up)).map (up :: ·) := by
        conv => lhs; unfold upL
        rw [if_neg h0, e1]
       rw [this];cases upL s.tree 199 (qg up) with
       | none => rfl
       | some l => dsimp only [Option.map_some]; rw [List.append_assoc]; rfl
      .rw [e1, decide_eq_false (by omega), cond_false, if_pos (by omega), qvd]
       have hup : upL s.tree 200 up = if (nd s.tree i).2.1 = 0 then upL s.tree 199 (qg up) else none := by
        conv => lhs; unfold upL
        rw [if_neg h0, e2]
       by_cases hk0 : (nd s.tree i).2.1 = 0
       .rw [show ((nd s.tree i).2.1 != 0) = false by rw [hk0]; rfl, cond_false, qTc]
        dsimp only;rw [qpf, Option.bind_some];rw [hrec acc (by omega) h0, hup, if_pos hk0]
       .rw [show ((nd s.tree i).2.1 != 0) = true by rw [bne_iff_ne]; exact hk0, cond_true, hup, if_neg hk0]; rfl
    .dsimp only
     cases upL s.tree 200 (qg (qB o d.1)) <;> rfl
   .cases hu : upL s.tree 200 (qg (qB o d.1)) with
    | none =>
     have hk : qQd o now s.tree d = [] := by unfold qQd; rw [if_neg hc, hu]
     rw [hk]; rfl
    | some ups =>
     rw [qTc];dsimp only;rw [qFh s.tree (by omega), Option.bind_some];dsimp only;obtain ⟨hgr, hdir, hul⟩ := qYp s.tree hT now hn 200 (qg (qB o d.1)) ups hu (by omega) hpar s rfl;refine ql (x := some (((), now, (), qB o d.1, (), (match getP s.tree (qB o d.1) with | none => false | some x => x.2.1 == 0), ()), (s.tree, (), (), (), s.bad, (), ()), t0, s.ch, s.rf, s.trees, (d.1, d.2.1, d.2.2.1, d.2.2.2.1, d.2.2.2.2.1, d.2.2.2.2.2.1, d.2.2.2.2.2.2, ()), ups, ())) ?_ ?_
     .rcases qCe s.tree (qB o d.1) with ⟨e1, e2⟩ | ⟨i, hi, e1, e2⟩
      .rw [e2, decide_eq_false (by omega), cond_false, e1]
      .rw [e1, decide_eq_true (by omega), cond_true, if_pos (by omega), qvd, e2]
     .rw [Option.bind_some]
      dsimp only;have hflag : (match getP s.tree (qB o d.1) with | none => false | some x => x.2.1 == 0) = true /\ qQd o now s.tree d = [] ∨
          (match getP s.tree (qB o d.1) with | none => false | some x => x.2.1 == 0) = false /\ qQd o now s.tree d = ups.reverse.map (dirN now) ++ [(qB o d.1, d.2.1, d.2.2.1, d.2.2.2.1, d.2.2.2.2.1, d.2.2.2.2.2.1, 0)] := by
       unfold qQd;rw [if_neg hc, hu];cases getP s.tree (qB o d.1) with
       | none => right; exact ⟨rfl, rfl⟩
       | some x =>
        by_cases hx : x.2.1 = 0
        .left; exact ⟨by show (x.2.1 == 0) = true; rw [hx]; rfl, by show (if x.2.1 = 0 then _ else _) = _; rw [if_pos hx]⟩
        .right; exact ⟨beq_eq_false_iff_ne.2 hx, by show (if x.2.1 = 0 then _ else _) = _; rw [if_neg hx]⟩
      rcases hflag with ⟨hf, hk⟩ | ⟨hf, hk⟩
      .rw [hf, cond_true, hk]; rfl
      .rw [hf, cond_false]
       rw [hk] at hq ⊢;have hq' : RightQ (putV (qBc s (ups.reverse.map (dirN now))).tree (qB o d.1, d.2.1, d.2.2.1, d.2.2.2.1, d.2.2.2.2.1, d.2.2.2.2.2.1, 0)) := by
        rcases hq with hq | hq
        .rw [List.dropLast_concat, List.getLastD_concat] at hq
         exact hq
        .simp at hq
       have hch := qRi (ups.reverse.map (dirN now)) s;refine ql (x := some (((), (), qB o d.1, ()), ((qBc s (ups.reverse.map (dirN now))).tree, (), (), (), (qBc s (ups.reverse.map (dirN now))).bad, (), ()), t0, s.ch, s.rf, s.trees, (d.1, d.2.1, d.2.2.1, d.2.2.2.1, d.2.2.2.2.1, d.2.2.2.2.2.1, d.2.2.2.2.2.2, ()), ())) ?_ ?_
       .refine (qu _ (fun n t => ∃ (j : Nat) (s' : SV), t = (((), now, (), qB o d.1, (), ((j : Int) - 1), ()), (s'.tree, (), (), (), s'.bad, (), ()), t0, s.ch, s.rf, s.trees, (d.1, d.2.1, d.2.2.1, d.2.2.2.1, d.2.2.2.2.1, d.2.2.2.2.2.1, d.2.2.2.2.2.2, ()), ups, ()) /\ s' = qBc s ((ups.drop j).reverse.map (dirN now)) /\ j <= ups.length /\ n = j)
         (fun _ => some (((), (), qB o d.1, ()), ((qBc s (ups.reverse.map (dirN now))).tree, (), (), (), (qBc s (ups.reverse.map (dirN now))).bad, (), ()), t0, s.ch, s.rf, s.trees, (d.1, d.2.1, d.2.2.1, d.2.2.2.1, d.2.2.2.2.1, d.2.2.2.2.2.1, d.2.2.2.2.2.2, ()), ())) ?_ _ ups.length _ ⟨ups.length, s, by rw [wr _ (by omega)], by rw [List.drop_length]; rfl, Nat.le_refl _, rfl⟩ (by omega))
        rintro j t k ⟨_, s', rfl, hs', hj, rfl⟩ hk2;dsimp only;cases j with
        | zero =>
         rw [decide_eq_false (by omega), cond_false, hs', List.drop_zero]
        | succ j =>
         rw [decide_eq_true (by omega), cond_true, if_pos (by omega), if_pos (by omega)];have hjt : Int.toNat (((j + 1 : Nat) : Int) - 1) = j := by omega
         rw [hjt];have hgd : List.getD ups j (qc UInt8) = ups[j]'(by omega) := by
          rw [List.getD_eq_getElem?_getD, List.getElem?_eq_getElem (by omega)]; rfl
         rw [hgd];obtain ⟨f', g1, g2, g3, g4, g5⟩ := qEu s.tree 200 (qg (qB o d.1)) ups hu (by omega) hpar j (by omega);have hpar2 : qg (ups[j]'(by omega)) = [] ∨ qj (qg (ups[j]'(by omega))) = true := by
          by_cases e : qg (ups[j]'(by omega)) = []
          .exact .inl e
          .exact .inr (qgi g4 e)
         obtain ⟨hg2, hd2, _⟩ := qYp s.tree hT now hn f' (qg (ups[j]'(by omega))) (ups.drop (j + 1)) g1 g2 hpar2 s rfl;rw [<- hs'] at hg2 hd2;have hlt := qxe (qgk g4);have hstep := qhx hg2 g3 g4 hlt hd2 hn;have hlen := hg2.len;rw [List.length_drop] at hlen;have hch' : s'.ch = s.ch /\ s'.rf = s.rf /\ s'.trees = s.trees := by rw [hs']; exact qRi _ s
         have hp1 := qjn s' t0 (dirN now (ups[j]'(by omega))) hstep hg2.right.sorted (by omega);rw [hch'.1, hch'.2.1, hch'.2.2] at hp1;refine ql hp1 ?_;rw [Option.bind_some];dsimp only;rw [show IntKind.wrap IntKind.i64 (((j + 1 : Nat) : Int) - 1 - 1) = ((j : Nat) : Int) - 1 by rw [wr _ (by omega)]; omega];exact hk2 j _ (by omega) ⟨j, put1 s' (dirN now (ups[j]'(by omega))), rfl, by rw [qsu (show j < ups.length by omega), List.reverse_cons, List.map_append, qPg, <- hs']; rfl, by omega, rfl⟩
       .rw [Option.bind_some]
        dsimp only;have hlen := hgr.len;have hp1 := qjn (qBc s (ups.reverse.map (dirN now))) t0 _ hq' hgr.right.sorted (by omega);rw [hch.1, hch.2.1, hch.2.2] at hp1;refine ql hp1 ?_;rw [Option.bind_some, qPg];rfl
def qyl (o : qA) (d : qa) : qa := (qB o d.1, d.2.1, d.2.2.1, d.2.2.2.1, d.2.2.2.2.1, d.2.2.2.2.2.1, 0)
structure Kept (o : qA) (d : qa) (T T' : List qa) : Prop where
 right : RightT T'
 len : T'.length <= T.length + 170
 dirs : ∀ y ∈ T, y.2.1 = 0 -> ∃ z ∈ T', noG z = noG y
 old : ∀ y ∈ T, y.1 ≠ qB o d.1 -> ∃ z ∈ T', noG z = noG y
 new : ∀ z ∈ T', (∃ y ∈ T, noG z = noG y) ∨ (z.2.1 = 0 /\ z.1.length < (qB o d.1).length) ∨ noG z = qyl o d
theorem qAu (o : qA) (now : Int) (T : List qa) (d : qa) : qQd o now T d = [] ∨
    (d.2.1 ≠ 0 /\ qj (qB o d.1) = true /\ (∀ y ∈ T, y.1 = qB o d.1 -> qmc T -> y.2.1 ≠ 0) /\ ∃ ups, upL T 200 (qg (qB o d.1)) = some ups /\ qQd o now T d = ups.reverse.map (dirN now) ++ [qyl o d]) := by
 unfold qQd
 by_cases hc : qB o d.1 = [] ∨ d.2.1 = 0
 .left; rw [if_pos hc]
 .rw [if_neg hc]
  cases hu : upL T 200 (qg (qB o d.1)) with
  | none => left; rfl
  | some ups =>
   have hb : qB o d.1 ≠ [] := fun h => hc (.inl h)
   cases hg : getP T (qB o d.1) with
   | none => right; exact ⟨fun h => hc (.inr h), qAm hb, fun y hy e => absurd e (qIm hg y hy), ups, rfl, rfl⟩
   | some x =>
    dsimp only
    by_cases hx : x.2.1 = 0
    .left; rw [if_pos hx]
    .right
     rw [if_neg hx];refine ⟨fun h => hc (.inr h), qAm hb, fun y hy e hs => ?_, ups, rfl, rfl⟩;have := qnk hs hy;rw [e, hg] at this;simp only [Option.some.injEq] at this;rw [<- this]; exact hx
theorem qHk {T : List qa} (hT : RightT T) {d : qa} (hd : qt d = true) (o : qA) {now : Int} (hn : 0 <= now /\ now <= 1000000000) (s : SV) (hs : s.tree = T) :
    Kept o d T (qBc s (qQd o now T d)).tree /\ (RightQ (putV (qBc s ((qQd o now T d).dropLast)).tree ((qQd o now T d).getLastD dN)) ∨ qQd o now T d = []) := by
 rcases qAu o now T d with h | ⟨h1, h2, h3, ups, hu, hk⟩
 .rw [h]
  refine ⟨⟨by rw [show qBc s [] = s from rfl, hs]; exact hT, by rw [show qBc s [] = s from rfl, hs]; omega, fun y hy _ => ⟨y, by rw [show qBc s [] = s from rfl, hs]; exact hy, rfl⟩, fun y hy _ => ⟨y, by rw [show qBc s [] = s from rfl, hs]; exact hy, rfl⟩, fun z hz => .inl ⟨z, by rw [show qBc s [] = s from rfl, hs] at hz; exact hz, rfl⟩⟩, .inr rfl⟩
 .have hbl := qad h2
  have hpl := qxe (qgk h2);have hpar : qg (qB o d.1) = [] ∨ qj (qg (qB o d.1)) = true := by
   by_cases e : qg (qB o d.1) = []
   .exact .inl e
   .exact .inr (qgi h2 e)
  obtain ⟨hgr, hdir, hul⟩ := qYp T hT now hn 200 (qg (qB o d.1)) ups hu (by omega) hpar s hs;rw [hk, List.dropLast_concat, List.getLastD_concat, qPg];generalize qBc s (ups.reverse.map (dirN now)) = s' at hgr hdir;have hno : ∀ y ∈ s'.tree, y.1 = qB o d.1 -> y.2.1 ≠ 0 := by
   intro y hy e;rcases hgr.new y hy with ⟨x, hx, e2⟩ | ⟨_, e2⟩
   .rw [(qmb e2).2.1]
    exact h3 x hx ((qmb e2).1.symm.trans e) hT.sorted
   .rw [e] at e2; omega
  have hq : RightQ (putV s'.tree (qyl o d)) := qzh hgr.right.toRightQ (qgx hd h2) rfl (by
   rcases hdir with e | ⟨z, hz, e1, e2⟩
   .exact .inl e
   .exact .inr ⟨z, hz, e1, e2⟩) (fun y hy e h0 => absurd h0 (hno y hy e))
  refine ⟨?_, .inl hq⟩
  show Kept o d T (qpc (putV s'.tree (qyl o d)))
  refine ⟨qpg hq, ?_, fun y hy h0 => ?_, fun y hy hne => ?_, fun z hz => ?_⟩
  .rw [qkd]
   have := qji hgr.right.sorted (qyl o d);have := hgr.len;omega
  .obtain ⟨z, hz, e⟩ := hgr.old y hy
   obtain ⟨z', hz', e'⟩ := qLi (qrf (n := qyl o d) hz (fun e2 => hno z hz e2 ((qmb e).2.1.trans h0)));exact ⟨z', hz', e'.trans e⟩
  .obtain ⟨z, hz, e⟩ := hgr.old y hy
   obtain ⟨z', hz', e'⟩ := qLi (qrf (n := qyl o d) hz (fun e2 => hne ((qmb e).1.symm.trans e2)));exact ⟨z', hz', e'.trans e⟩
  .obtain ⟨x, hx, e⟩ := qUt hz
   rcases qmd hx with rfl | ⟨hx, _⟩
   .exact .inr (.inr e)
   .rcases hgr.new x hx with ⟨y, hy, e2⟩ | ⟨e2, e3⟩
    .exact .inl ⟨y, hy, e.trans e2⟩
    .exact .inr (.inl ⟨(qmb e).2.1.trans e2, by rw [(qmb e).1]; omega⟩)
set_option maxHeartbeats 1000000 in
theorem qts (o : qA) (ho1 : o.2.2.2.2.2.2.2.2.2.2.2.2.2.2.2.1.length <= 1048576) (ho2 : o.2.2.2.2.2.2.2.2.2.2.2.2.2.2.2.2.length <= 1048576) (now : Int) (hn : 0 <= now /\ now <= 1000000000) (p : List UInt8) (s : SV) (t0 : List qa) (hT : RightT s.tree) (hl : s.tree.length <= 700000) (h1 : s.ch.length <= 900000) (h3 : s.trees.length <= 900000) :
    qge o now p (s.tree, (), (), (), s.bad, (), ()) t0 s.ch s.rf s.trees =
     some ((), ((delV o now s p).tree, (), (), (), (delV o now s p).bad, (), ()), t0, (delV o now s p).ch, s.rf, (delV o now s p).trees, ()) := by
 unfold qge
 rw [qFh s.tree (by omega), Option.bind_some]
 dsimp only
 rcases qCe s.tree p with ⟨e1, e2⟩ | ⟨i, hi, e1, e2⟩
 .rw [e2]
  have hdv : delV o now s p = s := by unfold delV; rw [e1]
  rw [decide_eq_true (by omega), cond_true, Option.bind_some, hdv]; rfl
 .rw [e1]
  obtain ⟨hm, hpp⟩ := qLg e2;have hnok := hT.ok _ hm;refine ql (x := some (((), now, p, (), (i : Int), decide ((nd s.tree i).2.1 = 0 /\ qIe s.tree p = true), ()), (s.tree, (), (), (), s.bad, (), ()), t0, s.ch, s.rf, s.trees, (o.1, o.2.1, o.2.2.1, o.2.2.2.1, o.2.2.2.2.1, o.2.2.2.2.2.1, o.2.2.2.2.2.2.1, o.2.2.2.2.2.2.2.1, o.2.2.2.2.2.2.2.2.1, o.2.2.2.2.2.2.2.2.2.1, o.2.2.2.2.2.2.2.2.2.2.1, o.2.2.2.2.2.2.2.2.2.2.2.1, o.2.2.2.2.2.2.2.2.2.2.2.2.1, o.2.2.2.2.2.2.2.2.2.2.2.2.2.1, o.2.2.2.2.2.2.2.2.2.2.2.2.2.2.1, o.2.2.2.2.2.2.2.2.2.2.2.2.2.2.2.1, o.2.2.2.2.2.2.2.2.2.2.2.2.2.2.2.2, ()), ())) ?_ ?_
  .rw [decide_eq_false (by omega), cond_false, if_pos (by omega), qvd]
   by_cases h0 : (nd s.tree i).2.1 = 0
   .rw [show ((nd s.tree i).2.1 == 0) = true by rw [h0]; rfl, cond_true, qQm s.tree (by omega), Option.bind_some]
    cases hst : qIe s.tree p with
    | true => rw [decide_eq_true ⟨h0, rfl⟩]
    | false => rw [decide_eq_false (fun h => by cases h.2)]
   .rw [show ((nd s.tree i).2.1 == 0) = false from beq_eq_false_iff_ne.2 h0, cond_false, decide_eq_false (fun h => h0 h.1)]
  .rw [Option.bind_some]
   dsimp only
   by_cases hc : (nd s.tree i).2.1 = 0 /\ qIe s.tree p = true
   .have hdv : delV o now s p = s := by unfold delV; rw [e2]; dsimp only; rw [if_pos hc]
    rw [decide_eq_true hc, cond_true, hdv]
   .rw [decide_eq_false hc, cond_false, if_pos (by omega), qvd]
    obtain ⟨hk, hq⟩ := qHk hT hnok o hn s rfl;refine ql (qlr o ho1 ho2 now hn (nd s.tree i) hnok s t0 hT (by omega) hq) ?_;rw [Option.bind_some];dsimp only;have hch := qRi (qQd o now s.tree (nd s.tree i)) s;have hdv : delV o now s p = chg { qBc s (qQd o now s.tree (nd s.tree i)) with tree := qpc ((qBc s (qQd o now s.tree (nd s.tree i))).tree.filter (qof p)) } (0, (nd s.tree i).1, nd s.tree i, ([], 0, 0, 0, [], [], 0)) := by
     unfold delV; rw [e2]; dsimp only; rw [if_neg hc]
    rw [hdv];generalize qBc s (qQd o now s.tree (nd s.tree i)) = s1 at hk hch;have hlen := hk.len;have hall : AllP s1.tree := fun j hj => qG (hk.right.ok _ (qNf hj))
    have hpok : qj p = true := by rw [<- hpp]; exact qG hnok
    refine ql (qvl s1.tree (by omega) hall p hpok) ?_;rw [Option.bind_some];dsimp only;have hlf : (qpc (s1.tree.filter (qof p))).length <= 1000000 := by
     rw [qkd];have := List.length_filter_le (qof p) s1.tree;omega
    have hcs := qgn { s1 with tree := qpc (s1.tree.filter (qof p)) } t0 0 (nd s.tree i) ([], 0, 0, 0, [], [], 0) (by rw [hch.1]; omega) hlf (by rw [hch.2.2]; omega);rw [if_pos rfl] at hcs;dsimp only at hcs;rw [hch.2.1, hch.1, hch.2.2] at hcs;refine ql hcs ?_;rw [Option.bind_some];unfold chg;dsimp only;rw [hch.1, hch.2.2]
@[reducible] def TN (n : qa) : List UInt8 × Int × Int × Int × List UInt8 × List UInt8 × Int × Unit := (n.1, n.2.1, n.2.2.1, n.2.2.2.1, n.2.2.2.2.1, n.2.2.2.2.2.1, n.2.2.2.2.2.2, ())
@[reducible] def TO (o : qA) : Bool × Bool × Bool × Bool × Bool × Bool × Bool × Bool × Bool × Bool × Bool × Bool × Bool × Int × Bool × List UInt8 × List UInt8 × Unit :=
 (o.1, o.2.1, o.2.2.1, o.2.2.2.1, o.2.2.2.2.1, o.2.2.2.2.2.1, o.2.2.2.2.2.2.1, o.2.2.2.2.2.2.2.1, o.2.2.2.2.2.2.2.2.1, o.2.2.2.2.2.2.2.2.2.1, o.2.2.2.2.2.2.2.2.2.2.1, o.2.2.2.2.2.2.2.2.2.2.2.1, o.2.2.2.2.2.2.2.2.2.2.2.2.1, o.2.2.2.2.2.2.2.2.2.2.2.2.2.1, o.2.2.2.2.2.2.2.2.2.2.2.2.2.2.1, o.2.2.2.2.2.2.2.2.2.2.2.2.2.2.2.1, o.2.2.2.2.2.2.2.2.2.2.2.2.2.2.2.2, ())
def qmh (T : List qa) (n : qa) : Bool := match getP T n.1 with | none => false | some d => d.2.1 == n.2.1
def atD (T : List qa) (n : qa) : qa := (getP T n.1).getD dN
def qdf (T : List qa) (o : qA) (n : qa) : Bool := qmh T n && qjh n (atD T n) o
def xV (T : List qa) (o : qA) (now : Int) (n : qa) : qa :=
 (n.1, n.2.1, if (qmh T n && !o.2.2.1) = true then (atD T n).2.2.1 else n.2.2.1, if o.2.2.2.1 = true then n.2.2.2.1 else if qdf T o n = true then (atD T n).2.2.2.1 else now,
  if qdf T o n = true then (atD T n).2.2.2.2.1 else n.2.2.2.2.1, n.2.2.2.2.2.1, 0)
theorem qYw (T : List qa) (o : qA) (now : Int) (n : qa) : xV T o now n = newV o now n (getP T n.1) := by
 unfold xV newV qdf qmh atD
 cases getP T n.1 with
 | none => simp
 | some d =>
  simp only [Option.getD_some];have hs : ((d.2.1 == n.2.1) && qjh n d o) = qjh n d o := by
   unfold qjh;cases d.2.1 == n.2.1 <;> simp
  rw [hs]
  by_cases h : d.2.1 = n.2.1
  .rw [show (d.2.1 == n.2.1) = true by rw [h]; simp]
   cases o.2.2.1 <;> simp [h]
  .rw [show (d.2.1 == n.2.1) = false from beq_eq_false_iff_ne.2 h]
   simp [h]
def s1V (o : qA) (now : Int) (s : SV) (n : qa) : SV := if qje o now n (getP s.tree n.1) = 2 ∨ qje o now n (getP s.tree n.1) = 4 then qBc s (qQd o now s.tree (atD s.tree n)) else s
theorem qVo (o : qA) (now : Int) (n : qa) (d : Option qa) : qje o now n d = -1 ∨ qje o now n d = 1 ∨ qje o now n d = 2 ∨ qje o now n d = 3 ∨ qje o now n d = 4 := by
 unfold qje
 cases d with
 | none => simp
 | some d =>
  dsimp only
  split
  .simp
  .split
   .simp
   .split <;> simp
set_option maxHeartbeats 1600000 in
theorem qGu (o : qA) (ho1 : o.2.2.2.2.2.2.2.2.2.2.2.2.2.2.2.1.length <= 1048576) (ho2 : o.2.2.2.2.2.2.2.2.2.2.2.2.2.2.2.2.length <= 1048576) (now : Int) (hn : 0 <= now /\ now <= 1000000000) (n : qa) (s : SV) (t0 : List qa) (hT : RightT s.tree) (hl : s.tree.length <= 600000) (h1 : s.ch.length <= 900000) (h2 : s.rf.length <= 900000) (h3 : s.trees.length <= 900000)
    (hq : refV o s.tree n = 0 -> qje o now n (getP s.tree n.1) ≠ -1 -> RightQ (putV (s1V o now s n).tree (newV o now n (getP s.tree n.1)))) :
    qQe o now n (s.tree, (), (), (), s.bad, (), ()) t0 s.ch s.rf s.trees =
     some ((), ((qxc o now s n).tree, (), (), (), (qxc o now s n).bad, (), ()), t0, (qxc o now s n).ch, (qxc o now s n).rf, (qxc o now s n).trees, ()) := by
 unfold qQe
 rw [qFh s.tree (by omega), Option.bind_some]
 dsimp only
 rw [qwr s.tree (by omega), Option.bind_some]
 dsimp only
 by_cases hr : refV o s.tree n ≠ 0
 .have hb : qxc o now s n = { s with rf := s.rf ++ [(n.1, refV o s.tree n)] } := by unfold qxc; rw [if_pos hr]
  rw [show (refV o s.tree n != 0) = true by rw [bne_iff_ne]; exact hr, cond_true, if_pos (by simp only [List.length_cons, List.length_nil]; omega), hb]
 .have hr : refV o s.tree n = 0 := Decidable.not_not.1 hr
  rw [show (refV o s.tree n != 0) = false by rw [hr]; rfl, cond_false];refine ql (x := some (((), now, (), (), atV s.tree n.1, (), qmh s.tree n, ()), (s.tree, (), (), (), s.bad, (), ()), t0, s.ch, s.rf, s.trees, TO o, TN n, TN (atD s.tree n), ())) ?_ ?_
  .unfold qmh atD
   rcases qCe s.tree n.1 with ⟨e1, e2⟩ | ⟨i, hi, e1, e2⟩
   .rw [e2, e1, decide_eq_false (by omega), cond_false]; rfl
   .rw [e1, e2, decide_eq_true (by omega), cond_true, if_pos (by omega), qvd]; rfl
  .rw [Option.bind_some]
   dsimp only;refine ql (x := some (((), now, (), (), atV s.tree n.1, (), qmh s.tree n, qdf s.tree o n, ()), (s.tree, (), (), (), s.bad, (), ()), t0, s.ch, s.rf, s.trees, TO o, TN n, TN (atD s.tree n), ())) ?_ ?_
   .unfold qdf
    cases hlk : qmh s.tree n with
    | false => rfl
    | true =>
     have hk : (atD s.tree n).2.1 = n.2.1 := by
      unfold qmh at hlk;unfold atD;cases hg : getP s.tree n.1 with
      | none => rw [hg] at hlk; cases hlk
      | some d => rw [hg] at hlk; simpa using hlk
     unfold qjh;rw [show ((atD s.tree n).2.1 == n.2.1) = true by rw [hk]; simp];simp only [cond_true, Bool.true_and]
     by_cases h0 : n.2.1 = 0
     .rw [show (n.2.1 == 0) = true by rw [h0]; rfl]; rfl
     .rw [show (n.2.1 == 0) = false from beq_eq_false_iff_ne.2 h0, cond_false]
      by_cases hf : n.2.1 = 1
      .rw [show (n.2.1 == 1) = true by rw [hf]; rfl, cond_true]
       have hqk := qNu n (atD s.tree n) o;refine ql hqk ?_;rw [Option.bind_some];dsimp only;rw [show (n.2.1 == 2) = false by rw [hf]; rfl];cases qGt n (atD s.tree n) o <;> rfl
      .rw [show (n.2.1 == 1) = false from beq_eq_false_iff_ne.2 hf, cond_false]
       cases n.2.1 == 2 <;> rfl
   .rw [Option.bind_some]
    dsimp only;refine ql (x := some (((), now, (), (), atV s.tree n.1, (), qmh s.tree n, qdf s.tree o n, (), ()), (s.tree, (), (), (), s.bad, (), ()), t0, s.ch, s.rf, s.trees, TO o, TN n, TN (atD s.tree n), (n.1, n.2.1, n.2.2.1, (if qdf s.tree o n = true then (atD s.tree n).2.2.2.1 else now), (if qdf s.tree o n = true then (atD s.tree n).2.2.2.2.1 else n.2.2.2.2.1), n.2.2.2.2.2.1, 0, ()), ())) ?_ ?_
    .cases qdf s.tree o n <;> rfl
    .rw [Option.bind_some]
     dsimp only;refine ql (x := some (((), now, (), atV s.tree n.1, (), qmh s.tree n, qdf s.tree o n, (), ()), (s.tree, (), (), (), s.bad, (), ()), t0, s.ch, s.rf, s.trees, TO o, TN (atD s.tree n), (n.1, n.2.1, n.2.2.1, (if o.2.2.2.1 = true then n.2.2.2.1 else if qdf s.tree o n = true then (atD s.tree n).2.2.2.1 else now), (if qdf s.tree o n = true then (atD s.tree n).2.2.2.2.1 else n.2.2.2.2.1), n.2.2.2.2.2.1, 0, ()), ())) ?_ ?_
     .cases o.2.2.2.1 <;> rfl
     .rw [Option.bind_some]
      dsimp only;refine ql (x := some (((), now, (), atV s.tree n.1, (), qmh s.tree n, qdf s.tree o n, (), (qmh s.tree n && !o.2.2.1), ()), (s.tree, (), (), (), s.bad, (), ()), t0, s.ch, s.rf, s.trees, TO o, TN (atD s.tree n), (n.1, n.2.1, n.2.2.1, (if o.2.2.2.1 = true then n.2.2.2.1 else if qdf s.tree o n = true then (atD s.tree n).2.2.2.1 else now), (if qdf s.tree o n = true then (atD s.tree n).2.2.2.2.1 else n.2.2.2.2.1), n.2.2.2.2.2.1, 0, ()), ())) ?_ ?_
      .cases qmh s.tree n <;> rfl
      .rw [Option.bind_some]
       dsimp only;refine ql (x := some (((), now, (), atV s.tree n.1, (), qmh s.tree n, qdf s.tree o n, (), ()), (s.tree, (), (), (), s.bad, (), ()), t0, s.ch, s.rf, s.trees, TO o, TN (atD s.tree n), TN (xV s.tree o now n), ())) ?_ ?_
       .unfold xV
        cases qmh s.tree n && !o.2.2.1 <;> rfl
       .rw [Option.bind_some]
        dsimp only;rw [qYw];have hb : qxc o now s n = if qje o now n (getP s.tree n.1) = -1 then s else chg (put1 (s1V o now s n) (newV o now n (getP s.tree n.1))) (qje o now n (getP s.tree n.1), n.1, atD s.tree n, newV o now n (getP s.tree n.1)) := by
         unfold qxc s1V atD;rw [if_neg (fun h => h hr)]
        refine qbb (x := some (if qje o now n (getP s.tree n.1) = -1 then Sum.inr ((), (s.tree, (), (), (), s.bad, (), ()), t0, s.ch, s.rf, s.trees, ()) else
         Sum.inl (((), now, (), (), (), qje o now n (getP s.tree n.1), ()), (s.tree, (), (), (), s.bad, (), ()), t0, s.ch, s.rf, s.trees, TO o, TN (atD s.tree n), TN (newV o now n (getP s.tree n.1)), ()))) ?_ ?_
        .rw [<- qYw]
         rcases qCe s.tree n.1 with ⟨e1, e2⟩ | ⟨i, hi, e1, e2⟩
         .rw [e2, decide_eq_true (by omega), cond_true]
          have : qje o now n (getP s.tree n.1) = 1 := by rw [e1]; rfl
          rw [this, if_neg (by decide)]
         .rw [e1, decide_eq_false (by omega), cond_false]
          have hD : atD s.tree n = nd s.tree i := by unfold atD; rw [e2]; rfl
          have hL : qmh s.tree n = ((nd s.tree i).2.1 == n.2.1) := by unfold qmh; rw [e2]
          have hX : newV o now n (some (nd s.tree i)) = xV s.tree o now n := by rw [qYw, e2]
          have hS : qmh s.tree n = true -> qdf s.tree o n = qjh n (nd s.tree i) o := by
           intro h;unfold qdf;rw [h, hD]; rfl
          rw [e2];unfold qje;simp only [hX]
          by_cases hlk : (nd s.tree i).2.1 = n.2.1
          .have hL' : qmh s.tree n = true := by rw [hL, hlk]; simp
           rw [hS hL', hL', hD];rw [if_neg (show ¬ ((nd s.tree i).2.1 ≠ n.2.1) from fun h => h hlk)];simp only [Bool.not_true, cond_false];cases hst : qjh n (nd s.tree i) o with
           | false => simp only [Bool.not_false, cond_true, if_true]; rfl
           | true =>
            simp only [Bool.not_true, cond_false, Bool.true_eq_false, if_false]
            by_cases hm : (xV s.tree o now n).2.2.1 = (nd s.tree i).2.2.1
            .rw [show ((xV s.tree o now n).2.2.1 == (nd s.tree i).2.2.1) = true by rw [hm]; simp]
             by_cases ht : (xV s.tree o now n).2.2.2.1 = (nd s.tree i).2.2.2.1
             .rw [show ((xV s.tree o now n).2.2.2.1 == (nd s.tree i).2.2.2.1) = true by rw [ht]; simp, if_pos (show (xV s.tree o now n).2.2.1 = (nd s.tree i).2.2.1 /\ (xV s.tree o now n).2.2.2.1 = (nd s.tree i).2.2.2.1 from ⟨hm, ht⟩)]; rfl
             .rw [show ((xV s.tree o now n).2.2.2.1 == (nd s.tree i).2.2.2.1) = false from beq_eq_false_iff_ne.2 ht, if_neg (show ¬ ((xV s.tree o now n).2.2.1 = (nd s.tree i).2.2.1 /\ (xV s.tree o now n).2.2.2.1 = (nd s.tree i).2.2.2.1) from fun h => ht h.2)]; rfl
            .rw [show ((xV s.tree o now n).2.2.1 == (nd s.tree i).2.2.1) = false from beq_eq_false_iff_ne.2 hm, if_neg (show ¬ ((xV s.tree o now n).2.2.1 = (nd s.tree i).2.2.1 /\ (xV s.tree o now n).2.2.2.1 = (nd s.tree i).2.2.2.1) from fun h => hm h.1)]; rfl
          .have hL' : qmh s.tree n = false := by rw [hL]; exact beq_eq_false_iff_ne.2 hlk
           rw [hL', if_pos hlk];rfl
        .rw [hb]
         by_cases hk1 : qje o now n (getP s.tree n.1) = -1
         .rw [if_pos hk1, if_pos hk1]; rfl
         .rw [if_neg hk1, if_neg hk1, qTc]
          have hq := hq hr hk1;have hkc := qVo o now n (getP s.tree n.1);have hs1 : s1V o now s n = if qje o now n (getP s.tree n.1) = 2 ∨ qje o now n (getP s.tree n.1) = 4 then qBc s (qQd o now s.tree (atD s.tree n)) else s := rfl
          generalize hK : qje o now n (getP s.tree n.1) = K at hk1 hkc hs1 ⊢;generalize hX : newV o now n (getP s.tree n.1) = X at hq ⊢;dsimp only;refine ql (x := some (((), now, (), (), (), K, decide (K = 2 ∨ K = 4), ()), (s.tree, (), (), (), s.bad, (), ()), t0, s.ch, s.rf, s.trees, TO o, TN (atD s.tree n), TN X, ())) ?_ ?_
          .rcases hkc with e | e | e | e | e
           .exact absurd e hk1
           all_goals (subst e; rfl)
          .rw [Option.bind_some]
           dsimp only;have hs1c : (s1V o now s n).ch = s.ch /\ (s1V o now s n).rf = s.rf /\ (s1V o now s n).trees = s.trees := by
            rw [hs1]; split
            .exact qRi _ s
            .exact ⟨rfl, rfl, rfl⟩
           have hs1T : RightT (s1V o now s n).tree /\ (s1V o now s n).tree.length <= s.tree.length + 170 := by
            rw [hs1]; split
            .rename_i hK2
             rcases qCe s.tree n.1 with ⟨e1, e2⟩ | ⟨i, hi, e1, e2⟩
             .exfalso
              rw [e1] at hK;have : K = 1 := hK.symm;omega
             .have hD : atD s.tree n = nd s.tree i := by unfold atD; rw [e2]; rfl
              have hk := (qHk hT (hT.ok _ (qLg e2).1) o hn s rfl).1;rw [hD];exact ⟨hk.right, hk.len⟩
            .exact ⟨hT, by omega⟩
           refine ql (x := some (((), (), (), K, ()), ((s1V o now s n).tree, (), (), (), (s1V o now s n).bad, (), ()), t0, s.ch, s.rf, s.trees, TN (atD s.tree n), TN X, ())) ?_ ?_
           .rw [hs1]
            by_cases hK2 : K = 2 ∨ K = 4
            .rw [decide_eq_true hK2, cond_true, if_pos hK2]
             rcases qCe s.tree n.1 with ⟨e1, e2⟩ | ⟨i, hi, e1, e2⟩
             .exfalso
              rw [e1] at hK;have : K = 1 := hK.symm;omega
             .have hD : atD s.tree n = nd s.tree i := by unfold atD; rw [e2]; rfl
              rw [hD];have hnok := hT.ok _ (qLg e2).1;exact ql (qlr o ho1 ho2 now hn (nd s.tree i) hnok s t0 hT (by omega) (qHk hT hnok o hn s rfl).2) rfl
            .rw [decide_eq_false hK2, cond_false, if_neg hK2]
           .rw [Option.bind_some]
            dsimp only;have hp1 := qjn (s1V o now s n) t0 X hq hs1T.1.sorted (by omega);rw [hs1c.1, hs1c.2.1, hs1c.2.2] at hp1;refine ql hp1 ?_;rw [Option.bind_some];dsimp only;have hlp : (put1 (s1V o now s n) X).tree.length <= 1000000 := by
             rw [qxw, qkd];have := qji hs1T.1.sorted X;omega
            have hpc : (put1 (s1V o now s n) X).ch = s.ch /\ (put1 (s1V o now s n) X).rf = s.rf /\ (put1 (s1V o now s n) X).trees = s.trees := hs1c;have hcs := qgn (put1 (s1V o now s n) X) t0 K (atD s.tree n) X (by rw [hpc.1]; omega) hlp (by rw [hpc.2.2]; omega);have hK0 : K ≠ 0 := by omega
            have hX1 : X.1 = n.1 := by
             rw [<- hX, <- qYw]; rfl
            rw [if_neg hK0, hX1] at hcs;rw [hpc.1, hpc.2.1, hpc.2.2] at hcs;refine ql hcs ?_;rw [Option.bind_some];unfold chg;dsimp only;rw [hpc.2.1]
theorem qHi (x : qa) : qt x = true ↔ qj x.1 = true /\ (0 <= x.2.2.1 /\ x.2.2.1 <= 511) /\ (0 <= x.2.2.2.1 /\ x.2.2.2.1 <= 1000000000) /\ qbc x.2.1 x.2.2.1 x.2.2.2.2.1 x.2.2.2.2.2.1 x.2.2.2.2.2.2 = true := by
 unfold qt inI
 simp only [Bool.and_eq_true, decide_eq_true_eq]
 constructor
 .rintro ⟨⟨a, ⟨b1, b2⟩, c1, c2⟩, d⟩; exact ⟨a, ⟨b1, b2⟩, ⟨c1, c2⟩, d⟩
 .rintro ⟨a, ⟨b1, b2⟩, ⟨c1, c2⟩, d⟩; exact ⟨⟨a, ⟨b1, b2⟩, c1, c2⟩, d⟩
theorem qem (k m : Int) (data target : List UInt8) (g : Int) : qbc k m data target g = true ↔
    (k = 0 /\ data = [] /\ target = [] /\ g = 0) ∨ (k = 1 /\ data.length <= 20000 /\ target = [] /\ 0 <= g /\ g <= 200) ∨ (k = 2 /\ data = [] /\ m = 0 /\ g = 0 /\ (1 <= target.length /\ target.length <= 60) /\ target.any (· == 10) = false) := by
 unfold qbc inI
 by_cases h0 : k = 0
 .subst h0; simp
 .rw [show (k == 0) = false from beq_eq_false_iff_ne.2 h0, cond_false]
  by_cases h1 : k = 1
  .subst h1; simp; intro _ _ _; omega
  .rw [show (k == 1) = false from beq_eq_false_iff_ne.2 h1, cond_false]
   by_cases h2 : k = 2
   .subst h2; simp
    constructor
    .rintro ⟨⟨a, b, c, d, e⟩, f⟩; exact ⟨a, b, c, ⟨by omega, by omega⟩, f⟩
    .rintro ⟨a, b, c, ⟨d, e⟩, f⟩; exact ⟨⟨a, b, c, by omega, by omega⟩, f⟩
   .rw [show (k == 2) = false from beq_eq_false_iff_ne.2 h2, cond_false]
    simp [h0, h1, h2]
theorem qiu {n d : qa} {o : qA} (h : qjh n d o = true) : d.2.1 = n.2.1 := by
 unfold qjh at h
 rw [Bool.and_eq_true] at h
 simpa using h.1
theorem qKv {o : qA} {now : Int} (hn : 0 <= now /\ now <= 1000000000) {n : qa} (h : qt n = true) {d : Option qa} (hd : ∀ x, d = some x -> qt x = true) : qt (newV o now n d) = true := by
 obtain ⟨n1, n2, n3, n4⟩ := (qHi n).1 h
 rw [qem] at n4
 unfold newV
 cases d with
 | none =>
  rw [qHi, qem];refine ⟨n1, n2, ?_, ?_⟩
  .dsimp only; split <;> assumption
  .dsimp only
   rcases n4 with h | h | h
   .exact .inl ⟨h.1, h.2.1, h.2.2.1, rfl⟩
   .exact .inr (.inl ⟨h.1, h.2.1, h.2.2.1, by decide, by decide⟩)
   .exact .inr (.inr ⟨h.1, h.2.1, h.2.2.1, rfl, h.2.2.2.2⟩)
 | some x =>
  obtain ⟨x1, x2, x3, x4⟩ := (qHi x).1 (hd x rfl);rw [qem] at x4;dsimp only;rw [qHi, qem];refine ⟨n1, ?_, ?_, ?_⟩
  .dsimp only; split <;> assumption
  .dsimp only; split
   .exact n3
   .split <;> assumption
  .dsimp only
   by_cases hs : qjh n x o = true
   .have hk := qiu hs
    rw [if_pos hs];rw [hk] at x4;rcases n4 with h | h | h
    .have x4' : x.2.2.2.2.1 = [] := by
      rcases x4 with g | g | g
      .exact g.2.1
      .have := g.1; omega
      .have := g.1; omega
     exact .inl ⟨h.1, x4', h.2.2.1, rfl⟩
    .have x4' : x.2.2.2.2.1.length <= 20000 := by
      rcases x4 with g | g | g
      .have := g.1; omega
      .exact g.2.1
      .have := g.1; omega
     exact .inr (.inl ⟨h.1, x4', h.2.2.1, by decide, by decide⟩)
    .have x4' : x.2.2.2.2.1 = [] /\ x.2.2.1 = 0 := by
      rcases x4 with g | g | g
      .have := g.1; omega
      .have := g.1; omega
      .exact ⟨g.2.1, g.2.2.1⟩
     refine .inr (.inr ⟨h.1, x4'.1, ?_, rfl, h.2.2.2.2⟩)
     split
     .exact x4'.2
     .exact h.2.2.1
   .rw [if_neg hs]
    rcases n4 with h | h | h
    .exact .inl ⟨h.1, h.2.1, h.2.2.1, rfl⟩
    .exact .inr (.inl ⟨h.1, h.2.1, h.2.2.1, by decide, by decide⟩)
    .refine .inr (.inr ⟨h.1, h.2.1, ?_, rfl, h.2.2.2.2⟩)
     split
     .rename_i hc
      rcases x4 with g | g | g
      .have := g.1; omega
      .have := g.1; omega
      .exact g.2.2.1
     .exact h.2.2.1
theorem qWt (o : qA) (now : Int) (n : qa) (d : Option qa) : (newV o now n d).1 = n.1 /\ (newV o now n d).2.1 = n.2.1 /\ gr (newV o now n d) = 0 := by
 unfold newV; cases d <;> exact ⟨rfl, rfl, rfl⟩
structure ChOk (c : qxb) : Prop where
 k : 0 <= c.1 /\ c.1 <= 4
 del : c.1 = 0 -> qt c.2.2.1 = true /\ c.2.1 = c.2.2.1.1
 new : c.1 ≠ 0 -> qt c.2.2.2 = true /\ c.2.1 = c.2.2.2.1
 same : c.1 = 2 ∨ c.1 = 3 -> qt c.2.2.1 = true /\ c.2.2.1.2.1 = c.2.2.2.2.1
 b : qjr c.2.2.1 /\ qjr c.2.2.2
theorem qPp {x : qa} (h : qt x = true) : qjr x := by
 have h1 := qad (qG h)
 have h2 := qCn h
 exact ⟨by omega, by omega, by omega⟩
theorem qPo : qjr dN := ⟨Nat.zero_le _, Nat.zero_le _, Nat.zero_le _⟩
structure Brought (o : qA) (now : Int) (n : qa) (s : SV) : Prop where
 put : refV o s.tree n = 0 -> qje o now n (getP s.tree n.1) ≠ -1 -> RightQ (putV (s1V o now s n).tree (newV o now n (getP s.tree n.1)))
 right : RightT (qxc o now s n).tree
 len : (qxc o now s n).tree.length <= s.tree.length + 171
 dirs : ∀ y ∈ s.tree, y.2.1 = 0 -> y.1 ≠ n.1 -> ∃ z ∈ (qxc o now s n).tree, z.1 = y.1 /\ z.2.1 = 0
 mine : n.2.1 = 0 -> o.2.2.2.2.2.2.2.2.2.2.1 = true ∨ ∃ z ∈ (qxc o now s n).tree, z.1 = n.1 /\ z.2.1 = 0
 ch : (qxc o now s n).ch = s.ch ∨ ∃ c, ChOk c /\ c.1 ≠ 0 /\ c.2.1 = n.1 /\ (qxc o now s n).ch = s.ch ++ [c]
 rf : (qxc o now s n).rf = s.rf ∨ ∃ c, (qxc o now s n).rf = s.rf ++ [c]
 trees : (qxc o now s n).trees.length <= s.trees.length + 1
theorem qCt {o : qA} {now : Int} (hn : 0 <= now /\ now <= 1000000000) {n : qa} (hok : qt n = true) {s : SV} (hT : RightT s.tree)
    (hup : qg n.1 = [] ∨ o.2.2.2.2.2.2.2.2.2.2.1 = true ∨ ∃ z ∈ s.tree, z.1 = qg n.1 /\ z.2.1 = 0) : Brought o now n s := by
 have hd : ∀ x, getP s.tree n.1 = some x -> qt x = true /\ x ∈ s.tree /\ x.1 = n.1 := fun x hx => ⟨hT.ok _ (qLg hx).1, qLg hx⟩
 have hs1 : RightT (s1V o now s n).tree /\ (s1V o now s n).tree.length <= s.tree.length + 170 /\ (∀ y ∈ s.tree, y.2.1 = 0 -> ∃ z ∈ (s1V o now s n).tree, noG z = noG y) /\ (s1V o now s n).ch = s.ch /\ (s1V o now s n).rf = s.rf /\ (s1V o now s n).trees = s.trees := by
  unfold s1V
  split
  .rename_i hk
   cases hg : getP s.tree n.1 with
   | none => rw [hg, show qje o now n none = 1 from rfl] at hk; omega
   | some x =>
    have hD : atD s.tree n = x := by unfold atD; rw [hg]; rfl
    have hkp := (qHk hT (hd x hg).1 o hn s rfl).1;rw [hD];exact ⟨hkp.right, hkp.len, hkp.dirs, qRi _ s⟩
  .exact ⟨hT, by omega, fun y hy _ => ⟨y, hy, rfl⟩, rfl, rfl, rfl⟩
 obtain ⟨r1, r2, r3, r4, r5, r6⟩ := hs1
 have hput : refV o s.tree n = 0 -> qje o now n (getP s.tree n.1) ≠ -1 -> RightQ (putV (s1V o now s n).tree (newV o now n (getP s.tree n.1))) := by
  intro hr hk;obtain ⟨p1, p2, p3⟩ := qWt o now n (getP s.tree n.1);refine qzh r1.toRightQ (qKv hn hok (fun x hx => (hd x hx).1)) p3 ?_ ?_
  .rw [p1]
   have hup' : qg n.1 = [] ∨ ∃ z ∈ s.tree, z.1 = qg n.1 /\ z.2.1 = 0 := by
    cases hg : getP s.tree n.1 with
    | none =>
     rcases hup with h | h | h
     .exact .inl h
     .exfalso
      unfold refV at hr;rw [hg] at hr;simp only [h, if_true] at hr;cases hr
     .exact .inr h
    | some x =>
     have := hT.up x (hd x hg).2.1;rw [(hd x hg).2.2] at this;exact this
   rcases hup' with h | ⟨z, hz, e1, e2⟩
   .exact .inl h
   .obtain ⟨z', hz', e⟩ := r3 z hz e2
    exact .inr ⟨z', hz', (qmb e).1.trans e1, (qmb e).2.1.trans e2⟩
  .intro y hy e h0
   rw [p1] at e;rw [p1, p2]
   by_cases hn0 : n.2.1 = 0
   .exact .inl hn0
   .right
    cases hg : getP s.tree n.1 with
    | none =>
     exfalso;have : s1V o now s n = s := by
      unfold s1V;rw [hg];rw [if_neg (by rw [show qje o now n none = 1 from rfl]; omega)]
     rw [this] at hy;exact qIm hg y hy e
    | some x =>
     obtain ⟨x1, x2, x3⟩ := hd x hg;have hx0 : x.2.1 = 0 := by
      unfold s1V at hy
      split at hy
      .rename_i hk2
       have hD : atD s.tree n = x := by unfold atD; rw [hg]; rfl
       have hkp := (qHk hT x1 o hn s rfl).1;rw [hD] at hy
       by_cases hx : x.2.1 = 0
       .exact hx
       .exfalso
        by_cases hb : x.1 = qB o x.1
        .rcases hkp.new y hy with ⟨w, hw, ew⟩ | h | h
         .have : getP s.tree w.1 = some w := qnk hT.sorted hw
          rw [<- (qmb ew).1, e, hg] at this;simp only [Option.some.injEq] at this;exact hx (by rw [this, <- (qmb ew).2.1]; exact h0)
         .have h := h.2
          rw [e, <- x3, <- hb] at h;exact absurd h (Nat.lt_irrefl _)
         .exact hx (by rw [<- h0, (qmb (show noG y = noG (qyl o x) from h)).2.1]; rfl)
        .obtain ⟨z, hz, ez⟩ := hkp.old x x2 hb
         have hu : getP _ y.1 = some y := qnk hkp.right.sorted hy;have hv : getP _ z.1 = some z := qnk hkp.right.sorted hz;rw [(qmb ez).1, x3, <- e, hu] at hv;simp only [Option.some.injEq] at hv;exact hx (by rw [<- (qmb ez).2.1, <- hv]; exact h0)
      .have := qnk hT.sorted hy
       rw [e, hg] at this;simp only [Option.some.injEq] at this;rw [this]; exact h0
     have hst : qIe s.tree n.1 = false := by
      cases hst : qIe s.tree n.1 with
      | false => rfl
      | true =>
       exfalso;unfold refV at hr;rw [hg] at hr;dsimp only at hr;rw [if_neg hn0] at hr
       split at hr
       .cases hr
       .split at hr
        .cases hr
        .rw [if_pos ⟨hx0, hst⟩] at hr; cases hr
     have : s1V o now s n = s := by
      unfold s1V
      split
      .have hD : atD s.tree n = x := by unfold atD; rw [hg]; rfl
       rw [hD];have : qQd o now s.tree x = [] := by unfold qQd; rw [if_pos (.inr hx0)]
       rw [this]; rfl
      .rfl
     rw [this];intro z hz e;unfold qIe at hst;have := List.any_eq_false.1 hst z hz;rw [e] at this;simp at this
 by_cases hr : refV o s.tree n ≠ 0
 .have hb : qxc o now s n = { s with rf := s.rf ++ [(n.1, refV o s.tree n)] } := by unfold qxc; rw [if_pos hr]
  refine ⟨hput, ?_, ?_, ?_, ?_, ?_, ?_, ?_⟩
  all_goals rw [hb]
  .exact hT
  .dsimp only; omega
  .exact fun y hy h0 _ => ⟨y, hy, rfl, h0⟩
  .intro h0
   left;unfold refV at hr;cases hg : getP s.tree n.1 with
   | none =>
    rw [hg] at hr;dsimp only at hr
    split at hr
    .assumption
    .exact absurd rfl hr
   | some x =>
    rw [hg] at hr;dsimp only at hr;rw [if_pos h0] at hr;exact absurd rfl hr
  .exact .inl rfl
  .exact .inr ⟨_, rfl⟩
  .dsimp only; omega
 .have hr : refV o s.tree n = 0 := Decidable.not_not.1 hr
  by_cases hk : qje o now n (getP s.tree n.1) = -1
  .have hb : qxc o now s n = s := by
    unfold qxc;rw [if_neg (fun h => h hr)];dsimp only;rw [if_pos hk]
   refine ⟨hput, ?_, ?_, ?_, ?_, ?_, ?_, ?_⟩
   all_goals rw [hb]
   .exact hT
   .omega
   .exact fun y hy h0 _ => ⟨y, hy, rfl, h0⟩
   .intro h0
    right;cases hg : getP s.tree n.1 with
    | none => rw [hg, show qje o now n none = 1 from rfl] at hk; omega
    | some x =>
     obtain ⟨x1, x2, x3⟩ := hd x hg;refine ⟨x, x2, x3, ?_⟩;rw [hg] at hk;unfold qje at hk;dsimp only at hk
     split at hk
     .omega
     .rename_i h
      rw [Decidable.not_not.1 h]; exact h0
   .exact .inl rfl
   .exact .inl rfl
   .omega
  .have hb : qxc o now s n = chg (put1 (s1V o now s n) (newV o now n (getP s.tree n.1))) (qje o now n (getP s.tree n.1), n.1, atD s.tree n, newV o now n (getP s.tree n.1)) := by
    unfold qxc s1V atD;rw [if_neg (fun h => h hr)];dsimp only;rw [if_neg hk]
   have hq := hput hr hk;obtain ⟨p1, p2, p3⟩ := qWt o now n (getP s.tree n.1);have htr : (qxc o now s n).tree = qpc (putV (s1V o now s n).tree (newV o now n (getP s.tree n.1))) := by rw [hb]; rfl
   refine ⟨hput, ?_, ?_, ?_, ?_, ?_, ?_, ?_⟩
   .rw [htr]; exact qpg hq
   .rw [htr, qkd]
    have := qji r1.sorted (newV o now n (getP s.tree n.1));omega
   .intro y hy h0 hne
    obtain ⟨z, hz, e⟩ := r3 y hy h0;obtain ⟨z', hz', e'⟩ := qLi (qrf (n := newV o now n (getP s.tree n.1)) hz (by rw [p1, (qmb e).1]; exact hne));rw [htr];exact ⟨z', hz', (qmb (e'.trans e)).1, (qmb (e'.trans e)).2.1.trans h0⟩
   .intro h0
    right;obtain ⟨z', hz', e'⟩ := qLi (qYl (s1V o now s n).tree (newV o now n (getP s.tree n.1)));rw [htr];exact ⟨z', hz', (qmb e').1.trans p1, (qmb e').2.1.trans (p2.trans h0)⟩
   .right
    have hkc := qVo o now n (getP s.tree n.1);refine ⟨(qje o now n (getP s.tree n.1), n.1, atD s.tree n, newV o now n (getP s.tree n.1)), ⟨?_, ?_, ?_, ?_, ?_⟩, ?_, rfl, ?_⟩
    .dsimp only; omega
    .intro h; dsimp only at h; omega
    .intro _; exact ⟨qKv hn hok (fun x hx => (hd x hx).1), p1.symm⟩
    .intro h
     dsimp only at h ⊢;cases hg : getP s.tree n.1 with
     | none => rw [hg, show qje o now n none = 1 from rfl] at h; omega
     | some x =>
      have hD : atD s.tree n = x := by unfold atD; rw [hg]; rfl
      rw [hD];refine ⟨(hd x hg).1, ?_⟩;rw [hg] at h;unfold qje at h;dsimp only at h
      split at h
      .omega
      .rename_i h2
       rw [Decidable.not_not.1 h2]; rfl
    .refine ⟨?_, qPp (qKv hn hok (fun x hx => (hd x hx).1))⟩
     cases hg : getP s.tree n.1 with
     | none =>
      have hD : atD s.tree n = dN := by unfold atD; rw [hg]; rfl
      show qjr (atD s.tree n)
      rw [hD]; exact qPo
     | some x =>
      have hD : atD s.tree n = x := by unfold atD; rw [hg]; rfl
      show qjr (atD s.tree n)
      rw [hD]; exact qPp (hd x hg).1
    .dsimp only; omega
    .rw [hb]; show (put1 (s1V o now s n) _).ch ++ _ = _
     rw [show (put1 (s1V o now s n) (newV o now n (getP s.tree n.1))).ch = s.ch from r4]
   .left; rw [hb]; exact r5
   .rw [hb]
    show ((put1 (s1V o now s n) _).trees ++ _).length <= _
    rw [show (put1 (s1V o now s n) (newV o now n (getP s.tree n.1))).trees = s.trees from r6];simp
variable {src dst : List qa} {o : qA} {r : List quc}
structure Deleted (o : qA) (now : Int) (p : List UInt8) (s : SV) : Prop where
 right : RightT (delV o now s p).tree
 len : (delV o now s p).tree.length <= s.tree.length + 170
 ch : (delV o now s p).ch = s.ch ∨ ∃ c, ChOk c /\ c.1 = 0 /\ c.2.1 = p /\ (delV o now s p).ch = s.ch ++ [c]
 rf : (delV o now s p).rf = s.rf
 trees : (delV o now s p).trees.length <= s.trees.length + 1
theorem qNx {o : qA} {now : Int} (hn : 0 <= now /\ now <= 1000000000) (p : List UInt8) {s : SV} (hT : RightT s.tree) : Deleted o now p s := by
 cases hg : getP s.tree p with
 | none =>
  have hb : delV o now s p = s := by unfold delV; rw [hg]
  refine ⟨?_, ?_, ?_, ?_, ?_⟩
  all_goals rw [hb]
  .exact hT
  .omega
  .exact .inl rfl
  .omega
 | some d =>
  obtain ⟨hm, hp⟩ := qLg hg
  by_cases hc : d.2.1 = 0 /\ qIe s.tree p = true
  .have hb : delV o now s p = s := by unfold delV; rw [hg]; dsimp only; rw [if_pos hc]
   refine ⟨?_, ?_, ?_, ?_, ?_⟩
   all_goals rw [hb]
   .exact hT
   .omega
   .exact .inl rfl
   .omega
  .have hb : delV o now s p = chg { qBc s (qQd o now s.tree d) with tree := qpc ((qBc s (qQd o now s.tree d)).tree.filter (qof p)) } (0, d.1, d, ([], 0, 0, 0, [], [], 0)) := by
    unfold delV; rw [hg]; dsimp only; rw [if_neg hc]
   have hk := (qHk hT (hT.ok d hm) o hn s rfl).1;have hch := qRi (qQd o now s.tree d) s;refine ⟨?_, ?_, ?_, ?_, ?_⟩
   all_goals rw [hb]
   .exact qpg (qwo hk.right.toRightQ p)
   .show (qpc _).length <= _
    rw [qkd];have := List.length_filter_le (qof p) (qBc s (qQd o now s.tree d)).tree;have := hk.len;omega
   .right
    refine ⟨(0, d.1, d, ([], 0, 0, 0, [], [], 0)), ⟨by dsimp only; omega, fun _ => ⟨hT.ok d hm, rfl⟩, fun h => absurd rfl h, (fun h => by dsimp only at h; omega), ⟨qPp (hT.ok d hm), qPo⟩⟩, rfl, hp, ?_⟩
    show (qBc s _).ch ++ _ = _
    rw [hch.1]
   .exact hch.2.1
   .show ((qBc s _).trees ++ _).length <= _
    rw [hch.2.2]; simp
def qml (src : List qa) (n : qa) (o : qA) (r : List quc) : Bool :=
 !(match getP src n.1 with | some x => !qwe r n.1 (x.2.1 == 0) | none => false) &&
 (!qwe r n.1 (n.2.1 == 0) && (!says r 2 3 n.1 (n.2.1 == 0) &&
 (!(o.2.2.2.2.2.2.2.2.2.2.2.2.2.2.1 && (!(o.2.2.2.2.2.2.2.2.2.2.2.2.2.2.2.2 == []) && (qHb o.2.2.2.2.2.2.2.2.2.2.2.2.2.2.2.2 n.1 || qHb n.1 o.2.2.2.2.2.2.2.2.2.2.2.2.2.2.2.2))) &&
  !(o.2.2.2.2.2.2.2.2.2.2.2.2.2.2.1 && ((o.2.2.2.2.2.2.2.2.2.2.2.2.2.2.2.2 == []) && (decide (o.2.2.2.2.2.2.2.2.2.2.2.2.2.2.2.1.length <= n.1.length) && (n.1.drop (n.1.length - o.2.2.2.2.2.2.2.2.2.2.2.2.2.2.2.1.length) == o.2.2.2.2.2.2.2.2.2.2.2.2.2.2.2.1)))))))
def qSd (src dst : List qa) (o : qA) (r : List quc) (n : qa) : Bool := dst.all (fun x => !qHb n.1 x.1 || qml src x o r)
def qJ (src dst : List qa) (o : qA) (r : List quc) : List (List UInt8) :=
 if o.2.2.2.2.2.2.2.2.2.2.2.2.2.1 = 0 then [] else ((dst.filter (qSd src dst o r)).map (·.1)).reverse
structure Args (src dst : List qa) (o : qA) (r : List quc) : Prop where
 s : RightP src
 d : RightP dst
 o1 : qNd o = true
 o2 : o.2.2.2.2.2.2.2.2.2.2.2.2.2.2.2.1.length <= 1048576
 o3 : o.2.2.2.2.2.2.2.2.2.2.2.2.2.2.2.2.length <= 1048576
 o4 : o.2.2.2.2.2.2.2.2.2.2.2.2.2.2.1 = true -> o.2.2.2.2.2.2.2.2.2.2.2.2.2.2.2.2 ≠ [] -> qj o.2.2.2.2.2.2.2.2.2.2.2.2.2.2.2.2 = true
 r1 : qHh r = true
 r2 : ∀ x ∈ r, noNl x
theorem Args.rl (h : Args src dst o r) : r.length <= 100 /\ ∀ x ∈ r, qOe x = true := by
 have := h.r1
 unfold qHh at this
 rw [Bool.and_eq_true, decide_eq_true_eq, List.all_eq_true] at this
 exact this
theorem qyw {l : List qa} (h : RightP l) : qmx l := qlt h.ok (by have := h.len; omega)
theorem qGw (h : Args src dst o r) : qRf src dst o r = some (true, ()) := by
 unfold qRf
 rw [qAh src (qyw h.s), Option.bind_some, qhm h.s]
 simp only [cond_true]
 rw [qAh dst (qyw h.d), Option.bind_some, qhm h.d]
 simp only [cond_true]
 rw [qrj o h.o2 h.o3, Option.bind_some, h.o1]
 simp only [cond_true]
 rw [qQg r h.r2, Option.bind_some, h.r1]; rfl
theorem qVw (h : Args src dst o r) : qVg src o r = some (true, ()) := by
 unfold qVg
 rw [qAh src (qyw h.s), Option.bind_some, qhm h.s]
 simp only [cond_true]
 rw [qrj o h.o2 h.o3, Option.bind_some, h.o1]
 simp only [cond_true]
 rw [qQg r h.r2, Option.bind_some, h.r1]; rfl
theorem qMq (h : Args src dst o r) (p : List UInt8) (hp : qj p = true) (dir : Bool) : qzf r p dir = some (says r 2 3 p dir, ()) := by
 unfold qzf
 rw [qQg r h.r2, Option.bind_some, h.r1]
 simp only [cond_true]
 rw [qMb, Option.bind_some, hp]
 simp only [cond_true]
 rw [qVk r (by have := h.rl.1; omega) h.rl.2 h.r2 2 3 p hp dir, Option.bind_some]; rfl
set_option maxHeartbeats 1000000 in
theorem qIu (h : Args src dst o r) (n : qa) (hn : qt n = true) : qAe src n o r = some (qml src n o r, ()) := by
 have hp := qG hn
 have hpl := qad hp
 have hsl := h.s.len
 unfold qAe qml
 rw [qFh src (by omega), Option.bind_some]
 dsimp only
 refine ql (x := some ((r, (), (), (match getP src n.1 with | some x => !qwe r n.1 (x.2.1 == 0) | none => false), ()), TN n, TO o, ())) ?_ ?_
 .rcases qCe src n.1 with ⟨e1, e2⟩ | ⟨i, hi, e1, e2⟩
  .rw [e2, decide_eq_false (by omega), cond_false, e1]
  .rw [e1, decide_eq_true (by omega), cond_true, if_pos (by omega), qvd, e2, qkj r h.r1 h.r2 n.1 hp, Option.bind_some]
 .rw [Option.bind_some]
  dsimp only;cases hA : (match getP src n.1 with | some x => !qwe r n.1 (x.2.1 == 0) | none => false) with
  | true => rfl
  | false =>
   simp only [cond_false, Bool.not_false, Bool.true_and];refine ql (x := some (((), (), (qwe r n.1 (n.2.1 == 0) || says r 2 3 n.1 (n.2.1 == 0)), ()), TN n, TO o, ())) ?_ ?_
   .rw [qkj r h.r1 h.r2 n.1 hp, Option.bind_some]
    dsimp only;cases qwe r n.1 (n.2.1 == 0) with
    | true => rfl
    | false =>
     rw [cond_false, qMq h n.1 hp, Option.bind_some]; rfl
   .rw [Option.bind_some]
    dsimp only;rw [show (!qwe r n.1 (n.2.1 == 0) && (!says r 2 3 n.1 (n.2.1 == 0) && (!(o.2.2.2.2.2.2.2.2.2.2.2.2.2.2.1 && (!(o.2.2.2.2.2.2.2.2.2.2.2.2.2.2.2.2 == []) && (qHb o.2.2.2.2.2.2.2.2.2.2.2.2.2.2.2.2 n.1 || qHb n.1 o.2.2.2.2.2.2.2.2.2.2.2.2.2.2.2.2))) &&
 !(o.2.2.2.2.2.2.2.2.2.2.2.2.2.2.1 && ((o.2.2.2.2.2.2.2.2.2.2.2.2.2.2.2.2 == []) && (decide (o.2.2.2.2.2.2.2.2.2.2.2.2.2.2.2.1.length <= n.1.length) && (n.1.drop (n.1.length - o.2.2.2.2.2.2.2.2.2.2.2.2.2.2.2.1.length) == o.2.2.2.2.2.2.2.2.2.2.2.2.2.2.2.1)))))))
     = (!(qwe r n.1 (n.2.1 == 0) || says r 2 3 n.1 (n.2.1 == 0)) && (!(o.2.2.2.2.2.2.2.2.2.2.2.2.2.2.1 && (!(o.2.2.2.2.2.2.2.2.2.2.2.2.2.2.2.2 == []) && (qHb o.2.2.2.2.2.2.2.2.2.2.2.2.2.2.2.2 n.1 || qHb n.1 o.2.2.2.2.2.2.2.2.2.2.2.2.2.2.2.2))) &&
 !(o.2.2.2.2.2.2.2.2.2.2.2.2.2.2.1 && ((o.2.2.2.2.2.2.2.2.2.2.2.2.2.2.2.2 == []) && (decide (o.2.2.2.2.2.2.2.2.2.2.2.2.2.2.2.1.length <= n.1.length) && (n.1.drop (n.1.length - o.2.2.2.2.2.2.2.2.2.2.2.2.2.2.2.1.length) == o.2.2.2.2.2.2.2.2.2.2.2.2.2.2.2.1)))))) from by
      cases qwe r n.1 (n.2.1 == 0) <;> rfl]
    cases hB : qwe r n.1 (n.2.1 == 0) || says r 2 3 n.1 (n.2.1 == 0) with
    | true => rfl
    | false =>
     simp only [cond_false, Bool.not_false, Bool.true_and];refine ql (x := some (((), (), (o.2.2.2.2.2.2.2.2.2.2.2.2.2.2.1 && (!(o.2.2.2.2.2.2.2.2.2.2.2.2.2.2.2.2 == []) && (qHb o.2.2.2.2.2.2.2.2.2.2.2.2.2.2.2.2 n.1 || qHb n.1 o.2.2.2.2.2.2.2.2.2.2.2.2.2.2.2.2))), ()), TN n, TO o, ())) ?_ ?_
     .cases hbk : o.2.2.2.2.2.2.2.2.2.2.2.2.2.2.1 with
      | false => rfl
      | true =>
       rw [cond_true, Bool.true_and]
       by_cases hdir : o.2.2.2.2.2.2.2.2.2.2.2.2.2.2.2.2 = []
       .rw [hdir]; rfl
       .have hdok := h.o4 hbk hdir
        have e1 : (!o.2.2.2.2.2.2.2.2.2.2.2.2.2.2.2.2 == qc UInt8) = true := by rw [Bool.not_eq_true']; exact beq_eq_false_iff_ne.2 hdir
        have e2 : (!(o.2.2.2.2.2.2.2.2.2.2.2.2.2.2.2.2 == [])) = true := e1;rw [e1, cond_true, Bool.true_and, qDi hdok hp, Option.bind_some];dsimp only;cases qHb o.2.2.2.2.2.2.2.2.2.2.2.2.2.2.2.2 n.1 with
        | true => rfl
        | false => rw [cond_false, qDi hp hdok, Option.bind_some]; rfl
     .rw [Option.bind_some]
      dsimp only;cases hC : (o.2.2.2.2.2.2.2.2.2.2.2.2.2.2.1 && (!(o.2.2.2.2.2.2.2.2.2.2.2.2.2.2.2.2 == []) && (qHb o.2.2.2.2.2.2.2.2.2.2.2.2.2.2.2.2 n.1 || qHb n.1 o.2.2.2.2.2.2.2.2.2.2.2.2.2.2.2.2))) with
      | true => rfl
      | false =>
       simp only [cond_false, Bool.not_false, Bool.true_and];refine ql (x := some (((o.2.2.2.2.2.2.2.2.2.2.2.2.2.2.1 && ((o.2.2.2.2.2.2.2.2.2.2.2.2.2.2.2.2 == []) && (decide (o.2.2.2.2.2.2.2.2.2.2.2.2.2.2.2.1.length <= n.1.length) && (n.1.drop (n.1.length - o.2.2.2.2.2.2.2.2.2.2.2.2.2.2.2.1.length) == o.2.2.2.2.2.2.2.2.2.2.2.2.2.2.2.1)))), ()), ())) ?_ ?_
       .cases hbk : o.2.2.2.2.2.2.2.2.2.2.2.2.2.2.1 with
        | false => rfl
        | true =>
         rw [cond_true, Bool.true_and]
         by_cases hdir : o.2.2.2.2.2.2.2.2.2.2.2.2.2.2.2.2 = []
         .have e1 : (o.2.2.2.2.2.2.2.2.2.2.2.2.2.2.2.2 == qc UInt8) = true := by rw [hdir]; rfl
          have e2 : (o.2.2.2.2.2.2.2.2.2.2.2.2.2.2.2.2 == []) = true := e1;have ho2 := h.o2;rw [e1, cond_true, Bool.true_and]
          by_cases hlen : o.2.2.2.2.2.2.2.2.2.2.2.2.2.2.2.1.length <= n.1.length
          .rw [decide_eq_true (show ((n.1.length : Nat) : Int) >= _ by omega), cond_true, decide_eq_true hlen, wr _ (by omega), if_pos (by omega), Bool.true_and]
           rw [Int.toNat_natCast, List.take_length, show ((n.1.length : Int) - (o.2.2.2.2.2.2.2.2.2.2.2.2.2.2.2.1.length : Int)).toNat = n.1.length - o.2.2.2.2.2.2.2.2.2.2.2.2.2.2.2.1.length by omega]
          .rw [decide_eq_false (show ¬ ((n.1.length : Nat) : Int) >= _ by omega), cond_false, decide_eq_false hlen]; rfl
         .have e1 : (o.2.2.2.2.2.2.2.2.2.2.2.2.2.2.2.2 == qc UInt8) = false := beq_eq_false_iff_ne.2 hdir
          have e2 : (o.2.2.2.2.2.2.2.2.2.2.2.2.2.2.2.2 == []) = false := e1;rw [e1]; rfl
       .rw [Option.bind_some]
        dsimp only;cases (o.2.2.2.2.2.2.2.2.2.2.2.2.2.2.1 && ((o.2.2.2.2.2.2.2.2.2.2.2.2.2.2.2.2 == []) && (decide (o.2.2.2.2.2.2.2.2.2.2.2.2.2.2.2.1.length <= n.1.length) && (n.1.drop (n.1.length - o.2.2.2.2.2.2.2.2.2.2.2.2.2.2.2.1.length) == o.2.2.2.2.2.2.2.2.2.2.2.2.2.2.2.1)))) <;> rfl
variable {src dst : List qa} {o : qA} {r : List quc}
theorem qHw {p : qa -> Bool} {l : List qa} {i : Nat} (h : i < l.length) : (l.drop i).all p = (p (nd l i) && (l.drop (i + 1)).all p) := by
 unfold nd
 rw [List.getD_eq_getElem?_getD, List.getElem?_eq_getElem h, List.drop_eq_getElem_cons h]; rfl
theorem qdw {l : List qa} {i : Nat} (h : i < l.length) : l.drop i = nd l i :: l.drop (i + 1) := by
 unfold nd
 rw [List.getD_eq_getElem?_getD, List.getElem?_eq_getElem h, List.drop_eq_getElem_cons h]; rfl
set_option maxHeartbeats 1000000 in
theorem qzs (h : Args src dst o r) : qig src dst o r = some (qJ src dst o r, ()) := by
 have hdl := h.d.len
 unfold qig qJ
 refine ql (x := some ((src, dst, r, (), (), o.2.2.2.2.2.2.2.2.2.2.2.2.2.1 == 0, ()), TO o, qc (List UInt8), ())) ?_ ?_
 .rw [qGw h, Option.bind_some]; rfl
 .rw [Option.bind_some]
  dsimp only
  by_cases h0 : o.2.2.2.2.2.2.2.2.2.2.2.2.2.1 = 0
  .rw [show (o.2.2.2.2.2.2.2.2.2.2.2.2.2.1 == 0) = true by rw [h0]; rfl, if_pos h0]; rfl
  .rw [show (o.2.2.2.2.2.2.2.2.2.2.2.2.2.1 == 0) = false from beq_eq_false_iff_ne.2 h0, if_neg h0, cond_false]
   refine ql (x := some (((), ()), ((dst.filter (qSd src dst o r)).map (·.1)).reverse, ())) ?_ rfl;refine qu _ (fun n t => ∃ j : Nat, t = ((src, dst, r, (), (), ((j : Int) - 1), ()), TO o, (((dst.drop j).filter (qSd src dst o r)).map (·.1)).reverse, ()) /\ j <= dst.length /\ n = j)
    (fun _ => some (((), ()), ((dst.filter (qSd src dst o r)).map (·.1)).reverse, ())) ?_ _ dst.length _ ?_ ?_
   rotate_left
   .exact ⟨dst.length, by rw [wr _ (by omega), List.drop_length]; rfl, Nat.le_refl _, rfl⟩
   .omega
   rintro j t k ⟨_, rfl, hj, rfl⟩ hk;dsimp only;cases j with
   | zero => rw [decide_eq_false (by omega), cond_false, List.drop_zero]
   | succ j =>
    rw [decide_eq_true (by omega), cond_true];have hji : (((j + 1 : Nat) : Int) - 1) = ((j : Nat) : Int) := by omega
    rw [hji];have hpj := qG (h.d.ok _ (qNf (l := dst) (i := j) (by omega)));refine ql (x := some ((src, dst, r, (), (), (j : Int), qSd src dst o r (nd dst j), ()), TO o, (((dst.drop (j + 1)).filter (qSd src dst o r)).map (·.1)).reverse, ())) ?_ ?_
    .refine (qu _ (fun n t => ∃ (i : Nat) (b : Bool), t = ((src, dst, r, (), (), (j : Int), b, (i : Int), ()), TO o, (((dst.drop (j + 1)).filter (qSd src dst o r)).map (·.1)).reverse, ()) /\ i <= dst.length /\ n = dst.length - i)
      (fun t => some ((src, dst, r, (), (), (j : Int), t.1.2.2.2.2.2.2.1 && (dst.drop t.1.2.2.2.2.2.2.2.1.toNat).all (fun x => !qHb (nd dst j).1 x.1 || qml src x o r), ()), TO o, (((dst.drop (j + 1)).filter (qSd src dst o r)).map (·.1)).reverse, ())) ?_ _ dst.length _ ⟨0, true, rfl, by omega, rfl⟩ (by omega)).trans ?_
     .rintro n t k2 ⟨i, b, rfl, hi, rfl⟩ hk2
      dsimp only
      by_cases hil : i < dst.length
      .rw [decide_eq_true (by omega), cond_true]
       have hni := h.d.ok _ (qNf (l := dst) (i := i) hil);have hrec : ∀ b', k2 ((src, dst, r, (), (), (j : Int), b', ((i : Int) + 1), ()), TO o, (((dst.drop (j + 1)).filter (qSd src dst o r)).map (·.1)).reverse, ()) = some ((src, dst, r, (), (), (j : Int), b' && (dst.drop (i + 1)).all (fun x => !qHb (nd dst j).1 x.1 || qml src x o r), ()), TO o, (((dst.drop (j + 1)).filter (qSd src dst o r)).map (·.1)).reverse, ()) := fun b' =>
        hk2 (dst.length - (i + 1)) _ (by omega) ⟨i + 1, b', rfl, by omega, rfl⟩
       refine ql (x := some ((src, dst, r, (), (), (j : Int), b, (i : Int), qHb (nd dst j).1 (nd dst i).1 && !qml src (nd dst i) o r, ()), TO o, (((dst.drop (j + 1)).filter (qSd src dst o r)).map (·.1)).reverse, ())) ?_ ?_
       .rw [if_pos (by omega), if_pos (by omega), qvd, qvd, qDi hpj (qG hni), Option.bind_some]
        dsimp only;cases qHb (nd dst j).1 (nd dst i).1 with
        | false => rfl
        | true => rw [cond_true, if_pos (by omega), qIu h _ hni, Option.bind_some]; rfl
       .rw [Option.bind_some]
        dsimp only;refine ql (x := some ((src, dst, r, (), (), (j : Int), b && (!qHb (nd dst j).1 (nd dst i).1 || qml src (nd dst i) o r), (i : Int), ()), TO o, (((dst.drop (j + 1)).filter (qSd src dst o r)).map (·.1)).reverse, ())) ?_ ?_
        .cases qHb (nd dst j).1 (nd dst i).1 <;> cases qml src (nd dst i) o r <;> simp
        .rw [Option.bind_some]
         dsimp only;rw [wr _ (by omega), hrec, Int.toNat_natCast, qHw hil, Bool.and_assoc]
      .obtain rfl : i = dst.length := by omega
       rw [decide_eq_false (by omega), cond_false, Int.toNat_natCast, List.drop_length];simp
     .rfl
    .rw [Option.bind_some]
     dsimp only;have hd := qdw (l := dst) (i := j) (by omega);refine ql (x := some ((src, dst, r, (), (), (j : Int), ()), TO o, (((dst.drop j).filter (qSd src dst o r)).map (·.1)).reverse, ())) ?_ ?_
     .rw [hd, List.filter_cons]
      cases hD : qSd src dst o r (nd dst j) with
      | false => rfl
      | true =>
       rw [cond_true, if_pos (by omega), qvd, if_pos (by
        simp only [List.length_cons, List.length_nil, List.length_reverse, List.length_map];have := List.length_filter_le (qSd src dst o r) (dst.drop (j + 1));rw [List.length_drop] at this;omega)]
       simp
     .rw [Option.bind_some]
      dsimp only;rw [show IntKind.wrap IntKind.i64 ((j : Int) - 1) = (j : Int) - 1 from wr _ (by omega)];exact hk j _ (by omega) ⟨j, rfl, by omega, rfl⟩
theorem qZm (h : Args src dst o r) : qDe src o r = some ((qC src o r, true, ()), ()) := by
 have hsl := h.s.len
 unfold qDe
 rw [qVw h, Option.bind_some]
 simp only [Bool.not_true, cond_false]
 refine ql (x := some (((), ()), qwh src o r, ())) ?_ ?_
 .refine (qu _ (fun n t => ∃ i : Nat, t = ((src, r, (), (), (i : Int), ()), TO o, qwh (src.take i) o r, ()) /\ i <= src.length /\ n = src.length - i)
   (fun _ => some (((), ()), qwh src o r, ())) ?_ _ src.length _ ⟨0, rfl, by omega, rfl⟩ (by omega))
  rintro n t k ⟨i, rfl, hi, rfl⟩ hk;dsimp only
  by_cases hil : i < src.length
  .rw [decide_eq_true (by omega), cond_true, if_pos (by omega), qvd]
   have hni := h.s.ok _ (qNf (l := src) (i := i) hil);rw [show qde (nd src i) (o.1, o.2.1, o.2.2.1, o.2.2.2.1, o.2.2.2.2.1, o.2.2.2.2.2.1, o.2.2.2.2.2.2.1, o.2.2.2.2.2.2.2.1, o.2.2.2.2.2.2.2.2.1, o.2.2.2.2.2.2.2.2.2.1, o.2.2.2.2.2.2.2.2.2.2.1, o.2.2.2.2.2.2.2.2.2.2.2.1, o.2.2.2.2.2.2.2.2.2.2.2.2.1, o.2.2.2.2.2.2.2.2.2.2.2.2.2.1, o.2.2.2.2.2.2.2.2.2.2.2.2.2.2.1, o.2.2.2.2.2.2.2.2.2.2.2.2.2.2.2.1, o.2.2.2.2.2.2.2.2.2.2.2.2.2.2.2.2) r = some (qUi (nd src i) o r, ()) from qiv (nd src i) o r h.r1 h.r2 (qG hni), Option.bind_some];dsimp only;have htk : qwh (src.take (i + 1)) o r = if qUi (nd src i) o r = 0 then qwh (src.take i) o r ++ [qzj o (nd src i)] else qwh (src.take i) o r := by
    unfold qwh;have : src.take (i + 1) = src.take i ++ [nd src i] := by
     unfold nd;rw [List.take_succ_eq_append_getElem hil, List.getD_eq_getElem?_getD, List.getElem?_eq_getElem hil]; rfl
    rw [this, List.filter_append, List.map_append]
    by_cases hs : qUi (nd src i) o r = 0
    .rw [if_pos hs]
     have : (qUi (nd src i) o r == 0) = true := by rw [hs]; rfl
     simp [List.filter_cons, this]
    .rw [if_neg hs]
     have : (qUi (nd src i) o r == 0) = false := beq_eq_false_iff_ne.2 hs;simp [List.filter_cons, this]
   have hlen : (qwh (src.take i) o r).length <= 200 := by
    have := qXn (src.take i) o r;rw [List.length_take] at this;omega
   refine ql (x := some ((src, r, (), (), (i : Int), ()), TO o, qwh (src.take (i + 1)) o r, ())) ?_ ?_
   .rw [htk]
    by_cases hs : qUi (nd src i) o r = 0
    .rw [if_pos hs, show (qUi (nd src i) o r == 0) = true by rw [hs]; rfl, cond_true, if_pos (by omega)]
     refine ql (x := some ((src, r, (), (), (i : Int), (), ()), TO o, qwh (src.take i) o r, TN (qzj o (nd src i)), ())) ?_ ?_
     .unfold qzj
      cases o.2.2.2.2.1 <;> rfl
     .rw [Option.bind_some]
      dsimp only;rw [if_pos (by simp only [List.length_cons, List.length_nil]; omega)]
    .rw [if_neg hs, show (qUi (nd src i) o r == 0) = false from beq_eq_false_iff_ne.2 hs, cond_false]
   .rw [Option.bind_some]
    dsimp only;rw [wr1 _ (by omega)];exact hk (src.length - (i + 1)) _ (by omega) ⟨i + 1, rfl, by omega, rfl⟩
  .obtain rfl : i = src.length := by omega
   rw [decide_eq_false (by omega), cond_false, List.take_length]
 .rw [Option.bind_some]
  dsimp only;have := qXn src o r;rw [qkg _ (by omega), Option.bind_some]; rfl
variable {src dst : List qa} {o : qA} {r : List quc}
def qUv (o : qA) (now : Int) (s : SV) (p : List UInt8) : SV := if s.bad = true then s else delV o now s p
def qZv (o : qA) (now : Int) (s : SV) (n : qa) : SV := if s.bad = true then s else qxc o now s n
def runD (src dst : List qa) (o : qA) (r : List quc) (now : Int) (i : Nat) : SV := ((qJ src dst o r).take i).foldl (qUv o now) ⟨dst, [], [], [], false⟩
def runB (src dst : List qa) (o : qA) (r : List quc) (now : Int) (i : Nat) : SV := ((qC src o r).take i).foldl (qZv o now) (runD src dst o r now (qJ src dst o r).length)
def runV (src dst : List qa) (o : qA) (r : List quc) (now : Int) : SV := runB src dst o r now (qC src o r).length
theorem qtp {α : Type} {l : List α} {i : Nat} (h : i < l.length) : l.take (i + 1) = l.take i ++ [l[i]] := List.take_succ_eq_append_getElem h
theorem qPm {now : Int} {i : Nat} (h : i < (qJ src dst o r).length) : runD src dst o r now (i + 1) = qUv o now (runD src dst o r now i) ((qJ src dst o r)[i]) := by
 unfold runD; rw [qtp h, List.foldl_append]; rfl
theorem qzn {now : Int} {i : Nat} (h : i < (qC src o r).length) : runB src dst o r now (i + 1) = qZv o now (runB src dst o r now i) ((qC src o r)[i]) := by
 unfold runB; rw [qtp h, List.foldl_append]; rfl
theorem qAx {now : Int} : ∀ (i j : Nat), i <= j -> j <= (qJ src dst o r).length -> (runD src dst o r now i).bad = true -> runD src dst o r now j = runD src dst o r now i := by
 intro i j hij hj hb
 induction j with
 | zero => obtain rfl : i = 0 := by omega
           rfl
 | succ j ih =>
  by_cases e : i = j + 1
  .subst e; rfl
  .have h := ih (by omega) (by omega)
   rw [qPm (by omega), h];unfold qUv; rw [if_pos hb]
theorem qbx {now : Int} : ∀ (i j : Nat), i <= j -> j <= (qC src o r).length -> (runB src dst o r now i).bad = true -> runB src dst o r now j = runB src dst o r now i := by
 intro i j hij hj hb
 induction j with
 | zero => obtain rfl : i = 0 := by omega
           rfl
 | succ j ih =>
  by_cases e : i = j + 1
  .subst e; rfl
  .have h := ih (by omega) (by omega)
   rw [qzn (by omega), h];unfold qZv; rw [if_pos hb]
structure RI (s : SV) (b : Nat) : Prop where
 right : RightT s.tree
 len : s.tree.length <= 200 + 171 * b
 ch : s.ch.length <= b
 rf : s.rf.length <= b
 trees : s.trees.length <= b
 ok : ∀ c ∈ s.ch, ChOk c
theorem qdp (h : Args src dst o r) : (qJ src dst o r).length <= 200 := by
 unfold qJ
 split
 .simp
 .rw [List.length_reverse, List.length_map]
  have := List.length_filter_le (qSd src dst o r) dst;have := h.d.len;omega
theorem qNp (h : Args src dst o r) {now : Int} (hn : 0 <= now /\ now <= 1000000000) : ∀ i, i <= (qJ src dst o r).length -> RI (runD src dst o r now i) i /\ (∀ c ∈ (runD src dst o r now i).ch, c.1 = 0) := by
 intro i
 induction i with
 | zero =>
  intro _;have := h.d.len;exact ⟨⟨h.d.t, by show dst.length <= _; omega, Nat.zero_le _, Nat.zero_le _, Nat.zero_le _, fun c hc => by cases hc⟩, fun c hc => by cases hc⟩
 | succ i ih =>
  intro hi;obtain ⟨g, gd⟩ := ih (by omega);rw [qPm (by omega)];unfold qUv
  by_cases hb : (runD src dst o r now i).bad = true
  .rw [if_pos hb]
   exact ⟨⟨g.right, by have := g.len; omega, by have := g.ch; omega, by have := g.rf; omega, by have := g.trees; omega, g.ok⟩, gd⟩
  .rw [if_neg hb]
   have hd := qNx (o := o) hn ((qJ src dst o r)[i]) g.right;refine ⟨⟨hd.right, by have := g.len; have := hd.len; omega, ?_, by rw [hd.rf]; have := g.rf; omega, by have := g.trees; have := hd.trees; omega, ?_⟩, ?_⟩
   .rcases hd.ch with e | ⟨c, _, _, _, e⟩
    .rw [e]; have := g.ch; omega
    .rw [e, List.length_append, List.length_singleton]; have := g.ch; omega
   .rcases hd.ch with e | ⟨c, hc, _, _, e⟩
    .rw [e]; exact g.ok
    .rw [e]; intro x hx
     rcases List.mem_append.1 hx with hx | hx
     .exact g.ok x hx
     .rw [List.mem_singleton.1 hx]; exact hc
   .rcases hd.ch with e | ⟨c, _, hc, _, e⟩
    .rw [e]; exact gd
    .rw [e]; intro x hx
     rcases List.mem_append.1 hx with hx | hx
     .exact gd x hx
     .rw [List.mem_singleton.1 hx]; exact hc
theorem qJu {l : List qa} (hs : qmc l) {i j : Nat} (hi : i < l.length) (hj : j < l.length) (h : (l[i]).1 = (l[j]).1) : i = j := by
 refine qsj hs hi hj ?_
 unfold pth
 rw [List.getD_eq_getElem?_getD, List.getElem?_eq_getElem hi, List.getD_eq_getElem?_getD, List.getElem?_eq_getElem hj]
 exact h
theorem qjk {l : List qa} (hs : qmc l) {i j : Nat} (hi : i < l.length) (hj : j < l.length) (h : Op.bytesLess (l[j]).1 (l[i]).1 = true) : j < i := by
 have e : ∀ k (hk : k < l.length), pth l k = (l[k]).1 := fun k hk => by
  unfold pth; rw [List.getD_eq_getElem?_getD, List.getElem?_eq_getElem hk]; rfl
 rcases Nat.lt_trichotomy j i with h1 | h1 | h1
 .exact h1
 .subst h1; rw [qrd] at h; cases h
 .have := hs.lt h1 hj
  rw [e i hi, e j hj] at this;have := qng this h;rw [qrd] at this; cases this
theorem qbm (h : Args src dst o r) {now : Int} (hn : 0 <= now /\ now <= 1000000000) : ∀ i, i <= (qC src o r).length -> RI (runB src dst o r now i) (200 + i) /\
    ((runB src dst o r now i).bad = false -> ∀ j (hj : j < (qC src o r).length), j < i -> ((qC src o r)[j]).2.1 = 0 -> o.2.2.2.2.2.2.2.2.2.2.1 = true ∨ ∃ z ∈ (runB src dst o r now i).tree, z.1 = ((qC src o r)[j]).1 /\ z.2.1 = 0) /\
    (∃ l, (runB src dst o r now i).ch = (runD src dst o r now (qJ src dst o r).length).ch ++ l /\ ∀ c ∈ l, c.1 ≠ 0) := by
 have hW := qJf h.s o r
 intro i
 induction i with
 | zero =>
  intro _;have g := (qNp h hn (qJ src dst o r).length (Nat.le_refl _)).1;have := qdp h;exact ⟨⟨g.right, by have := g.len; show (runD src dst o r now _).tree.length <= _; omega, by have := g.ch; show (runD src dst o r now _).ch.length <= _; omega, by have := g.rf; show (runD src dst o r now _).rf.length <= _; omega, by have := g.trees; show (runD src dst o r now _).trees.length <= _; omega, g.ok⟩, fun _ j _ hj => by omega, [], by rw [List.append_nil]; rfl, fun c hc => by cases hc⟩
 | succ i ih =>
  intro hi;obtain ⟨g, gj, gl⟩ := ih (by omega);rw [qzn (by omega)];unfold qZv
  by_cases hb : (runB src dst o r now i).bad = true
  .rw [if_pos hb]
   exact ⟨⟨g.right, by have := g.len; omega, by have := g.ch; omega, by have := g.rf; omega, by have := g.trees; omega, g.ok⟩, (fun h => by rw [hb] at h; cases h), gl⟩
  .rw [if_neg hb]
   have gj := gj (by simpa using hb);have hnW : (qC src o r)[i] ∈ qC src o r := List.getElem_mem _;have hok := hW.ok _ hnW;have hup : qg ((qC src o r)[i]).1 = [] ∨ o.2.2.2.2.2.2.2.2.2.2.1 = true ∨ ∃ z ∈ (runB src dst o r now i).tree, z.1 = qg ((qC src o r)[i]).1 /\ z.2.1 = 0 := by
    rcases hW.up _ hnW with e | ⟨m, hm, e1, e2⟩
    .exact .inl e
    .right
     obtain ⟨j, hj, rfl⟩ := List.mem_iff_getElem.1 hm;have hlt : j < i := qjk hW.sorted (by omega) hj (by rw [e1]; exact qpj (qG hok));rcases gj j hj hlt e2 with e | ⟨z, hz, z1, z2⟩
     .exact .inl e
     .exact .inr ⟨z, hz, z1.trans e1, z2⟩
   have B := qCt hn hok g.right hup;refine ⟨⟨B.right, by have := g.len; have := B.len; omega, ?_, ?_, by have := g.trees; have := B.trees; omega, ?_⟩, ?_, ?_⟩
   .rcases B.ch with e | ⟨c, _, _, _, e⟩
    .rw [e]; have := g.ch; omega
    .rw [e, List.length_append, List.length_singleton]; have := g.ch; omega
   .rcases B.rf with e | ⟨c, e⟩
    .rw [e]; have := g.rf; omega
    .rw [e, List.length_append, List.length_singleton]; have := g.rf; omega
   .rcases B.ch with e | ⟨c, hc, _, _, e⟩
    .rw [e]; exact g.ok
    .rw [e]; intro x hx
     rcases List.mem_append.1 hx with hx | hx
     .exact g.ok x hx
     .rw [List.mem_singleton.1 hx]; exact hc
   .intro _ j hj hji h0
    by_cases e : j = i
    .subst e; exact B.mine h0
    .rcases gj j hj (by omega) h0 with e2 | ⟨z, hz, z1, z2⟩
     .exact .inl e2
     .right
      obtain ⟨z', hz', f1, f2⟩ := B.dirs z hz z2 (fun e3 => e (qJu hW.sorted hj (by omega) (z1.symm.trans e3)));exact ⟨z', hz', f1.trans z1, f2⟩
   .obtain ⟨l, e1, e2⟩ := gl
    rcases B.ch with e | ⟨c, _, hc, _, e⟩
    .exact ⟨l, by rw [e, e1], e2⟩
    .exact ⟨l ++ [c], by rw [e, e1, List.append_assoc], fun x hx => by
      rcases List.mem_append.1 hx with hx | hx
      .exact e2 x hx
      .rw [List.mem_singleton.1 hx]; exact hc⟩
theorem qqy (h : Args src dst o r) {now : Int} (hn : 0 <= now /\ now <= 1000000000) {i : Nat} (hi : i < (qC src o r).length) (hb : (runB src dst o r now i).bad = false) : Brought o now ((qC src o r)[i]) (runB src dst o r now i) := by
 have hW := qJf h.s o r
 obtain ⟨g, gj, _⟩ := qbm h hn i (by omega)
 have gj := gj hb
 have hnW : (qC src o r)[i] ∈ qC src o r := List.getElem_mem _
 have hok := hW.ok _ hnW
 refine qCt hn hok g.right ?_
 rcases hW.up _ hnW with e | ⟨m, hm, e1, e2⟩
 .exact .inl e
 .right
  obtain ⟨j, hj, rfl⟩ := List.mem_iff_getElem.1 hm;have hlt : j < i := qjk hW.sorted (by omega) hj (by rw [e1]; exact qpj (qG hok));rcases gj j hj hlt e2 with e | ⟨z, hz, z1, z2⟩
  .exact .inl e
  .exact .inr ⟨z, hz, z1.trans e1, z2⟩
set_option maxHeartbeats 1000000 in
theorem qox (h : Args src dst o r) {now : Int} (hn : 0 <= now /\ now <= 1000000000) : qfg src dst o r now =
    some ((), ((runV src dst o r now).tree, [], (runV src dst o r now).ch, (runV src dst o r now).rf, (runV src dst o r now).bad, (runV src dst o r now).trees, ()), ()) := by
 have hdl := h.d.len
 have hDl := qdp h
 have hWl : (qC src o r).length <= 200 := (qJf h.s o r).len
 unfold qfg
 rw [if_pos (by simp only [qc, List.length_nil]; omega), qzs h, Option.bind_some]
 dsimp only
 refine ql (x := some ((src, r, now, (), (), ()), TO o, ((runD src dst o r now (qJ src dst o r).length).tree, (), (), (), (runD src dst o r now (qJ src dst o r).length).bad, (), ()), [], (runD src dst o r now (qJ src dst o r).length).ch, (runD src dst o r now (qJ src dst o r).length).rf, (runD src dst o r now (qJ src dst o r).length).trees, ())) ?_ ?_
 .refine qu _ (fun n t => ∃ i : Nat, t = ((src, r, now, (), (), qJ src dst o r, (i : Int), ()), TO o, ((runD src dst o r now i).tree, (), (), (), (runD src dst o r now i).bad, (), ()), [], (runD src dst o r now i).ch, (runD src dst o r now i).rf, (runD src dst o r now i).trees, ()) /\ i <= (qJ src dst o r).length /\ n = (qJ src dst o r).length - i)
   (fun _ => some ((src, r, now, (), (), ()), TO o, ((runD src dst o r now (qJ src dst o r).length).tree, (), (), (), (runD src dst o r now (qJ src dst o r).length).bad, (), ()), [], (runD src dst o r now (qJ src dst o r).length).ch, (runD src dst o r now (qJ src dst o r).length).rf, (runD src dst o r now (qJ src dst o r).length).trees, ())) ?_ _ (qJ src dst o r).length _ ?_ ?_
  rotate_left
  .exact ⟨0, rfl, Nat.zero_le _, rfl⟩
  .omega
  rintro n t k ⟨i, rfl, hi, rfl⟩ hk;dsimp only;refine ql (x := some ((src, r, now, (), (), qJ src dst o r, (i : Int), decide (i < (qJ src dst o r).length) && !(runD src dst o r now i).bad, ()), TO o, ((runD src dst o r now i).tree, (), (), (), (runD src dst o r now i).bad, (), ()), [], (runD src dst o r now i).ch, (runD src dst o r now i).rf, (runD src dst o r now i).trees, ())) ?_ ?_
  .by_cases hil : i < (qJ src dst o r).length
   .rw [decide_eq_true (by omega), cond_true, decide_eq_true hil, Bool.true_and]
   .rw [decide_eq_false (by omega), cond_false, decide_eq_false hil, Bool.false_and]
  .rw [Option.bind_some]
   dsimp only
   by_cases hil : i < (qJ src dst o r).length
   .rw [decide_eq_true hil, Bool.true_and]
    cases hb : (runD src dst o r now i).bad with
    | true =>
     rw [Bool.not_true, cond_false, qAx i (qJ src dst o r).length hi (Nat.le_refl _) hb, hb]
    | false =>
     rw [Bool.not_false, cond_true, if_pos (by omega)];obtain ⟨g, _⟩ := qNp h hn i hi;have hgd : List.getD (qJ src dst o r) (Int.toNat ((i : Nat) : Int)) (qc UInt8) = (qJ src dst o r)[i] := by
      rw [Int.toNat_natCast, List.getD_eq_getElem?_getD, List.getElem?_eq_getElem hil]; rfl
     have hlen := g.len; have hch := g.ch; have htr := g.trees;have hdel := qts o h.o2 h.o3 now hn ((qJ src dst o r)[i]) (runD src dst o r now i) [] g.right (by omega) (by omega) (by omega);rw [hgd];rw [hb] at hdel;refine ql hdel ?_;rw [Option.bind_some];dsimp only;rw [wr1 _ (by omega)];have hs : runD src dst o r now (i + 1) = delV o now (runD src dst o r now i) ((qJ src dst o r)[i]) := by
      rw [qPm hil]; unfold qUv; rw [if_neg (by rw [hb]; decide)]
     have hrf : (delV o now (runD src dst o r now i) ((qJ src dst o r)[i])).rf = (runD src dst o r now i).rf := (qNx hn _ g.right).rf;refine hk ((qJ src dst o r).length - (i + 1)) _ (by omega) ⟨i + 1, ?_, hil, rfl⟩;rw [hs, hrf]
   .obtain rfl : i = (qJ src dst o r).length := by omega
    rw [decide_eq_false hil, Bool.false_and, cond_false]
 .rw [Option.bind_some]
  dsimp only;refine ql (qZm h) ?_;rw [Option.bind_some];dsimp only;refine ql (x := some (((), ()), ((runV src dst o r now).tree, (), (), (), (runV src dst o r now).bad, (), ()), [], (runV src dst o r now).ch, (runV src dst o r now).rf, (runV src dst o r now).trees, ())) ?_ rfl;refine qu _ (fun n t => ∃ i : Nat, t = ((now, (), (), qC src o r, (i : Int), ()), TO o, ((runB src dst o r now i).tree, (), (), (), (runB src dst o r now i).bad, (), ()), [], (runB src dst o r now i).ch, (runB src dst o r now i).rf, (runB src dst o r now i).trees, ()) /\ i <= (qC src o r).length /\ n = (qC src o r).length - i)
   (fun _ => some (((), ()), ((runV src dst o r now).tree, (), (), (), (runV src dst o r now).bad, (), ()), [], (runV src dst o r now).ch, (runV src dst o r now).rf, (runV src dst o r now).trees, ())) ?_ _ (qC src o r).length _ ?_ ?_
  rotate_left
  .exact ⟨0, rfl, Nat.zero_le _, rfl⟩
  .omega
  rintro n t k ⟨i, rfl, hi, rfl⟩ hk;dsimp only;refine ql (x := some ((now, (), (), qC src o r, (i : Int), decide (i < (qC src o r).length) && !(runB src dst o r now i).bad, ()), TO o, ((runB src dst o r now i).tree, (), (), (), (runB src dst o r now i).bad, (), ()), [], (runB src dst o r now i).ch, (runB src dst o r now i).rf, (runB src dst o r now i).trees, ())) ?_ ?_
  .by_cases hil : i < (qC src o r).length
   .rw [decide_eq_true (by omega), cond_true, decide_eq_true hil, Bool.true_and]
   .rw [decide_eq_false (by omega), cond_false, decide_eq_false hil, Bool.false_and]
  .rw [Option.bind_some]
   dsimp only
   by_cases hil : i < (qC src o r).length
   .rw [decide_eq_true hil, Bool.true_and]
    cases hb : (runB src dst o r now i).bad with
    | true =>
     have := qbx (src := src) (dst := dst) (o := o) (r := r) (now := now) i (qC src o r).length hi (Nat.le_refl _) hb;rw [Bool.not_true, cond_false]
     show some _ = some _
     unfold runV;rw [this, hb]
    | false =>
     rw [Bool.not_false, cond_true, if_pos (by omega)];obtain ⟨g, _, _⟩ := qbm h hn i hi;have hgd : List.getD (qC src o r) (Int.toNat ((i : Nat) : Int)) zN = (qC src o r)[i] := by
      rw [Int.toNat_natCast, List.getD_eq_getElem?_getD, List.getElem?_eq_getElem hil]; rfl
     have hlen := g.len; have hch := g.ch; have htr := g.trees; have hrf := g.rf;have hbr := qGu o h.o2 h.o3 now hn ((qC src o r)[i]) (runB src dst o r now i) [] g.right (by omega) (by omega) (by omega) (by omega) (qqy h hn hil hb).put;rw [hgd];rw [hb] at hbr;refine ql hbr ?_;rw [Option.bind_some];dsimp only;rw [wr1 _ (by omega)];have hs : runB src dst o r now (i + 1) = qxc o now (runB src dst o r now i) ((qC src o r)[i]) := by
      rw [qzn hil]; unfold qZv; rw [if_neg (by rw [hb]; decide)]
     refine hk ((qC src o r).length - (i + 1)) _ (by omega) ⟨i + 1, ?_, hil, rfl⟩;rw [hs]
   .obtain rfl : i = (qC src o r).length := by omega
    rw [decide_eq_false hil, Bool.false_and, cond_false]; rfl
def spkV (T W : List qa) (o : qA) (rf : List RefT) (i : Nat) : Bool :=
 (o.2.2.2.2.1 && (match getP W (nd T i).1 with | some w => w.2.1 == 1 && (nd T i).2.1 == 1 | none => false)) && !(rf.any (fun x => x.1 == (nd T i).1))
def grpV (T W : List qa) (o : qA) (rf : List RefT) (i : Nat) : Int := if spkV T W o rf i = true then gr ((getP W (nd T i).1).getD dN) else gr (nd T i)
def qOu (T W : List qa) (o : qA) (rf : List RefT) (i k : Nat) : Bool :=
 !(k == i) && (!(grpV T W o rf i == 0) && ((grpV T W o rf k == grpV T W o rf i) && ((spkV T W o rf k == spkV T W o rf i) && qKl (nd T i) (nd T k))))
def curF (m : Nat -> Bool) (f : List Int) (i : Nat) : Nat -> Int
 | 0 => 0
 | k + 1 => if (m k && (decide (k < i) && (curF m f i k == 0))) = true then f.getD k 0 else curF m f i k
def anyF (m : Nat -> Bool) : Nat -> Bool
 | 0 => false
 | k + 1 => anyF m k || m k
def qTb (n : Nat) (m : Nat -> Nat -> Bool) : Nat -> List Int × Int
 | 0 => ([], 0)
 | i + 1 => if (anyF (m i) n && (curF (m i) (qTb n m i).1 i n == 0)) = true then ((qTb n m i).1 ++ [(qTb n m i).2 + 1], (qTb n m i).2 + 1)
     else ((qTb n m i).1 ++ [curF (m i) (qTb n m i).1 i n], (qTb n m i).2)
theorem qGi (n : Nat) (m : Nat -> Nat -> Bool) : ∀ i, (qTb n m i).1.length = i
 | 0 => rfl
 | i + 1 => by
  unfold qTb
  split
  .rw [List.length_append, qGi n m i]; rfl
  .rw [List.length_append, qGi n m i]; rfl
theorem qrm (n : Nat) (m : Nat -> Nat -> Bool) : ∀ i, 0 <= (qTb n m i).2 /\ (qTb n m i).2 <= i
 | 0 => ⟨Int.le_refl _, Int.le_refl _⟩
 | i + 1 => by
  have := qrm n m i;unfold qTb
  split
  .dsimp only; omega
  .dsimp only; omega
def regV (T W : List qa) (o : qA) (rf : List RefT) : List qa :=
 (List.range T.length).map (fun i => setG (nd T i) ((qTb T.length (qOu T W o rf) T.length).1.getD i 0))
theorem qZk {α : Type} (f : Nat -> α) (i : Nat) : (List.range (i + 1)).map f = (List.range i).map f ++ [f i] := by rw [List.range_succ, List.map_append]; rfl
theorem qFi {α : Type} (f : Nat -> α) (n i : Nat) (d : α) (h : i < n) : List.getD ((List.range n).map f) i d = f i := by
 rw [List.getD_eq_getElem?_getD, List.getElem?_map, List.getElem?_range h]; rfl
set_option maxHeartbeats 2000000 in
theorem qWs (T W : List qa) (hT : T.length <= 100000) (hW : W.length <= 100000) (o : qA) (t0 : List qa) (ch : List qxb) (rf : List RefT) (hrf : rf.length <= 100000) (bad : Bool) (trees : List (List qa)) :
    qhe o W (T, t0, ch, rf, bad, trees, ()) = some ((), (regV T W o rf, t0, ch, rf, bad, trees, ()), ()) := by
 unfold qhe
 refine ql (x := some (((), (), (), ()), (T, t0, ch, rf, bad, trees, ()), (List.range T.length).map (spkV T W o rf), (List.range T.length).map (grpV T W o rf), ())) ?_ ?_
 .refine qu _ (fun n t => ∃ i : Nat, t = (((), W, (), (), (), (i : Int), ()), (T, t0, ch, rf, bad, trees, ()), TO o, (List.range i).map (spkV T W o rf), (List.range i).map (grpV T W o rf), ()) /\ i <= T.length /\ n = T.length - i)
   (fun _ => some (((), (), (), ()), (T, t0, ch, rf, bad, trees, ()), (List.range T.length).map (spkV T W o rf), (List.range T.length).map (grpV T W o rf), ())) ?_ _ T.length _ ⟨0, rfl, Nat.zero_le _, rfl⟩ (by first | omega | (dsimp only; omega))
  rintro n t k ⟨i, rfl, hi, rfl⟩ hk;dsimp only
  by_cases hil : i < T.length
  .rw [decide_eq_true (by omega), cond_true, if_pos (by omega), qvd, qFh W (by omega), Option.bind_some]
   dsimp only;refine ql (x := some (((), W, (), (), (), (i : Int), atV W (nd T i).1, (o.2.2.2.2.1 && (match getP W (nd T i).1 with | some w => w.2.1 == 1 && (nd T i).2.1 == 1 | none => false)), ()), (T, t0, ch, rf, bad, trees, ()), TO o, (List.range i).map (spkV T W o rf), (List.range i).map (grpV T W o rf), ())) ?_ ?_
   .cases o.2.2.2.2.1 with
    | false => rfl
    | true =>
     rw [cond_true, Bool.true_and];rcases qCe W (nd T i).1 with ⟨e1, e2⟩ | ⟨j, hj, e1, e2⟩
     .rw [e2, decide_eq_false (by omega), cond_false, e1]
     .rw [e1, decide_eq_true (by omega), cond_true, if_pos (by omega), qvd, e2]
      dsimp only;cases (nd W j).2.1 == 1 with
      | false => rfl
      | true => rw [cond_true, if_pos (by omega), Bool.true_and]
   .rw [Option.bind_some]
    dsimp only;refine ql (x := some (((), W, (), (), (), (i : Int), atV W (nd T i).1, spkV T W o rf i, ()), (T, t0, ch, rf, bad, trees, ()), TO o, (List.range i).map (spkV T W o rf), (List.range i).map (grpV T W o rf), ())) ?_ ?_
    .refine (qu _ (fun n t => ∃ (x : Nat) (b : Bool), t = (((), W, (), (), (), (i : Int), atV W (nd T i).1, b, (x : Int), ()), (T, t0, ch, rf, bad, trees, ()), TO o, (List.range i).map (spkV T W o rf), (List.range i).map (grpV T W o rf), ()) /\ x <= rf.length /\ n = rf.length - x)
      (fun t => some (((), W, (), (), (), (i : Int), atV W (nd T i).1, t.1.2.2.2.2.2.2.2.1 && !((rf.drop t.1.2.2.2.2.2.2.2.2.1.toNat).any (fun x => x.1 == (nd T i).1)), ()), (T, t0, ch, rf, bad, trees, ()), TO o, (List.range i).map (spkV T W o rf), (List.range i).map (grpV T W o rf), ())) ?_ _ rf.length _ ⟨0, _, rfl, Nat.zero_le _, rfl⟩ (by first | omega | (dsimp only; omega))).trans ?_
     .rintro n t k2 ⟨x, b, rfl, hx, rfl⟩ hk2
      dsimp only
      by_cases hxl : x < rf.length
      .rw [decide_eq_true (by omega), cond_true, if_pos (by omega), if_pos (by omega), qvd]
       have hd : (rf.drop x).any (fun x => x.1 == (nd T i).1) = (((rf.getD x (qc UInt8, Int.ofNat (nat_lit 0))).1 == (nd T i).1) || (rf.drop (x + 1)).any (fun x => x.1 == (nd T i).1)) := by
        rw [List.getD_eq_getElem?_getD, List.getElem?_eq_getElem hxl, List.drop_eq_getElem_cons hxl, List.any_cons]; rfl
       refine ql (x := some (((), W, (), (), (), (i : Int), atV W (nd T i).1, b && !((rf.getD x (qc UInt8, Int.ofNat (nat_lit 0))).1 == (nd T i).1), (x : Int), ()), (T, t0, ch, rf, bad, trees, ()), TO o, (List.range i).map (spkV T W o rf), (List.range i).map (grpV T W o rf), ())) ?_ ?_
       .rw [Int.toNat_natCast]
        cases (rf.getD x (qc UInt8, Int.ofNat (nat_lit 0))).1 == (nd T i).1 with
        | true => rw [cond_true, Bool.not_true, Bool.and_false]
        | false => rw [cond_false, Bool.not_false, Bool.and_true]
       .rw [Option.bind_some]
        dsimp only;rw [wr1 _ (by omega), hk2 (rf.length - (x + 1)) _ (by omega) ⟨x + 1, _, rfl, by omega, rfl⟩];dsimp only;rw [Int.toNat_natCast, Int.toNat_natCast, hd, Bool.not_or, Bool.and_assoc]
      .obtain rfl : x = rf.length := by omega
       rw [decide_eq_false (by omega), cond_false, Int.toNat_natCast, List.drop_length];simp
     .rfl
    .rw [Option.bind_some]
     dsimp only;rw [if_pos (by simp only [List.length_map, List.length_range, List.length_cons, List.length_nil]; omega)];refine ql (x := some (((), W, (), (), (), (i : Int), ()), (T, t0, ch, rf, bad, trees, ()), TO o, (List.range (i + 1)).map (spkV T W o rf), (List.range (i + 1)).map (grpV T W o rf), ())) ?_ ?_
     .rw [qZk, qZk]
      have hb : ∀ x : Int, ((List.map (grpV T W o rf) (List.range i)).length + [x].length) * 8 <= 140737488355328 := fun x => by simp only [List.length_map, List.length_range, List.length_cons, List.length_nil]; omega
      cases hs : spkV T W o rf i with
      | false =>
       have hg : grpV T W o rf i = gr (nd T i) := by unfold grpV; rw [hs, if_neg (by decide)]
       rw [cond_false, if_pos (by omega), qvd, if_pos (hb _), hg]; rfl
      | true =>
       have hg : grpV T W o rf i = gr ((getP W (nd T i).1).getD dN) := by unfold grpV; rw [hs, if_pos rfl]
       rw [cond_true];rcases qCe W (nd T i).1 with ⟨e1, e2⟩ | ⟨j, hj, e1, e2⟩
       .exfalso
        unfold spkV at hs;rw [e1] at hs;simp at hs
       .rw [e1, if_pos (by omega), qvd, if_pos (hb _), hg, e2]; rfl
     .rw [Option.bind_some]
      dsimp only;rw [wr1 _ (by omega)];exact hk (T.length - (i + 1)) _ (by omega) ⟨i + 1, rfl, hil, rfl⟩
  .obtain rfl : i = T.length := by omega
   rw [decide_eq_false (by omega), cond_false]
 .rw [Option.bind_some]
  dsimp only;refine ql (x := some (((), (), ()), (T, t0, ch, rf, bad, trees, ()), (qTb T.length (qOu T W o rf) T.length).1, ())) ?_ ?_
  .have hm : ∀ i k, qOu T W o rf i k = (!(k == i) && (!(grpV T W o rf i == 0) && ((grpV T W o rf k == grpV T W o rf i) && ((spkV T W o rf k == spkV T W o rf i) && qKl (nd T i) (nd T k))))) := fun _ _ => rfl
   generalize hM : qOu T W o rf = M at hm;refine qu _ (fun n t => ∃ i : Nat, t = (((), (), (), (qTb T.length M i).2, (), (i : Int), ()), (T, t0, ch, rf, bad, trees, ()), (List.range T.length).map (spkV T W o rf), (List.range T.length).map (grpV T W o rf), (qTb T.length M i).1, ()) /\ i <= T.length /\ n = T.length - i)
    (fun _ => some (((), (), ()), (T, t0, ch, rf, bad, trees, ()), (qTb T.length M T.length).1, ())) ?_ _ T.length _ ⟨0, rfl, Nat.zero_le _, rfl⟩ (by first | omega | (dsimp only; omega))
   rintro n t k ⟨i, rfl, hi, rfl⟩ hk;dsimp only
   by_cases hil : i < T.length
   .have hfl := qGi T.length M i
    have hfn := qrm T.length M i;have hsucc : qTb T.length M (i + 1) = if (anyF (M i) T.length && (curF (M i) (qTb T.length M i).1 i T.length == 0)) = true then ((qTb T.length M i).1 ++ [(qTb T.length M i).2 + 1], (qTb T.length M i).2 + 1)
        else ((qTb T.length M i).1 ++ [curF (M i) (qTb T.length M i).1 i T.length], (qTb T.length M i).2) := rfl
    generalize hF : (qTb T.length M i).1 = F at hfl hsucc;generalize hN : (qTb T.length M i).2 = N at hfn hsucc;rw [decide_eq_true (by omega), cond_true, if_pos (by simp only [List.length_cons, List.length_nil]; omega)];have hlen : ∀ x : Int, (F ++ [x]).length = i + 1 := fun x => by rw [List.length_append, hfl]; rfl
    have hset : ∀ x y : Int, List.set (F ++ [x]) (Int.toNat ((i : Nat) : Int)) y = F ++ [y] := fun x y => by
     rw [Int.toNat_natCast, List.set_append, if_neg (by omega), hfl, Nat.sub_self]; rfl
    have hgi : ∀ x d : Int, List.getD (F ++ [x]) (Int.toNat ((i : Nat) : Int)) d = x := fun x d => by
     rw [Int.toNat_natCast, List.getD_eq_getElem?_getD, List.getElem?_append_right (by omega), hfl, Nat.sub_self]; rfl
    have hgk : ∀ (x d : Int) (q : Nat), q < i -> List.getD (F ++ [x]) (Int.toNat ((q : Nat) : Int)) d = F.getD q d := fun x d q hq => by
     rw [Int.toNat_natCast, List.getD_eq_getElem?_getD, List.getElem?_append_left (by omega), List.getD_eq_getElem?_getD]
    refine ql (x := some (((), (), (), N, (), (i : Int), anyF (M i) T.length, ()), (T, t0, ch, rf, bad, trees, ()), (List.range T.length).map (spkV T W o rf), (List.range T.length).map (grpV T W o rf), F ++ [curF (M i) F i T.length], ())) ?_ ?_
    .refine qu _ (fun n t => ∃ q : Nat, t = (((), (), (), N, (), (i : Int), anyF (M i) q, (q : Int), ()), (T, t0, ch, rf, bad, trees, ()), (List.range T.length).map (spkV T W o rf), (List.range T.length).map (grpV T W o rf), F ++ [curF (M i) F i q], ()) /\ q <= T.length /\ n = T.length - q)
      (fun _ => some (((), (), (), N, (), (i : Int), anyF (M i) T.length, ()), (T, t0, ch, rf, bad, trees, ()), (List.range T.length).map (spkV T W o rf), (List.range T.length).map (grpV T W o rf), F ++ [curF (M i) F i T.length], ())) ?_ _ T.length _ ⟨0, rfl, Nat.zero_le _, rfl⟩ (by first | omega | (dsimp only; omega))
     rintro n t k2 ⟨q, rfl, hq, rfl⟩ hk2;dsimp only
     by_cases hql : q < T.length
     .rw [decide_eq_true (by omega), cond_true]
      have hcs : curF (M i) F i (q + 1) = if (M i q && (decide (q < i) && (curF (M i) F i q == 0))) = true then F.getD q 0 else curF (M i) F i q := rfl
      have has : anyF (M i) (q + 1) = (anyF (M i) q || M i q) := rfl;have hrec : k2 (((), (), (), N, (), (i : Int), anyF (M i) (q + 1), ((q + 1 : Nat) : Int), ()), (T, t0, ch, rf, bad, trees, ()), (List.range T.length).map (spkV T W o rf), (List.range T.length).map (grpV T W o rf), F ++ [curF (M i) F i (q + 1)], ()) = _ := hk2 (T.length - (q + 1)) _ (by omega) ⟨q + 1, rfl, by omega, rfl⟩;refine ql (x := some (((), (), (), N, (), (i : Int), anyF (M i) (q + 1), (q : Int), ()), (T, t0, ch, rf, bad, trees, ()), (List.range T.length).map (spkV T W o rf), (List.range T.length).map (grpV T W o rf), F ++ [curF (M i) F i (q + 1)], ())) ?_ ?_
      .rw [if_pos (by omega), if_pos (by omega)]
       refine ql (x := some (((), (), (), N, (), (i : Int), anyF (M i) q, (q : Int), !(M i q), ()), (T, t0, ch, rf, bad, trees, ()), (List.range T.length).map (spkV T W o rf), (List.range T.length).map (grpV T W o rf), F ++ [curF (M i) F i q], ())) ?_ ?_
       .rw [hm]
        have hqi : (((q : Nat) : Int) == ((i : Nat) : Int)) = (q == i) := by
         rw [Bool.eq_iff_iff, beq_iff_eq, beq_iff_eq]; omega
        rw [hqi];cases q == i with
        | true => rfl
        | false =>
         simp only [cond_false, Bool.not_false, Bool.true_and, List.length_map, List.length_range];have hti : Int.toNat ((i : Nat) : Int) < T.length := by omega
         have htq : Int.toNat ((q : Nat) : Int) < T.length := by omega
         rw [if_pos (by omega), if_pos hti];rw [show List.getD ((List.range T.length).map (grpV T W o rf)) (Int.toNat ((i : Nat) : Int)) (Int.ofNat (nat_lit 0)) = grpV T W o rf i from by rw [Int.toNat_natCast, qFi _ _ _ _ hil]];cases grpV T W o rf i == 0 with
         | true => rfl
         | false =>
          simp only [cond_false, Bool.not_false, Bool.true_and];rw [if_pos (by omega), if_pos htq, if_pos (by omega), if_pos hti];rw [show List.getD ((List.range T.length).map (grpV T W o rf)) (Int.toNat ((q : Nat) : Int)) (Int.ofNat (nat_lit 0)) = grpV T W o rf q from by rw [Int.toNat_natCast, qFi _ _ _ _ hql]];rw [show (grpV T W o rf q != grpV T W o rf i) = !(grpV T W o rf q == grpV T W o rf i) from rfl];cases grpV T W o rf q == grpV T W o rf i with
          | false => rfl
          | true =>
           simp only [cond_false, Bool.not_true, Bool.true_and];rw [if_pos (by omega), if_pos htq, if_pos (by omega), if_pos hti];rw [show List.getD ((List.range T.length).map (spkV T W o rf)) (Int.toNat ((q : Nat) : Int)) false = spkV T W o rf q from by rw [Int.toNat_natCast, qFi _ _ _ _ hql]];rw [show List.getD ((List.range T.length).map (spkV T W o rf)) (Int.toNat ((i : Nat) : Int)) false = spkV T W o rf i from by rw [Int.toNat_natCast, qFi _ _ _ _ hil]];cases spkV T W o rf q == spkV T W o rf i with
           | false => rfl
           | true =>
            simp only [cond_false, Bool.not_true, Bool.true_and];rw [qvd, qvd];unfold qKl;rw [show ((nd T i).2.2.1 != (nd T q).2.2.1) = !((nd T i).2.2.1 == (nd T q).2.2.1) from rfl, show ((nd T i).2.2.2.1 != (nd T q).2.2.2.1) = !((nd T i).2.2.2.1 == (nd T q).2.2.2.1) from rfl];cases (nd T i).2.2.1 == (nd T q).2.2.1 <;> cases (nd T i).2.2.2.1 == (nd T q).2.2.2.1 <;> rfl
       .rw [Option.bind_some]
        dsimp only;rw [hcs, has];cases hMq : M i q with
        | false =>
         rw [Bool.not_false, cond_true, Bool.false_and, if_neg (by decide), Bool.or_false]
        | true =>
         rw [Bool.not_true, cond_false, Bool.true_and, Bool.or_true];refine ql (x := some (((), (), (), N, (), (i : Int), true, (q : Int), (decide (q < i) && (curF (M i) F i q == 0)), ()), (T, t0, ch, rf, bad, trees, ()), (List.range T.length).map (spkV T W o rf), (List.range T.length).map (grpV T W o rf), F ++ [curF (M i) F i q], ())) ?_ ?_
         .by_cases hqi : q < i
          .rw [decide_eq_true (show ((q : Nat) : Int) < (i : Nat) by omega), cond_true, hlen, if_pos (by omega), if_pos (by omega), hgi, decide_eq_true hqi, Bool.true_and]
          .rw [decide_eq_false (show ¬ ((q : Nat) : Int) < (i : Nat) by omega), cond_false, decide_eq_false hqi, Bool.false_and]
         .rw [Option.bind_some]
          dsimp only
          by_cases hqi : q < i
          .rw [decide_eq_true hqi, Bool.true_and]
           cases curF (M i) F i q == 0 with
           | false => rw [cond_false, Option.bind_some, if_neg (by decide)]
           | true => rw [cond_true, hlen, if_pos (by omega), if_pos (by omega), if_pos (by omega), if_pos (by omega), Option.bind_some, hset, hgk _ _ q hqi, if_pos rfl]; rfl
          .rw [decide_eq_false hqi, Bool.false_and, cond_false, Option.bind_some, if_neg (by decide)]
      .rw [Option.bind_some]
       dsimp only;rw [wr1 _ (by omega)];exact hrec
     .obtain rfl : q = T.length := by omega
      rw [decide_eq_false (by omega), cond_false]
    .rw [Option.bind_some]
     dsimp only;generalize hA : anyF (M i) T.length = A at hsucc;generalize hC : curF (M i) F i T.length = C at hsucc;refine ql (x := some (((), (), (), N, (), (i : Int), (A && (C == 0)), ()), (T, t0, ch, rf, bad, trees, ()), (List.range T.length).map (spkV T W o rf), (List.range T.length).map (grpV T W o rf), F ++ [C], ())) ?_ ?_
     .cases A with
      | false => rfl
      | true => rw [cond_true, hlen, if_pos (by omega), if_pos (by omega), hgi]; rfl
     .rw [Option.bind_some]
      dsimp only;refine ql (x := some (((), (), (), (qTb T.length M (i + 1)).2, (), (i : Int), ()), (T, t0, ch, rf, bad, trees, ()), (List.range T.length).map (spkV T W o rf), (List.range T.length).map (grpV T W o rf), (qTb T.length M (i + 1)).1, ())) ?_ ?_
      .rw [hsucc]
       cases hAC : (A && (C == 0)) with
       | false => rw [cond_false, if_neg (by decide)]
       | true => rw [cond_true, if_pos rfl, hlen, if_pos (by omega), if_pos (by omega), hset, wr _ (by omega)]
      .rw [Option.bind_some]
       dsimp only;rw [wr1 _ (by omega)];exact hk (T.length - (i + 1)) _ (by omega) ⟨i + 1, rfl, hil, rfl⟩
   .obtain rfl : i = T.length := by omega
    rw [decide_eq_false (by omega), cond_false]
  .rw [Option.bind_some]
   dsimp only;rw [if_pos (by simp only [qc, List.length_nil]; omega)];have hfl := qGi T.length (qOu T W o rf) T.length;generalize hF : (qTb T.length (qOu T W o rf) T.length).1 = F at hfl;refine ql (x := some (((), (), ()), (T, t0, ch, rf, bad, trees, ()), regV T W o rf, ())) ?_ rfl;have hreg : regV T W o rf = (List.range T.length).map (fun i => setG (nd T i) (F.getD i 0)) := by unfold regV; rw [hF]
   refine qu _ (fun n t => ∃ i : Nat, t = (((), (), (), (i : Int), ()), (T, t0, ch, rf, bad, trees, ()), F, (List.range i).map (fun i => setG (nd T i) (F.getD i 0)) ++ T.drop i, ()) /\ i <= T.length /\ n = T.length - i)
    (fun _ => some (((), (), ()), (T, t0, ch, rf, bad, trees, ()), regV T W o rf, ())) ?_ _ T.length _ ⟨0, rfl, Nat.zero_le _, rfl⟩ (by first | omega | (dsimp only; omega))
   rintro n t k ⟨i, rfl, hi, rfl⟩ hk;dsimp only;have hlen : ((List.range i).map (fun i => setG (nd T i) (F.getD i 0)) ++ T.drop i).length = T.length := by
    rw [List.length_append, List.length_map, List.length_range, List.length_drop]; omega
   rw [hlen]
   by_cases hil : i < T.length
   .rw [decide_eq_true (by omega), cond_true, if_pos (by omega), if_pos (by omega), if_pos (by omega), if_pos (by omega)]
    have hgd : List.getD ((List.range i).map (fun i => setG (nd T i) (F.getD i 0)) ++ T.drop i) (Int.toNat ((i : Nat) : Int)) zN = nd T i := by
     rw [Int.toNat_natCast, List.getD_eq_getElem?_getD, List.getElem?_append_right (by simp)];simp only [List.length_map, List.length_range, Nat.sub_self, List.getElem?_drop, Nat.add_zero];unfold nd;rw [List.getD_eq_getElem?_getD]; rfl
    rw [hgd, wr1 _ (by omega)];refine hk (T.length - (i + 1)) _ (by omega) ⟨i + 1, ?_, hil, rfl⟩;congr 4;rw [Int.toNat_natCast, qZk, qdw hil];rw [List.set_append, if_neg (by simp)];simp only [List.length_map, List.length_range, Nat.sub_self, List.set_cons_zero];rw [List.append_assoc];rfl
   .obtain rfl : i = T.length := by omega
    rw [decide_eq_false (by omega), cond_false, List.drop_length, List.append_nil, hreg]
def sgn (b : Bool) (s : List UInt8) : List UInt8 := cond b s [46]
theorem sgn1 (b : Bool) (x : UInt8) : (sgn b [x]).length = 1 := by cases b <;> rfl
theorem sgn2 (b c : Bool) (x y : UInt8) : (sgn b (cond c [x] [y])).length = 1 := by cases b <;> cases c <;> rfl
theorem qtv (b : Bool) (s : List UInt8) : qme b s = some (sgn b s, ()) := by unfold qme; cases b <;> rfl
def sub3 (k : Int) : List UInt8 := List.drop (Int.toNat k) (List.take (Int.toNat (k + 1)) [100, 102, 76])
theorem qHt (k : Int) : (List.drop (Int.toNat k) (List.take (Int.toNat (k + 1)) ([100, 102, 76] : List UInt8))).length <= 3 := by
 rw [List.length_drop, List.length_take]; show min _ 3 - _ <= 3; omega
def qJy : List UInt8 := [42, 100, 101, 108, 101, 116, 105, 110, 103, 32, 32]
def qeq (kd nk : Int) : List UInt8 := cond (kd == 3) [46] (cond (nk == 1) [62] [99])
theorem qQq (kd nk : Int) : (qeq kd nk).length = 1 := by unfold qeq; cases kd == 3 <;> cases nk == 1 <;> rfl
def qBu (times : Bool) (kd nk : Int) (content lens tm md : Bool) : List UInt8 :=
 cond (kd == 0) qJy (cond (kd == 1 || kd == 4) (qeq kd nk ++ sub3 nk ++ [43, 43, 43, 43, 43, 43, 43, 43, 43])
  (qeq kd nk ++ sub3 nk ++ sgn content [99] ++ sgn lens [115] ++ sgn tm (cond times [116] [84]) ++ sgn md [112] ++ [46, 46, 46, 46, 46]))
theorem rep9 : qyb [43] 9 = some ([43, 43, 43, 43, 43, 43, 43, 43, 43], ()) := by
 unfold qyb qzk; rfl
theorem rep5 : qyb [46] 5 = some ([46, 46, 46, 46, 46], ()) := by
 unfold qyb qzk; rfl
theorem qCv (c : qxb) (o : qA) (h : c.1 = 0 ∨ 0 <= c.2.2.2.2.1 /\ c.2.2.2.2.1 <= 2) :
    qug c o = some (qBu o.2.2.2.1 c.1 c.2.2.2.2.1 ((o.2.2.2.2.2.1 && (c.2.2.2.2.1 == 1 && !(c.2.2.2.2.2.2.2.1 == c.2.2.1.2.2.2.2.1))) || (c.2.2.2.2.1 == 2 && !(c.2.2.2.2.2.2.2.2.1 == c.2.2.1.2.2.2.2.2.1)))
     ((c.2.2.2.2.2.2.2.1.length : Int) != (c.2.2.1.2.2.2.2.1.length : Int)) (c.2.2.2.2.2.2.1 != c.2.2.1.2.2.2.1) (c.2.2.2.2.2.1 != c.2.2.1.2.2.1), ()) := by
 obtain ⟨kd, path, ⟨op, ok, om, ot, od, otg, og⟩, ⟨np, nk, nm, nt, nd, ntg, ng⟩⟩ := c
 obtain ⟨r, l, pp, t, hd, ck, so, dry, wh, up, ex, ig, fz, dl, bk, suf, dir⟩ := o
 dsimp only at h
 unfold qug qBu
 dsimp only
 cases hk0 : kd == 0 with
 | true => rfl
 | false =>
  simp only [cond_false];have h := h.resolve_left (by simpa using hk0);refine qz (x := (((), (), (), (), qeq kd nk, ()), (kd, path, op, ok, om, ot, od, otg, og, np, nk, nm, nt, nd, ntg, ng, ()), (r, l, pp, t, hd, ck, so, dry, wh, up, ex, ig, fz, dl, bk, suf, dir, ()), (np, nk, nm, nt, nd, ntg, ng, ()), (op, ok, om, ot, od, otg, og, ()), ())) ?_ ?_
  .unfold qeq; cases kd == 3 <;> cases nk == 1 <;> rfl
  .dsimp only
   have hs3 := qHt nk;have hh := qQq kd nk;rw [wr (nk + 1) (by omega), if_pos (by simp only [List.length_cons, List.length_nil]; omega), if_pos (by show _ < 9223372036854775808; omega)];refine qz (x := (((), (), (), qeq kd nk ++ sub3 nk, (kd == 1 || kd == 4), ()), (r, l, pp, t, hd, ck, so, dry, wh, up, ex, ig, fz, dl, bk, suf, dir, ()), (np, nk, nm, nt, nd, ntg, ng, ()), (op, ok, om, ot, od, otg, og, ()), ())) ?_ ?_
   .cases kd == 1 <;> rfl
   .dsimp only
    have hs3' : (sub3 nk).length <= 3 := hs3;cases (kd == 1 || kd == 4) with
    | true =>
     simp only [cond_true, rep9, Option.bind_some];rw [if_pos (by simp only [List.length_append, List.length_cons, List.length_nil]; show _ < 9223372036854775808; omega)]
    | false =>
     simp only [cond_false];refine qz (x := (((), (), (), qeq kd nk ++ sub3 nk, cond t [116] [84], ()), (r, l, pp, t, hd, ck, so, dry, wh, up, ex, ig, fz, dl, bk, suf, dir, ()), (np, nk, nm, nt, nd, ntg, ng, ()), (op, ok, om, ot, od, otg, og, ()), ())) ?_ ?_
     .cases t <;> rfl
     .dsimp only
      refine qz (x := (((), (), qeq kd nk ++ sub3 nk, cond t [116] [84], ((ck && (nk == 1 && !(nd == od))) || (nk == 2 && !(ntg == otg))), ()), (np, nk, nm, nt, nd, ntg, ng, ()), (op, ok, om, ot, od, otg, og, ()), ())) ?_ ?_
      .cases ck <;> cases nk == 1 <;> cases nd == od <;> cases nk == 2 <;> rfl
      .simp only [qtv, Option.bind_some, rep5]
       have e1 := sgn1 ((ck && (nk == 1 && !(nd == od))) || (nk == 2 && !(ntg == otg))) 99;have e2 := sgn1 ((nd.length : Int) != (od.length : Int)) 115;have e3 := sgn2 (nt != ot) t 116 84;have e4 := sgn1 (nm != om) 112;rw [if_pos (by simp only [List.length_append]; show _ < 9223372036854775808; omega), if_pos (by simp only [List.length_append]; show _ < 9223372036854775808; omega), if_pos (by simp only [List.length_append]; show _ < 9223372036854775808; omega), if_pos (by simp only [List.length_append]; show _ < 9223372036854775808; omega), if_pos (by simp only [List.length_append, List.length_cons, List.length_nil]; show _ < 9223372036854775808; omega)]
theorem qOt (c : qxb) : qPb c = some (cond (c.1 == 0) c.2.2.1 c.2.2.2, ()) := by
 unfold qPb; cases c.1 == 0 <;> rfl
def qvk (c : qxb) (o : qA) : Bool := inI c.1 0 4 && (qNd o && qt (cond (c.1 == 0) c.2.2.1 c.2.2.2))
def qqj (c : qxb) : Bool := c.1 == 0 || ((c.1 == 1 || c.1 == 4) || (qt c.2.2.1 && c.2.2.1.2.1 == c.2.2.2.2.1))
def qal (c : qxb) (o : qA) : List UInt8 :=
 cond (qvk c o && qqj c) (qBu o.2.2.2.1 c.1 c.2.2.2.2.1 ((o.2.2.2.2.2.1 && (c.2.2.2.2.1 == 1 && !(c.2.2.2.2.2.2.2.1 == c.2.2.1.2.2.2.2.1))) || (c.2.2.2.2.1 == 2 && !(c.2.2.2.2.2.2.2.2.1 == c.2.2.1.2.2.2.2.2.1)))
     ((c.2.2.2.2.2.2.2.1.length : Int) != (c.2.2.1.2.2.2.2.1.length : Int)) (c.2.2.2.2.2.2.1 != c.2.2.1.2.2.2.1) (c.2.2.2.2.2.1 != c.2.2.1.2.2.1)) []
theorem qoo {k m g : Int} {d t : List UInt8} (h : qbc k m d t g = true) : (k = 0 /\ d = [] /\ t = []) ∨ (k = 1 /\ t = []) ∨ (k = 2 /\ d = []) := by
 unfold qbc at h
 cases h0 : k == 0 with
 | true =>
  rw [h0] at h;simp at h h0;exact .inl ⟨h0, h.1, h.2.1⟩
 | false =>
  rw [h0] at h;simp only [cond_false] at h;cases h1 : k == 1 with
  | true =>
   rw [h1] at h;simp at h h1;exact .inr (.inl ⟨h1, h.2.1⟩)
  | false =>
   rw [h1] at h;simp only [cond_false] at h;cases h2 : k == 2 with
   | true =>
    rw [h2] at h;simp at h h2;exact .inr (.inr ⟨h2, h.1.1⟩)
   | false => rw [h2] at h; cases h
theorem qsm {x : qa} (h : qt x = true) : (x.2.1 = 0 /\ x.2.2.2.2.1 = [] /\ x.2.2.2.2.2.1 = []) ∨ (x.2.1 = 1 /\ x.2.2.2.2.2.1 = []) ∨ (x.2.1 = 2 /\ x.2.2.2.2.1 = []) := by
 unfold qt at h
 rw [Bool.and_eq_true] at h
 exact qoo h.2
theorem qOr (c : qxb) (o : qA) (h1 : o.2.2.2.2.2.2.2.2.2.2.2.2.2.2.2.1.length <= 1048576) (h2 : o.2.2.2.2.2.2.2.2.2.2.2.2.2.2.2.2.length <= 1048576) : qBg c o = some (qal c o, ()) := by
 have hI := qCv c o
 unfold qBg qal
 refine qz (x := (((), (), !qvk c o, ()), (c.1, c.2.1, c.2.2.1.1, c.2.2.1.2.1, c.2.2.1.2.2.1, c.2.2.1.2.2.2.1, c.2.2.1.2.2.2.2.1, c.2.2.1.2.2.2.2.2.1, c.2.2.1.2.2.2.2.2.2, c.2.2.2.1, c.2.2.2.2.1, c.2.2.2.2.2.1, c.2.2.2.2.2.2.1, c.2.2.2.2.2.2.2.1, c.2.2.2.2.2.2.2.2.1, c.2.2.2.2.2.2.2.2.2, ()), (o.1, o.2.1, o.2.2.1, o.2.2.2.1, o.2.2.2.2.1, o.2.2.2.2.2.1, o.2.2.2.2.2.2.1, o.2.2.2.2.2.2.2.1, o.2.2.2.2.2.2.2.2.1, o.2.2.2.2.2.2.2.2.2.1, o.2.2.2.2.2.2.2.2.2.2.1, o.2.2.2.2.2.2.2.2.2.2.2.1, o.2.2.2.2.2.2.2.2.2.2.2.2.1, o.2.2.2.2.2.2.2.2.2.2.2.2.2.1, o.2.2.2.2.2.2.2.2.2.2.2.2.2.2.1, o.2.2.2.2.2.2.2.2.2.2.2.2.2.2.2.1, o.2.2.2.2.2.2.2.2.2.2.2.2.2.2.2.2, ()), ())) ?_ ?_
 .unfold qvk inI
  rw [qrg, Option.bind_some];cases (decide (c.1 >= 0) && decide (c.1 <= 4)) with
  | false => rfl
  | true =>
   simp only [Bool.not_true, cond_false, Bool.true_and];rw [qXr o h1 h2, Option.bind_some];cases qNd o with
   | false => rfl
   | true =>
    simp only [Bool.not_true, cond_false, Bool.true_and];rw [qOt, Option.bind_some, qen, Option.bind_some]
 .dsimp only
  cases hok : qvk c o with
  | false => rfl
  | true =>
   simp only [Bool.not_true, cond_false, Bool.true_and];have hin : 0 <= c.1 /\ c.1 <= 4 := by
    unfold qvk inI at hok;simp only [Bool.and_eq_true, decide_eq_true_eq] at hok;exact hok.1
   have hno : qt (cond (c.1 == 0) c.2.2.1 c.2.2.2) = true := by
    unfold qvk at hok;simp only [Bool.and_eq_true] at hok;exact hok.2.2
   refine qz (x := (((), (), !qqj c, ()), (c.1, c.2.1, c.2.2.1.1, c.2.2.1.2.1, c.2.2.1.2.2.1, c.2.2.1.2.2.2.1, c.2.2.1.2.2.2.2.1, c.2.2.1.2.2.2.2.2.1, c.2.2.1.2.2.2.2.2.2, c.2.2.2.1, c.2.2.2.2.1, c.2.2.2.2.2.1, c.2.2.2.2.2.2.1, c.2.2.2.2.2.2.2.1, c.2.2.2.2.2.2.2.2.1, c.2.2.2.2.2.2.2.2.2, ()), (o.1, o.2.1, o.2.2.1, o.2.2.2.1, o.2.2.2.2.1, o.2.2.2.2.2.1, o.2.2.2.2.2.2.1, o.2.2.2.2.2.2.2.1, o.2.2.2.2.2.2.2.2.1, o.2.2.2.2.2.2.2.2.2.1, o.2.2.2.2.2.2.2.2.2.2.1, o.2.2.2.2.2.2.2.2.2.2.2.1, o.2.2.2.2.2.2.2.2.2.2.2.2.1, o.2.2.2.2.2.2.2.2.2.2.2.2.2.1, o.2.2.2.2.2.2.2.2.2.2.2.2.2.2.1, o.2.2.2.2.2.2.2.2.2.2.2.2.2.2.2.1, o.2.2.2.2.2.2.2.2.2.2.2.2.2.2.2.2, ()), ())) ?_ ?_
   .have hn1 : qFb c.2.2.1 = some (qt c.2.2.1, ()) := qen _
    unfold qqj;have hc : c.1 = 0 ∨ c.1 = 1 ∨ c.1 = 2 ∨ c.1 = 3 ∨ c.1 = 4 := by omega
    rcases hc with e | e | e | e | e <;> rw [e]
    .rfl
    .rfl
    .show Option.bind (qFb c.2.2.1) _ = _
     rw [hn1, Option.bind_some];cases qt c.2.2.1 with
     | false => rfl
     | true => rfl
    .show Option.bind (qFb c.2.2.1) _ = _
     rw [hn1, Option.bind_some];cases qt c.2.2.1 with
     | false => rfl
     | true => rfl
    .rfl
   .dsimp only
    cases qqj c with
    | false => rfl
    | true =>
     simp only [Bool.not_true, cond_false, cond_true]
     show Option.bind (qug c o) _ = _
     rw [hI ?_, Option.bind_some]
     by_cases e0 : c.1 = 0
     .exact .inl e0
     .right
      have hb : (c.1 == 0) = false := by simp [e0]
      rw [hb] at hno;have hno : qt c.2.2.2 = true := hno;rcases qsm hno with h | h | h <;> omega
theorem qnv (t : Bool) (kd nk : Int) (a b c d : Bool) : (qBu t kd nk a b c d).length <= 40 := by
 unfold qBu
 have h1 := qQq kd nk
 have h2 : (sub3 nk).length <= 3 := qHt nk
 have e1 := sgn1 a 99
 have e2 := sgn1 b 115
 have e3 := sgn2 c t 116 84
 have e4 := sgn1 d 112
 cases kd == 0 with
 | true => show qJy.length <= 40; decide
 | false =>
  cases (kd == 1 || kd == 4) with
  | true => simp only [cond_true, cond_false, List.length_append, List.length_cons, List.length_nil]; omega
  | false => simp only [cond_true, cond_false, List.length_append, List.length_cons, List.length_nil]; omega
theorem qCq (c : qxb) (o : qA) : (qal c o).length <= 40 := by
 unfold qal
 cases (qvk c o && qqj c) with
 | false => exact Nat.zero_le _
 | true => exact qnv _ _ _ _ _ _ _
def qFe (c : qxb) (o : qA) : List UInt8 :=
 cond (qal c o == []) [] (qal c o ++ [32] ++ c.2.1 ++ cond ((cond (c.1 == 0) c.2.2.1 c.2.2.2).2.1 == 0) [47] [])
theorem qkr (c : qxb) (o : qA) (h1 : o.2.2.2.2.2.2.2.2.2.2.2.2.2.2.2.1.length <= 1048576) (h2 : o.2.2.2.2.2.2.2.2.2.2.2.2.2.2.2.2.length <= 1048576) (hp : c.2.1.length <= 1048576) : qNb c o = some (qFe c o, ()) := by
 unfold qNb qFe
 have hl := qCq c o
 refine qz (qOr c o h1 h2) ?_
 dsimp only
 simp only [qc]
 cases qal c o == [] with
 | true => rfl
 | false =>
  simp only [cond_false];rw [if_pos (by simp only [List.length_cons, List.length_nil]; show _ < 9223372036854775808; omega), if_pos (by simp only [List.length_append, List.length_cons, List.length_nil]; show _ < 9223372036854775808; omega)];refine qz (qOt c) ?_;dsimp only;unfold qei;cases (cond (c.1 == 0) c.2.2.1 c.2.2.2).2.1 == 0 with
  | true =>
   simp only [cond_true, Option.bind_some];rw [if_pos (by simp only [List.length_append, List.length_cons, List.length_nil]; show _ < 9223372036854775808; omega)]
  | false =>
   simp only [cond_false, Option.bind_some, qc];rw [if_pos (by simp only [List.length_append, List.length_cons, List.length_nil]; show _ < 9223372036854775808; omega)]
def iOf (s : List UInt8) : List Int := s.map (fun b => (b.toNat : Int))
theorem qzv (a b : List UInt8) : iOf (a ++ b) = iOf a ++ iOf b := List.map_append
theorem qys (a : List UInt8) : (iOf a).length = a.length := List.length_map ..
theorem qvw (s : List UInt8) : qel (iOf s) = s := by
 unfold qel iOf
 rw [List.map_map]
 exact (List.map_congr_left (fun x _ => by simp)).trans (List.map_id _)
theorem qan (a : List UInt8) (s : List Int) (h : s.length + a.length <= 140737488355328) : qN a () s = some (((a.length : Int), (), ()), (), s ++ iOf a, ()) := by
 unfold qN qRb
 rw [Option.bind_some]
 dsimp only
 rw [if_pos (by rw [List.length_map]; omega)]
 rfl
theorem qJj (s : List UInt8) (h : s.length <= 140737488355328) : qeb () (iOf s) = some (s, (), [], ()) := by
 unfold qeb
 rw [if_pos (by rw [qys]; exact h), qvw]
def dNi : qa := (qc UInt8, Int.ofNat (nat_lit 0), Int.ofNat (nat_lit 0), Int.ofNat (nat_lit 0), qc UInt8, qc UInt8, Int.ofNat (nat_lit 0))
def dC : qxb := (Int.ofNat (nat_lit 0), qc UInt8, dNi, dNi)
def delO (o : qA) : Int := o.2.2.2.2.2.2.2.2.2.2.2.2.2.1
def qRt (o : qA) (c : qxb) (p : List UInt8 × List UInt8) : List UInt8 × List UInt8 :=
 cond (qFe c o == []) p (cond (c.1 == 0 && delO o == 3) (p.1, p.2 ++ (qFe c o ++ [10])) (p.1 ++ (qFe c o ++ [10]), p.2))
def itI (cs : List qxb) (o : qA) : Nat -> List UInt8 × List UInt8
 | 0 => ([], [])
 | i + 1 => qRt o (cs.getD i dC) (itI cs o i)
def qFv (c : qxb) : Prop := c.2.1.length <= 1048576 /\ qjr c.2.2.1 /\ qjr c.2.2.2
theorem qMr (c : qxb) (o : qA) (h : c.2.1.length <= 1048576) : (qFe c o).length <= 1048700 := by
 unfold qFe
 have := qCq c o
 cases qal c o == [] with
 | true => exact Nat.zero_le _
 | false =>
  rw [cond_false];simp only [List.length_append, List.length_cons, List.length_nil];cases (cond (c.1 == 0) c.2.2.1 c.2.2.2).2.1 == 0
  .simp only [cond_false, List.length_nil]; omega
  .simp only [cond_true, List.length_cons, List.length_nil]; omega
theorem qnw (cs : List qxb) (o : qA) (h : ∀ c ∈ cs, qFv c) : ∀ i, i <= cs.length -> (itI cs o i).1.length + (itI cs o i).2.length <= i * 1048704
 | 0, _ => by simp [itI]
 | i + 1, hi => by
  have ih := qnw cs o h i (by omega);have hl := qMr (cs.getD i dC) o (h _ (qZb dC (by omega))).1;simp only [itI, qRt];generalize itI cs o i = p at ih ⊢;generalize qFe (cs.getD i dC) o = ln at hl ⊢;have e : (i + 1) * 1048704 = i * 1048704 + 1048704 := Nat.succ_mul _ _;rw [e];generalize i * 1048704 = b at ih ⊢;cases ln == [] with
  | true => rw [cond_true]; omega
  | false =>
   cases ((cs.getD i dC).1 == 0 && delO o == 3) with
   | true => simp only [cond_false, cond_true, List.length_append, List.length_cons, List.length_nil]; omega
   | false => simp only [cond_false, List.length_append, List.length_cons, List.length_nil]; omega
def oc (o : qA) := (o.1, o.2.1, o.2.2.1, o.2.2.2.1, o.2.2.2.2.1, o.2.2.2.2.2.1, o.2.2.2.2.2.2.1, o.2.2.2.2.2.2.2.1, o.2.2.2.2.2.2.2.2.1, o.2.2.2.2.2.2.2.2.2.1, o.2.2.2.2.2.2.2.2.2.2.1, o.2.2.2.2.2.2.2.2.2.2.2.1, o.2.2.2.2.2.2.2.2.2.2.2.2.1, o.2.2.2.2.2.2.2.2.2.2.2.2.2.1, o.2.2.2.2.2.2.2.2.2.2.2.2.2.2.1, o.2.2.2.2.2.2.2.2.2.2.2.2.2.2.2.1, o.2.2.2.2.2.2.2.2.2.2.2.2.2.2.2.2, ())
def qul (cs : List qxb) (o : qA) : List UInt8 := cond (decide (cs.length <= 1000)) ((itI cs o cs.length).1 ++ (itI cs o cs.length).2) []
theorem qlu (cs : List qxb) (h : ∀ c ∈ cs, qFv c) (o : qA) (h1 : o.2.2.2.2.2.2.2.2.2.2.2.2.2.2.2.1.length <= 1048576) (h2 : o.2.2.2.2.2.2.2.2.2.2.2.2.2.2.2.2.length <= 1048576) : qSg cs o = some (qul cs o, ()) := by
 unfold qSg qul
 by_cases hl : cs.length <= 1000
 .rw [decide_eq_false (by omega), cond_false, decide_eq_true hl, cond_true]
  have hlen := fun i hi => qnw cs o h i hi
  refine qz (qu _ (fun n t => ∃ i : Nat, t = (((), (), (), cs, (cs.length : Int), (i : Int), ()), oc o, (), iOf (itI cs o i).1, (), iOf (itI cs o i).2, ()) /\ i <= cs.length /\ n = cs.length - i)
   (fun _ => some (((), (), ()), (), iOf (itI cs o cs.length).1, (), iOf (itI cs o cs.length).2, ())) ?_ _ cs.length _ ⟨0, rfl, by omega, rfl⟩ (by omega)) ?_
  .rintro n t k ⟨i, rfl, hi, rfl⟩ hk
   dsimp only
   by_cases hlt : i < cs.length
   .rw [decide_eq_true (by omega), cond_true, if_pos (by omega), Int.toNat_natCast]
    have hL : qNb (cs.getD i dC) o = some (qFe (cs.getD i dC) o, ()) := qkr _ o h1 h2 (h _ (qZb dC hlt)).1;have hll := qMr (cs.getD i dC) o (h _ (qZb dC hlt)).1;have hli := hlen i hi;refine qz (show qNb (cs.getD i dC) o = _ from hL) ?_;dsimp only;refine qz (x := (((), (), (), cs, (cs.length : Int), (i : Int), ()), oc o, (), iOf (itI cs o (i + 1)).1, (), iOf (itI cs o (i + 1)).2, ())) ?_ ?_
    .simp only [itI, qRt, qc]
     cases qFe (cs.getD i dC) o == [] with
     | true => rfl
     | false =>
      simp only [cond_false];have hm : (if (qFe (cs.getD i dC) o).length + ([10] : List UInt8).length < 2 ^ 63 then True else False) := by
       rw [if_pos (by show _ < 9223372036854775808; simp only [List.length_cons, List.length_nil]; omega)]; trivial
      have hp : (qFe (cs.getD i dC) o).length + ([10] : List UInt8).length < 2 ^ 63 := by show _ < 9223372036854775808; simp only [List.length_cons, List.length_nil]; omega
      show Option.bind (bif (cs.getD i dC).1 == 0 then some (((), (), (), qFe (cs.getD i dC) o, cs, (cs.length : Int), (i : Int), delO o == 3, ()), oc o, (), iOf (itI cs o i).1, (), iOf (itI cs o i).2, ()) else some (((), (), (), qFe (cs.getD i dC) o, cs, (cs.length : Int), (i : Int), false, ()), oc o, (), iOf (itI cs o i).1, (), iOf (itI cs o i).2, ())) _ = _
      refine qz (x := (((), (), (), qFe (cs.getD i dC) o, cs, (cs.length : Int), (i : Int), (cs.getD i dC).1 == 0 && delO o == 3, ()), oc o, (), iOf (itI cs o i).1, (), iOf (itI cs o i).2, ())) ?_ ?_
      .cases (cs.getD i dC).1 == 0 <;> rfl
      .dsimp only
       cases ((cs.getD i dC).1 == 0 && delO o == 3) with
       | true =>
        simp only [cond_true];rw [if_pos hp, qan _ _ (by rw [qys, List.length_append]; simp only [List.length_cons, List.length_nil]; omega)];simp only [Option.bind_some];rw [qzv (itI cs o i).2]
       | false =>
        simp only [cond_false];rw [if_pos hp, qan _ _ (by rw [qys, List.length_append]; simp only [List.length_cons, List.length_nil]; omega)];simp only [Option.bind_some];rw [qzv (itI cs o i).1]
    .dsimp only
     rw [wr1 i (by omega)];exact hk (cs.length - (i + 1)) _ (by omega) ⟨i + 1, rfl, by omega, rfl⟩
   .have : i = cs.length := by omega
    subst this;rw [decide_eq_false (by omega)]; rfl
  .dsimp only
   have hli := hlen cs.length (by omega);rw [qJj _ (by omega), Option.bind_some, qJj _ (by omega), Option.bind_some];dsimp only;rw [if_pos (by show _ < 9223372036854775808; omega)]
 .rw [decide_eq_true (by omega), decide_eq_false hl]; rfl
variable {src dst : List qa} {o : qA} {r : List quc}
theorem qfu {o : qA} (h : qNd o = true) (hb : o.2.2.2.2.2.2.2.2.2.2.2.2.2.2.1 = true) (hd : o.2.2.2.2.2.2.2.2.2.2.2.2.2.2.2.2 ≠ []) : qj o.2.2.2.2.2.2.2.2.2.2.2.2.2.2.2.2 = true := by
 obtain ⟨a, b, c, d, e, ck, so, x, f, g, hh, i, j, del, bk, suf, dir⟩ := o
 dsimp only at hb hd ⊢
 subst hb
 unfold qNd at h
 simp only [cond_true, Bool.and_eq_true, Bool.or_eq_true] at h
 have := h.2.2.2.2.1
 rcases this with h1 | h1
 .exact absurd (by simpa using h1) hd
 .exact h1
theorem Drawn2.args (h : Drawn2 src dst o r) : Args src dst o r :=
 ⟨h.s3, h.d3, h.o1, by have := h.o2; omega, by have := h.o3; omega, qfu h.o1, h.rules, fun x hx => (h.r1 x hx).2⟩
theorem qIs (h : Args src dst o r) {now : Int} (hn : 0 <= now /\ now <= 1000000000) : qJi src dst o r now =
    some (if (runV src dst o r now).bad = true then (([], [], []), false, ()) else ((regV (runV src dst o r now).tree (qC src o r) o (runV src dst o r now).rf, (runV src dst o r now).ch, (runV src dst o r now).rf), true, ()), ()) := by
 unfold qJi
 have hin : qD now 0 1000000000 = some (true, ()) := by rw [qbq, decide_eq_true (by omega)]
 refine ql (x := some ((src, dst, r, now, (), (), false, ()), TO o, ((), (), (), ()), ())) ?_ ?_
 .rw [qGw h, Option.bind_some]
  simp only [Bool.not_true, cond_false];rw [hin, Option.bind_some]; rfl
 .rw [Option.bind_some]
  dsimp only;rw [cond_false];refine ql (qox h hn) ?_;rw [Option.bind_some];dsimp only;cases hb : (runV src dst o r now).bad with
  | true => rw [cond_true, if_pos rfl]
  | false =>
   rw [cond_false, if_neg (by decide)];refine ql (qZm h) ?_;rw [Option.bind_some];dsimp only;obtain ⟨g, _, _⟩ := qbm h hn (qC src o r).length (Nat.le_refl _);have hWl := (qJf h.s o r).len;have hlen := g.len; have hrf := g.rf;have e : runB src dst o r now (qC src o r).length = runV src dst o r now := rfl;rw [e] at hlen hrf;refine ql (qWs (runV src dst o r now).tree (qC src o r) (by omega) (by omega) o [] (runV src dst o r now).ch (runV src dst o r now).rf (by omega) false (runV src dst o r now).trees) ?_;rfl
theorem qut {c : qxb} {o : qA} (hc : ChOk c) (ho : qNd o = true) : (qal c o).length = 11 /\ (10 : UInt8) ∉ qal c o /\ (c.1 ≠ 0 -> ∃ x l, qal c o = x :: l /\ x ≠ 42) := by
 have hk := hc.k
 have h1 : qvk c o = true := by
  unfold qvk inI;rw [decide_eq_true (show c.1 >= 0 by omega), decide_eq_true (show c.1 <= 4 by omega), ho];simp only [Bool.true_and]
  by_cases h0 : c.1 = 0
  .rw [h0]; exact (hc.del h0).1
  .rw [show (c.1 == 0) = false from beq_eq_false_iff_ne.2 h0]; exact (hc.new h0).1
 have h2 : qqj c = true := by
  unfold qqj
  by_cases h0 : c.1 = 0
  .rw [h0]; rfl
  .by_cases h1 : c.1 = 1 ∨ c.1 = 4
   .rcases h1 with e | e <;> (rw [e]; simp)
   .have := hc.same (by omega)
    rw [this.1, this.2]; simp
 unfold qal
 rw [h1, h2]
 simp only [Bool.and_self, cond_true]
 generalize ((o.2.2.2.2.2.1 && (c.2.2.2.2.1 == 1 && !(c.2.2.2.2.2.2.2.1 == c.2.2.1.2.2.2.2.1))) || (c.2.2.2.2.1 == 2 && !(c.2.2.2.2.2.2.2.2.1 == c.2.2.1.2.2.2.2.2.1))) = b1
 generalize ((c.2.2.2.2.2.2.2.1.length : Int) != (c.2.2.1.2.2.2.2.1.length : Int)) = b2
 generalize (c.2.2.2.2.2.2.1 != c.2.2.1.2.2.2.1) = b3
 generalize (c.2.2.2.2.2.1 != c.2.2.1.2.2.1) = b4
 generalize o.2.2.2.1 = b5
 unfold qBu
 by_cases h0 : c.1 = 0
 .rw [h0]
  simp only [beq_self_eq_true, cond_true];exact ⟨by decide, by decide, fun h => absurd rfl h⟩
 .have hnk : c.2.2.2.2.1 = 0 ∨ c.2.2.2.2.1 = 1 ∨ c.2.2.2.2.1 = 2 := by
   have := (hc.new h0).1;rcases qsm this with h | h | h
   .exact .inl h.1
   .exact .inr (.inl h.1)
   .exact .inr (.inr h.1)
  rw [show (c.1 == 0) = false from beq_eq_false_iff_ne.2 h0, cond_false];have hkk : c.1 = 1 ∨ c.1 = 2 ∨ c.1 = 3 ∨ c.1 = 4 := by omega
  rcases hkk with e | e | e | e <;> rcases hnk with f | f | f <;> rw [e, f] <;>
   cases b1 <;> cases b2 <;> cases b3 <;> cases b4 <;> cases b5 <;> exact ⟨by decide, by decide, fun _ => ⟨_, _, rfl, by decide⟩⟩
theorem qdu {p : List UInt8} (h : qj p = true) : (10 : UInt8) ∉ p /\ 1 <= p.length := by
 refine ⟨fun hm => ?_, List.length_pos_iff.2 (qgk h)⟩
 have h' := h
 unfold qj at h'
 simp only [Bool.and_eq_true] at h'
 have hj := qAd p
 have key : ∀ (l : List (List UInt8)), l.all qCb = true -> (10 : UInt8) ∉ qhd l := by
  intro l
  induction l with
  | nil => intro _; exact List.not_mem_nil
  | cons x l ih =>
   intro hl;rw [List.all_cons, Bool.and_eq_true] at hl;have hx : (10 : UInt8) ∉ x := by
    intro hx;have hok := hl.1;unfold qCb at hok;simp only [Bool.and_eq_true] at hok;have := List.all_eq_true.1 hok.2.2.2 _ hx
    revert this; decide
   cases l with
   | nil => exact hx
   | cons y l =>
    show (10 : UInt8) ∉ x ++ 47 :: qhd (y :: l)
    intro h;rcases List.mem_append.1 h with h | h
    .exact hx h
    .rcases List.mem_cons.1 h with h | h
     .cases h
     .exact ih hl.2 h
 rw [<- hj] at hm
 exact key _ h'.2.2 hm
theorem qdl {c : qxb} {o : qA} (hc : ChOk c) (ho : qNd o = true) : 13 <= (qFe c o).length /\ (qFe c o).length <= 300 /\ (10 : UInt8) ∉ qFe c o /\ (c.1 ≠ 0 -> ∃ x l, qFe c o = x :: l /\ x ≠ 42) := by
 obtain ⟨h1, h2, h3⟩ := qut hc ho
 have hp : qj c.2.1 = true := by
  by_cases h0 : c.1 = 0
  .rw [(hc.del h0).2]; exact qG (hc.del h0).1
  .rw [(hc.new h0).2]; exact qG (hc.new h0).1
 obtain ⟨p1, p2⟩ := qdu hp
 have p3 := qad hp
 unfold qFe
 have hne : (qal c o == []) = false := by rw [beq_eq_false_iff_ne]; intro e; rw [e] at h1; cases h1
 rw [hne, cond_false]
 refine ⟨?_, ?_, ?_, ?_⟩
 .simp only [List.length_append, List.length_cons, List.length_nil]; omega
 .simp only [List.length_append, List.length_cons, List.length_nil]
  cases (cond (c.1 == 0) c.2.2.1 c.2.2.2).2.1 == 0
  .simp only [cond_false, List.length_nil]; omega
  .simp only [cond_true, List.length_cons, List.length_nil]; omega
 .intro h
  rcases List.mem_append.1 h with h | h
  .rcases List.mem_append.1 h with h | h
   .rcases List.mem_append.1 h with h | h
    .exact h2 h
    .simp at h
   .exact p1 h
  .cases hb : (cond (c.1 == 0) c.2.2.1 c.2.2.2).2.1 == 0
   .rw [hb] at h; cases h
   .rw [hb] at h; simp at h
 .intro h0
  obtain ⟨x, l, e, hx⟩ := h3 h0;exact ⟨x, _, by rw [e]; rfl, hx⟩
def qXh (cs : List qxb) (o : qA) : Nat -> Nat
 | 0 => 0
 | i + 1 => qXh cs o i + ((qFe (cs.getD i dC) o).length + 1)
theorem qfx {l : List UInt8} (h : (10 : UInt8) ∉ l) : l.countP (fun b => b.toNat == 10) = 0 := by
 rw [List.countP_eq_zero]
 intro b hb he
 have : b = 10 := by
  have h2 : b.toNat = 10 := by simpa using he
  exact UInt8.toNat_inj.1 h2
 exact h (this ▸ hb)
theorem qtr {cs : List qxb} {o : qA} (hc : ∀ c ∈ cs, ChOk c) (ho : qNd o = true) : ∀ i, i <= cs.length ->
    (itI cs o i).1.length + (itI cs o i).2.length = qXh cs o i /\ (itI cs o i).1.countP (fun b : UInt8 => b.toNat == 10) + (itI cs o i).2.countP (fun b : UInt8 => b.toNat == 10) = i /\
    (delO o = 3 -> ((itI cs o i).1 = [] ∨ ∃ x l, (itI cs o i).1 = x :: l /\ x ≠ 42)) /\ (delO o = 3 -> ∀ j, j < i -> (cs.getD j dC).1 ≠ 0 -> (itI cs o i).1 ≠ [])
 | 0, _ => ⟨rfl, rfl, fun _ => .inl rfl, fun _ j hj => by omega⟩
 | i + 1, hi => by
  obtain ⟨h1, h2, h3, h4⟩ := qtr hc ho i (by omega);obtain ⟨l1, l2, l3, l4⟩ := qdl (hc _ (qZb dC (show i < cs.length by omega))) ho;have hn : (qFe (cs.getD i dC) o == []) = false := by rw [beq_eq_false_iff_ne]; intro e; rw [e] at l1; simp at l1
  have e : itI cs o (i + 1) = cond ((cs.getD i dC).1 == 0 && delO o == 3) ((itI cs o i).1, (itI cs o i).2 ++ (qFe (cs.getD i dC) o ++ [10])) ((itI cs o i).1 ++ (qFe (cs.getD i dC) o ++ [10]), (itI cs o i).2) := by
   simp only [itI, qRt, hn, cond_false]
  have hcn : (qFe (cs.getD i dC) o ++ [10]).countP (fun b : UInt8 => b.toNat == 10) = 1 := by
   rw [List.countP_append, qfx l3]; rfl
  rw [e];cases hb : ((cs.getD i dC).1 == 0 && delO o == 3) with
  | true =>
   rw [Bool.and_eq_true, beq_iff_eq, beq_iff_eq] at hb;simp only [cond_true];refine ⟨?_, ?_, h3, fun hd j hj h0 => ?_⟩
   .simp only [List.length_append, List.length_cons, List.length_nil, qXh]; omega
   .rw [List.countP_append, hcn]; omega
   .by_cases e2 : j = i
    .subst e2; exact absurd hb.1 h0
    .exact h4 hd j (by omega) h0
  | false =>
   simp only [cond_false];refine ⟨?_, ?_, fun hd => ?_, fun hd j hj h0 => ?_⟩
   .simp only [List.length_append, List.length_cons, List.length_nil, qXh]; omega
   .rw [List.countP_append, hcn]; omega
   .right
    have h0 : (cs.getD i dC).1 ≠ 0 := by
     intro e2;rw [e2, hd] at hb;cases hb
    rcases h3 hd with e2 | ⟨x, l, e2, hx⟩
    .obtain ⟨x, l, e3, hx⟩ := l4 h0
     rw [e2, e3];exact ⟨x, l ++ [10], rfl, hx⟩
    .rw [e2]; exact ⟨x, _, rfl, hx⟩
   .simp
theorem qDp {cs : List qxb} {o : qA} (hc : ∀ c ∈ cs, ChOk c) (ho : qNd o = true) : ∀ i, i <= cs.length -> qXh cs o i <= i * 301
 | 0, _ => Nat.zero_le _
 | i + 1, hi => by
  have := qDp hc ho i (by omega);obtain ⟨_, l2, _, _⟩ := qdl (hc _ (qZb dC (show i < cs.length by omega))) ho;unfold qXh;omega
theorem qDv : (0 : Int) <= 500 /\ (500 : Int) <= 1000000000 := by decide
set_option maxHeartbeats 1000000 in
theorem law_Items2 (c : List Int) : qdh c = some (true, ()) := by
 unfold qdh qxk
 rw [Option.bind_some]
 dsimp only
 by_cases hc : c.length <= 1048576
 .rw [decide_eq_false (by omega), cond_false]
  refine qft (qvv c hc) ?_;rintro ⟨⟨src, dst, o, r, u⟩, u2⟩ hD;have hD : Drawn2 src dst o r := hD;dsimp only;have hA := hD.args;refine ql (qIs hA qDv) ?_;rw [Option.bind_some];dsimp only
  by_cases hb : (runV src dst o r 500).bad = true
  .rw [if_pos hb]; rfl
  .rw [if_neg hb]
   simp only [Bool.not_true, cond_false];obtain ⟨g, _, gl⟩ := qbm hA qDv (qC src o r).length (Nat.le_refl _);obtain ⟨_, gd⟩ := qNp hA qDv (qJ src dst o r).length (Nat.le_refl _);have hWl := (qJf hA.s o r).len;have e : runB src dst o r 500 (qC src o r).length = runV src dst o r 500 := rfl;rw [e] at g gl;have hok := g.ok;have hlen := g.ch;generalize hT : regV (runV src dst o r 500).tree (qC src o r) o (runV src dst o r 500).rf = T;generalize (runV src dst o r 500).rf = rf;generalize (runV src dst o r 500).ch = cs at gl hok hlen;refine ql (qlu cs (fun c hc => ⟨by
    have := hok c hc;have hp : qj c.2.1 = true := by
     by_cases h0 : c.1 = 0
     .rw [(this.del h0).2]; exact qG (this.del h0).1
     .rw [(this.new h0).2]; exact qG (this.new h0).1
    have := qad hp; omega, (hok c hc).b⟩) o hA.o2 hA.o3) ?_
   rw [Option.bind_some];dsimp only;obtain ⟨f1, f2, f3, f4⟩ := qtr hok hA.o1 cs.length (Nat.le_refl _);have f5 := qDp hok hA.o1 cs.length (Nat.le_refl _);have htx : qul cs o = (itI cs o cs.length).1 ++ (itI cs o cs.length).2 := by unfold qul; rw [decide_eq_true (by omega), cond_true]
   have hcount : (qul cs o).countP (fun b : UInt8 => b.toNat == 10) = cs.length := by rw [htx, List.countP_append, f2]
   have hsize : (qul cs o).length = qXh cs o cs.length := by rw [htx, List.length_append, f1]
   have hfirst : delO o = 3 -> 0 < cs.length -> (cs.getD (cs.length - 1) dC).1 ≠ 0 -> ∃ x l, qul cs o = x :: l /\ x ≠ 42 := by
    intro h1 h2 h3;have hne := f4 h1 (cs.length - 1) (by omega) h3;rcases f3 h1 with e | ⟨x, l, e, hx⟩
    .exact absurd e hne
    .exact ⟨x, l ++ (itI cs o cs.length).2, by rw [htx, e]; rfl, hx⟩
   generalize qul cs o = tx at hcount hsize hfirst;have htl : tx.length <= 200000 := by rw [hsize]; omega
   refine ql (x := some (((), (), tx, (cs.length : Int), 0, ()), TO o, (T, cs, rf, ()), ())) ?_ ?_
   .refine (qu _ (fun n t => ∃ (i : Nat), t = (((), (), tx, (((tx.take i).countP (fun b : UInt8 => b.toNat == 10) : Nat) : Int), 0, (i : Int), ()), TO o, (T, cs, rf, ()), ()) /\ i <= tx.length /\ n = tx.length - i)
     (fun _ => some (((), (), tx, (cs.length : Int), 0, ()), TO o, (T, cs, rf, ()), ())) ?_ _ tx.length _ ⟨0, rfl, Nat.zero_le _, rfl⟩ (by first | omega | (dsimp only; omega)))
    rintro n t k ⟨i, rfl, hi, rfl⟩ hk;dsimp only
    by_cases hil : i < tx.length
    .rw [decide_eq_true (by omega), cond_true, if_pos (by omega), Int.toNat_natCast]
     have hcp := List.countP_le_length (p := fun b : UInt8 => b.toNat == 10) (l := tx.take i);rw [List.length_take] at hcp;have hts : (tx.take (i + 1)).countP (fun b : UInt8 => b.toNat == 10) = (tx.take i).countP (fun b : UInt8 => b.toNat == 10) + if ((tx.getD i 0).toNat == 10) = true then 1 else 0 := by
      have : tx.take (i + 1) = tx.take i ++ [tx.getD i 0] := by
       rw [List.take_succ_eq_append_getElem hil, List.getD_eq_getElem?_getD, List.getElem?_eq_getElem hil]; rfl
      rw [this, List.countP_append, List.countP_singleton]
     refine ql (x := some (((), (), tx, (((tx.take (i + 1)).countP (fun b : UInt8 => b.toNat == 10) : Nat) : Int), 0, (i : Int), ()), TO o, (T, cs, rf, ()), ())) ?_ ?_
     .rw [hts]
      have hb : ((((tx.getD i 0).toNat : Nat) : Int) == 10) = ((tx.getD i 0).toNat == 10) := by
       rw [Bool.eq_iff_iff, beq_iff_eq, beq_iff_eq]; omega
      rw [hb];cases (tx.getD i 0).toNat == 10 with
      | true => rw [cond_true, if_pos rfl, wr1 _ (by omega)]
      | false => rw [cond_false, if_neg (by decide), Nat.add_zero]
     .rw [Option.bind_some]
      dsimp only;rw [wr1 _ (by omega)];exact hk (tx.length - (i + 1)) _ (by omega) ⟨i + 1, rfl, hil, rfl⟩
    .obtain rfl : i = tx.length := by omega
     rw [decide_eq_false (by omega), cond_false, List.take_length, hcount]
   .rw [Option.bind_some]
    dsimp only;refine qbb (x := some (.inl (((), (), tx, (cs.length : Int), (qXh cs o cs.length : Int), ()), TO o, (T, cs, rf, ()), ()))) ?_ ?_
    .refine (qu _ (fun n t => ∃ (i : Nat), t = (((), (), tx, (cs.length : Int), (qXh cs o i : Int), (i : Int), ()), TO o, (T, cs, rf, ()), ()) /\ i <= cs.length /\ n = cs.length - i)
      (fun _ => some (Sum.inl (β := Bool × Unit) (((), (), tx, (cs.length : Int), (qXh cs o cs.length : Int), ()), TO o, (T, cs, rf, ()), ()))) ?_ _ cs.length _ ⟨0, rfl, Nat.zero_le _, rfl⟩ (by first | omega | (dsimp only; omega)))
     rintro n t k ⟨i, rfl, hi, rfl⟩ hk;dsimp only
     by_cases hil : i < cs.length
     .have hcm := hok _ (qZb dC hil)
      have hp : qj (cs.getD i dC).2.1 = true := by
       by_cases h0 : (cs.getD i dC).1 = 0
       .rw [(hcm.del h0).2]; exact qG (hcm.del h0).1
       .rw [(hcm.new h0).2]; exact qG (hcm.new h0).1
      have hpl := qad hp;obtain ⟨l1, l2, l3, l4⟩ := qdl hcm hA.o1;obtain ⟨i1, _, _⟩ := qut hcm hA.o1;have hle := qDp hok hA.o1 i (by omega);rw [decide_eq_true (by omega), cond_true, if_pos (by omega), Int.toNat_natCast];refine ql (qkr (cs.getD i dC) o hA.o2 hA.o3 (by omega)) ?_;rw [Option.bind_some];dsimp only;refine ql (x := some (((), (), tx, (cs.length : Int), (qXh cs o i : Int), (i : Int), qFe (cs.getD i dC) o, false, ()), TO o, (T, cs, rf, ()), ())) ?_ ?_
      .rw [if_pos (by omega)]
       refine ql (qOr (cs.getD i dC) o hA.o2 hA.o3) ?_;rw [Option.bind_some];dsimp only;rw [i1];rw [show (((11 : Nat) : Int) != 11) = false from rfl, cond_false, decide_eq_false (by omega)]
      .rw [Option.bind_some]
       dsimp only;rw [cond_false];have hw : IntKind.wrap IntKind.i64 (IntKind.wrap IntKind.i64 ((qXh cs o i : Int) + ((qFe (cs.getD i dC) o).length : Int)) + 1) = ((qXh cs o (i + 1) : Nat) : Int) := by
        rw [wr ((qXh cs o i : Int) + ((qFe (cs.getD i dC) o).length : Int)) (by omega), wr _ (by omega)]
        show _ = (((qXh cs o i + ((qFe (cs.getD i dC) o).length + 1)) : Nat) : Int)
        omega
       rw [hw, wr1 _ (by omega)];exact hk (cs.length - (i + 1)) _ (by omega) ⟨i + 1, rfl, hil, rfl⟩
     .obtain rfl : i = cs.length := by omega
      rw [decide_eq_false (by omega), cond_false]
    .rw [qTc]
     dsimp only;refine ql (x := some (((), tx, (cs.length : Int), (qXh cs o cs.length : Int), (delO o == 3 && (decide (0 < cs.length) && ((cs.getD 0 dC).1 == 0 && !((cs.getD (cs.length - 1) dC).1 == 0)))), ()), (T, cs, rf, ()), ())) ?_ ?_
     .show (bif delO o == 3 then _ else _) = _
      cases delO o == 3 with
      | false => rfl
      | true =>
       rw [cond_true, Bool.true_and, wr _ (by omega)]
       by_cases h0 : 0 < cs.length
       .rw [decide_eq_true (show ((cs.length : Nat) : Int) - 1 >= 0 by omega), cond_true, decide_eq_true h0, Bool.true_and, if_pos (by omega)]
        show (bif (cs.getD 0 dC).1 == 0 then _ else _) = _
        cases (cs.getD 0 dC).1 == 0 with
        | false => rfl
        | true =>
         rw [cond_true, Bool.true_and, if_pos (by omega), show (((cs.length : Nat) : Int) - 1).toNat = cs.length - 1 by omega]; rfl
       .rw [decide_eq_false (show ¬ ((cs.length : Nat) : Int) - 1 >= 0 by omega), cond_false, decide_eq_false h0, Bool.false_and]
     .rw [Option.bind_some]
      dsimp only;refine qbb (x := some (.inl (((), tx, (cs.length : Int), (qXh cs o cs.length : Int), ()), (T, cs, rf, ()), ()))) ?_ ?_
      .cases hf : (delO o == 3 && (decide (0 < cs.length) && ((cs.getD 0 dC).1 == 0 && !((cs.getD (cs.length - 1) dC).1 == 0)))) with
       | false => rfl
       | true =>
        simp only [Bool.and_eq_true, beq_iff_eq, decide_eq_true_eq, Bool.not_eq_true', beq_eq_false_iff_ne] at hf;obtain ⟨x, l, e, hx⟩ := hfirst hf.1 hf.2.1 hf.2.2.2;rw [cond_true, if_pos (by rw [e]; simp only [List.length_cons]; omega), e];have : ((((List.getD (x :: l) (Int.toNat 0) (0 : UInt8)).toNat : Nat) : Int) == 42) = false := by
         rw [beq_eq_false_iff_ne];intro h;have h2 : x.toNat = 42 := by
          have : ((x.toNat : Nat) : Int) = 42 := h;omega
         exact hx (UInt8.toNat_inj.1 h2)
        rw [this]; rfl
      .rw [qTc]
       dsimp only;rw [hsize];simp
 .rw [decide_eq_true (by omega)]; rfl
end Go.AM
