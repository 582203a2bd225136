/- Part B of a maker of conditions for walks, and why it is sound. -/
import Derived.Test.YtibidgfjopmgnaaDoorAmA
import Derived.Laws.StructEq
import Derived.Laws.BytesString
import Derived.Laws.Cells
import Derived.Laws.Append
import Derived.Laws.Tables
import Derived.Laws.IdiomCopy
import Derived.MapKept
set_option linter.unusedVariables false
set_option linter.unusedSimpArgs false
/- Soundness of the operations on registers. -/
set_option linter.unusedSimpArgs false
set_option linter.unusedVariables false
namespace Go.AM
open Go
section
variable {P : Program} {cx : Cx} {F : Fm} {st : St} {β : Nat → Value} {a : Act} {w : World} {o : Oper}
theorem run_move (x : Operand) (ho : o.op = .move x ∨ o.op = .assign x) : (execOp a.eval o).run P w = .ok (.value (a.eval x)) w := by
 rcases ho with ho | ho <;> simp [execOp, ho]
theorem sound_move (h : Rel cx F st β a w) {x : Operand} {an : Ann} (hA : AnnFix F an) (ho : o.op = .move x ∨ o.op = .assign x) (op : Op) (hop : op = .move x ∨ op = .assign x) :
    Sound P cx F a w (execOp a.eval o) (evI cx op an st) := by
 have hr := run_move (P := P) (w := w) (a := a) x ho
 have hplain : Sound P cx F a w (execOp a.eval o) (ok st (st.eval cx x)) := Sound.ok h hr (h.eval x)
 have key : Sound P cx F a w (execOp a.eval o) (match (generalizing := false) an with
     | .nilAs k e => (match st.eval cx x with | .one .nilS => ok (st.new k (.lst false e [])) (.one (.rs k)) | _ => fail st)
     | _ => ok st (st.eval cx x)) := by
  split
  ·rename_i k e
   split
   ·rename_i hx
    have hv := h.eval x
    rw [hx] at hv
    have hv' : a.eval x = .slice none 0 0 := hv
    intro _
    obtain ⟨hrel, _⟩ := h.new k (.lst false e []) (.slice none 0 0) w hA (Same.refl w) (fun _ _ hb _ => hb) (fun b hb => by simp [blk] at hb) (Nat.le_refl _) (fun _ => .inl ⟨rfl, none, rfl⟩)
    refine ⟨_, _, w, .inl hr, hrel, ?_⟩
    rw [hv']; exact ⟨by simp [upd], _, _, _, rfl⟩
   ·exact Sound.fail
  ·exact hplain
 rcases hop with rfl | rfl
 ·exact key
 ·exact key
theorem sound_pick (h : Rel cx F st β a w) {c x y : Operand} {an : Ann} (ho : o.op = .pick c x y) :
    Sound P cx F a w (execOp a.eval o) (evI cx (.pick c x y) an st) := by
 simp only [evI]
 have hc := h.eval c
 have hx := h.eval x
 have hy := h.eval y
 split
 ·rename_i t ht
  rw [ht] at hc
  have hc' : a.eval c = .bool t := hc
  have hr : (execOp a.eval o).run P w = .ok (.value (if t then a.eval x else a.eval y)) w := by
   simp [execOp, ho, hc', asBool]
  split
  ·rename_i p q hp hq
   rw [hp] at hx; rw [hq] at hy
   refine Sound.ok h hr ?_
   cases t
   ·exact hy
   ·exact hx
  ·refine Sound.ok h hr ?_
   cases t
   ·exact hy
   ·exact hx
 ·exact Sound.fail
theorem sound_nilCheck (h : Rel cx F st β a w) {x : Operand} {an : Ann} (ho : o.op = .nilCheck x) :
    Sound P cx F a w (execOp a.eval o) (evI cx (.nilCheck x) an st) := by
 simp only [evI]
 have hx := h.eval x
 split <;> rename_i hx' <;> first | exact Sound.fail | skip
 all_goals rw [hx'] at hx
 ·obtain ⟨b, h1, h2⟩ := hx
  exact Sound.ok h (by simp [execOp, ho, h2]) ⟨b, h1, rfl⟩
 ·obtain ⟨b, len, cap, h1, h2⟩ := hx
  exact Sound.ok h (by simp [execOp, ho, h2]) ⟨b, len, cap, h1, rfl⟩
 ·obtain ⟨b, h1, h2⟩ := hx
  exact Sound.ok h (by simp [execOp, ho, h1]) ⟨b, rfl, h2⟩
 ·obtain ⟨hi, b, off, h1, h2⟩ := hx
  exact Sound.ok h (by simp [execOp, ho, h1]) ⟨hi, b, off, rfl, h2⟩
 ·obtain ⟨b, h1, h2⟩ := hx
  exact Sound.ok h (by simp [execOp, ho, h2]) ⟨b, h1, rfl⟩
 ·obtain ⟨h1, h2⟩ := hx
  exact Sound.ok h (by simp [execOp, ho, h2]) ⟨h1, rfl⟩
theorem run_evInt (op : BinOp) (k : IntKind) (x y : Int) (hs : (evInt op k x y).1.holds) (β : Nat → Value) (X : Nat → Prop) :
    ∃ v, (binOp op 0 (.int k x) (.int k y)).run P w = .ok v w ∧ RepC β X w (evInt op k x y).2 v := by
 cases op
 case add => exact ⟨.int k (k.wrap (x + y)), by simp [binOp, Op.intArith], rfl⟩
 case sub => exact ⟨.int k (k.wrap (x - y)), by simp [binOp, Op.intArith], rfl⟩
 case mul => exact ⟨.int k (k.wrap (x * y)), by simp [binOp, Op.intArith], rfl⟩
 case quo => have h0 : ¬ y = 0 := hs; exact ⟨.int k (k.wrap (x.tdiv y)), by simp [binOp, Op.intDiv, h0], rfl⟩
 case rem => have h0 : ¬ y = 0 := hs; exact ⟨.int k (x.tmod y), by simp [binOp, Op.intDiv, h0], rfl⟩
 case and => exact ⟨.int k (bitsOf .and k x y), by simp [binOp, Op.intBits, bitsOf], rfl⟩
 case or => exact ⟨.int k (bitsOf .or k x y), by simp [binOp, Op.intBits, bitsOf], rfl⟩
 case xor => exact ⟨.int k (bitsOf .xor k x y), by simp [binOp, Op.intBits, bitsOf], rfl⟩
 case andNot => exact ⟨.int k (bitsOf .andNot k x y), by simp [binOp, Op.intBits, bitsOf], rfl⟩
 case eql => exact ⟨.bool (x == y), by simp [binOp, Op.intCmp], rfl⟩
 case neq => exact ⟨.bool (x != y), by simp [binOp, Op.intCmp], rfl⟩
 case lss => exact ⟨.bool (decide (x < y)), by simp [binOp, Op.intCmp], rfl⟩
 case leq => exact ⟨.bool (decide (x ≤ y)), by simp [binOp, Op.intCmp], rfl⟩
 case gtr => exact ⟨.bool (decide (x > y)), by simp [binOp, Op.intCmp], rfl⟩
 case geq => exact ⟨.bool (decide (x ≥ y)), by simp [binOp, Op.intCmp], rfl⟩
 all_goals exact False.elim hs
theorem bind_int {op : BinOp} {t : Nat} {k j : IntKind} {x y : Int} : binOp op t (.int k x) (.int j y) = binOp op 0 (.int k x) (.int j y) := by
 cases op <;> rfl
theorem eqIn_bool (d : Nat) {t : Nat} (hu : P.underlying t = some .bool) (x y : Bool) : (Op.equalIn (d + 1) t (.bool x) (.bool y)).run P w = .ok (x == y) w := by
 simp only [Op.equalIn, Sem.run_bind, run_underlying hu, Result.andThen_ok, Sem.run_pure]
theorem eqIn_ptr (d : Nat) {t e : Nat} (hu : P.underlying t = some (.pointer e)) (x : Addr) : (Op.equalIn (d + 1) t (.pointer (some x)) (.pointer none)).run P w = .ok false w := by
 simp only [Op.equalIn, Sem.run_bind, run_underlying hu, Result.andThen_ok, Sem.run_pure]
theorem eqIn_ptr0 (d : Nat) {t e : Nat} (hu : P.underlying t = some (.pointer e)) : (Op.equalIn (d + 1) t (.pointer none) (.pointer none)).run P w = .ok true w := by
 simp only [Op.equalIn, Sem.run_bind, run_underlying hu, Result.andThen_ok, Sem.run_pure, Option.isNone_none]
theorem eqIn_fn (d : Nat) {t : Nat} {q r : Array TypeId} {b : Bool} (hu : P.underlying t = some (.func q r b)) (f : Fn) (x y : Array Value) : (Op.equalIn (d + 1) t (.func f x y) .nilFunc).run P w = .ok false w := by
 simp only [Op.equalIn, Sem.run_bind, run_underlying hu, Result.andThen_ok, Sem.run_pure]
theorem eqIn_fn0 (d : Nat) {t : Nat} {q r : Array TypeId} {b : Bool} (hu : P.underlying t = some (.func q r b)) : (Op.equalIn (d + 1) t .nilFunc .nilFunc).run P w = .ok true w := by
 simp only [Op.equalIn, Sem.run_bind, run_underlying hu, Result.andThen_ok, Sem.run_pure]
theorem eqIn_nilS (d : Nat) {t e : Nat} (hu : P.underlying t = some (.slice e)) : (Op.equalIn (d + 1) t (.slice none 0 0) (.slice none 0 0)).run P w = .ok true w := by
 simp only [Op.equalIn, Sem.run_bind, run_underlying hu, Result.andThen_ok, Sem.run_pure, Option.isNone_none]
theorem eqIn_nilS' (d : Nat) {t e : Nat} (hu : P.underlying t = some (.slice e)) (a : Addr) (n c : Nat) : (Op.equalIn (d + 1) t (.slice (some a) n c) (.slice none 0 0)).run P w = .ok false w := by
 simp only [Op.equalIn, Sem.run_bind, run_underlying hu, Result.andThen_ok, Sem.run_pure, Option.isNone_some, Option.isNone_none]
theorem run_same (T : TOk P cx) {t : Nat} {d : TD} (hd : (cx.T t).d = d) {X : Nat → Prop} {c1 c2 : C} {v1 v2 : Value} (hx : RepC β X w c1 v1) (hy : RepC β X w c2 v2) {r : Bool}
    (hr : sameC d c1 c2 = some r) :
    (Op.equal t v1 v2).run P w = .ok r w ∧ (∀ op x y, (eqGuard op t x y v1 v2).run P w = .ok () w) ∧
    (binOp .eql t v1 v2 = (do pure (.bool (← Op.equal t v1 v2)))) ∧ (binOp .neq t v1 v2 = (do pure (.bool (!(← Op.equal t v1 v2))))) := by
 unfold sameC at hr
 split at hr
 ·obtain rfl : _ = v1 := Eq.symm hx
  obtain rfl : _ = v2 := Eq.symm hy
  obtain rfl := Option.some.inj hr
  exact ⟨eqIn_bool 9999 (und_bool T hd) _ _, fun op x y => by unfold eqGuard; split <;> rfl, rfl, rfl⟩
 ·obtain ⟨b, _, rfl⟩ := hx
  obtain rfl : _ = v2 := Eq.symm hy
  obtain rfl := Option.some.inj hr
  exact ⟨eqIn_ptr 9999 (und_ptr T hd) _, fun op x y => by unfold eqGuard; split <;> rfl, rfl, rfl⟩
 ·obtain ⟨b, rfl, _⟩ := hx
  obtain rfl : _ = v2 := Eq.symm hy
  obtain rfl := Option.some.inj hr
  exact ⟨eqIn_ptr 9999 (und_ptr T hd) _, fun op x y => by unfold eqGuard; split <;> rfl, rfl, rfl⟩
 ·obtain rfl : _ = v1 := Eq.symm hx
  obtain rfl : _ = v2 := Eq.symm hy
  obtain rfl := Option.some.inj hr
  exact ⟨eqIn_ptr0 9999 (und_ptr T hd), fun op x y => by unfold eqGuard; split <;> rfl, rfl, rfl⟩
 ·obtain rfl : _ = v2 := Eq.symm hy
  rcases hx with ⟨rfl, rfl⟩ | ⟨y, b, rfl, rfl, _⟩
  ·obtain rfl := Option.some.inj hr
   exact ⟨eqIn_ptr0 9999 (und_ptr T hd), fun op x y => by unfold eqGuard; split <;> rfl, rfl, rfl⟩
  ·obtain rfl := Option.some.inj hr
   exact ⟨eqIn_ptr 9999 (und_ptr T hd) _, fun op x y => by unfold eqGuard; split <;> rfl, rfl, rfl⟩
 ·obtain ⟨_, rfl⟩ := hx
  obtain rfl : _ = v2 := Eq.symm hy
  obtain ⟨f1, f2, f3, hf⟩ := und_func T hd
  obtain rfl := Option.some.inj hr
  exact ⟨eqIn_fn 9999 hf _ _ _, fun op x y => by unfold eqGuard; split <;> rfl, rfl, rfl⟩
 ·obtain rfl : _ = v1 := Eq.symm hx
  obtain rfl : _ = v2 := Eq.symm hy
  obtain ⟨f1, f2, f3, hf⟩ := und_func T hd
  obtain rfl := Option.some.inj hr
  exact ⟨eqIn_fn0 9999 hf, fun op x y => by unfold eqGuard; split <;> rfl, rfl, rfl⟩
 ·obtain rfl : _ = v1 := Eq.symm hx
  obtain rfl : _ = v2 := Eq.symm hy
  obtain rfl := Option.some.inj hr
  exact ⟨eqIn_nilS 9999 (und_slice T hd), fun op x y => by unfold eqGuard; split <;> rfl, rfl, rfl⟩
 ·simp at hr
theorem sameS_run {d : TD} {t : Nat} (hd : (cx.T t).d = d) (T : TOk P cx) {X : Nat → Prop} {n : Nat} {c e : C} {u v : Value} {r : Bool} (h : sameS d c e = some r) (hu : RepC β X w c u) (hv : RepC β X w e v) :
    (Op.equalIn (n + 1) t u v).run P w = .ok r w ∧ u.oneCell' = true := by
 unfold sameS at h
 split at h
 ·simp only [Option.some.injEq] at h
  have hu : u = .bool _ := hu
  have hv : v = .bool _ := hv
  subst hu; subst hv; subst h
  exact ⟨run_equalIn_bool' w n t _ _ (und_bool T hd), rfl⟩
 ·rename_i k0 k a j b
  split at h
  ·rename_i hkj
   simp only [Option.some.injEq] at h
   have hkj := of_decide_eq_true hkj
   subst hkj
   have hu : u = .int k a := hu
   have hv : v = .int k b := hv
   subst hu; subst hv; subst h
   obtain ⟨d', hd', ho⟩ := T.und (t := t) (by rw [hd]; rfl)
   rw [hd] at ho
   cases d' <;> simp [tdOk] at ho
   exact ⟨run_equalIn_int w n t k _ a b hd', rfl⟩
  ·cases h
 ·rename_i a b
  simp only [Option.some.injEq] at h
  have hu : u = .string ⟨a.toArray⟩ := hu
  have hv : v = .string ⟨b.toArray⟩ := hv
  subst hu; subst hv; subst h
  refine ⟨?_, rfl⟩
  rw [run_equalIn_string w n t _ _ (und_str T hd), ByteArray.toList_eq, ByteArray.toList_eq]
 ·cases h
theorem part_one (T : TOk P cx) {t : Nat} {d : TD} (hd : (cx.T t).d = d) {c e : C} {r : Bool} (h : sameS d c e = some r) (us : Array Value) (o : Nat) {u : Value} (hu : us[o]? = some u) : (part t us o).run P w = .ok u w := by
 have hk : (cx.T t).d.known = true ∧ ∀ du, P.underlying t = some du → tdOk (cx.T t).d du = true → (∀ f, du ≠ .struct f) ∧ ∀ n e, du ≠ .array n e := by
  rw [hd]
  unfold sameS at h
  split at h
  ·exact ⟨rfl, fun du _ ho => by cases du <;> simp_all [tdOk]⟩
  ·exact ⟨rfl, fun du _ ho => by cases du <;> simp_all [tdOk]⟩
  ·exact ⟨rfl, fun du _ ho => by cases du <;> simp_all [tdOk]⟩
  ·cases h
 obtain ⟨du, hdu, ho⟩ := T.und hk.1
 obtain ⟨h1, h2⟩ := hk.2 du hdu ho
 have hagg : (isAgg t).run P w = .ok false w := by
  simp only [isAgg, Sem.run_bind, run_underlying hdu, Result.andThen_ok]
  cases du <;> first | rfl | exact absurd rfl (h1 _) | exact absurd rfl (h2 _ _)
 simp [part, hagg, hu]
theorem eqF_run (T : TOk P cx) {n : Nat} {X : Nat → Prop} {cs ds : List C} {us vs : List Value} (hu : All2 (RepC β X w) cs us) (hv : All2 (RepC β X w) ds vs) :
    ∀ (fs : List (Nat × Nat)) (gs : List Field) (r : Bool), sameF fs gs = true → (∀ f ∈ gs, f.name ≠ "_") → eqF cx.T fs cs ds = some r → (Op.eqFields (n + 1) us.toArray vs.toArray gs).run P w = .ok r w
 | [], [], r, _, _, h => by
  simp only [eqF, Option.some.injEq] at h; subst h
  simp [Op.eqFields]
 | p :: fs, f :: gs, r, hs, hn, h => by
  simp only [sameF, Bool.and_eq_true, beq_iff] at hs
  simp only [eqF] at h
  split at h
  ·rename_i c d hc hd
   split at h
   ·rename_i a b ha hb
    simp only [Option.some.injEq] at h; subst h
    obtain ⟨u, hu1, hu2⟩ := hu.get hc
    obtain ⟨v, hv1, hv2⟩ := hv.get hd
    obtain ⟨g1, _⟩ := sameS_run (n := n) rfl T ha hu2 hv2
    have g2 := part_one (w := w) T rfl ha us.toArray p.1 (u := u) (by simpa using hu1)
    have g3 := part_one (w := w) T rfl ha vs.toArray p.1 (u := v) (by simpa using hv1)
    have ih := eqF_run T (n := n) hu hv fs gs b hs.2.2 (fun g hg => hn g (List.mem_cons_of_mem _ hg)) hb
    rw [hs.1, hs.2.1] at *
    have hne := hn f (List.mem_cons_self ..)
    simp only [Op.eqFields, hne, ne_eq, not_false_eq_true, if_true, Sem.run_bind, g2, g3, g1, Result.andThen_ok]
    cases a
    ·simp
    ·simpa using ih
   ·cases h
  ·cases h
 | [], _ :: _, r, hs, _, _ => by simp [sameF] at hs
 | _ :: _, [], r, hs, _, _ => by simp [sameF] at hs
theorem sound_binOp (T : TOk P cx) (h : Rel cx F st β a w) {op : BinOp} {t u : Nat} {x y : Operand} {an : Ann} (ho : o.op = .binOp op t x y u) :
    Sound P cx F a w (execOp a.eval o) (evI cx (.binOp op t x y u) an st) := by
 simp only [evI]
 have hx := h.eval x
 have hy := h.eval y
 have fin : ∀ {v : Value}, (do eqGuard op t x y (a.eval x) (a.eval y); binOp op t (a.eval x) (a.eval y) : Sem Value).run P w = .ok v w →
     (execOp a.eval o).run P w = .ok (.value v) w := by
  intro v hv
  simp only [execOp, ho, Sem.run_bind] at hv ⊢
  rw [hv]; rfl
 generalize hv1 : st.eval cx x = v1 at hx
 generalize hv2 : st.eval cx y = v2 at hy
 unfold evBinT
 split
 ·rename_i cs ds
  intro hs
  obtain ⟨us, hx', hus⟩ := hx
  obtain ⟨vs, hy', hvs⟩ := hy
  simp only [] at hs ⊢
  unfold evAgg at hs ⊢
  split at hs
  ·rename_i fs hcmp hd
   obtain ⟨gd, hgd, hgo⟩ := T.und (t := t) (by rw [hd]; rfl)
   rw [hd] at hgo
   cases gd <;> simp [tdOk] at hgo
   rename_i gs
   obtain ⟨c1, c2, c3⟩ := (T t (by rw [hd]; rfl)).cmp hcmp
   have hfo : P.fieldsOf t = gs := by simp [Program.fieldsOf, hgd]
   have hg : (eqGuard op t x y (a.eval x) (a.eval y)).run P w = .ok () w := by
    rw [hx', hy']; exact run_eqGuard_agg w op t x y _ _ c2
   have heq : ∀ r, eqF cx.T fs cs ds = some r → (Op.equalIn 10000 t (.agg us.toArray) (.agg vs.toArray)).run P w = .ok r w := by
    intro r hr
    rw [run_equalIn_struct w 9999 t _ _ (by rw [hfo]; exact hgd) c1, hfo]
    exact eqF_run (n := 9998) T hus hvs fs gs.toList r hgo (c3 gs hgd) hr
   split at hs
   ·rename_i r hr
    refine ⟨.bool r, β, w, .inl (fin ?_), h, rfl⟩
    rw [Sem.run_bind, hg, Result.andThen_ok, hx', hy', run_eql_struct, heq r hr]; rfl
   ·rename_i r hr
    refine ⟨.bool !r, β, w, .inl (fin ?_), h, rfl⟩
    rw [Sem.run_bind, hg, Result.andThen_ok, hx', hy', run_neq_struct, heq r hr]; rfl
   ·exact False.elim hs
  ·exact False.elim hs
 rename_i hnag
 clear hnag
 intro hs
 simp only [] at hs ⊢
 unfold evBin at hs ⊢
 split at hs
 · -- ints
  rename_i k p j q
  have hx' : a.eval x = .int k p := hx
  have hy' : a.eval y = .int j q := hy
  have hg : (eqGuard op t x y (a.eval x) (a.eval y)).run P w = .ok () w := by
   rw [hx', hy']; unfold eqGuard; split <;> rfl
  split at hs
  ·have hq : ¬ q < 0 := by have h0 : 0 ≤ q := hs; omega
   refine ⟨_, β, w, .inl (fin ?_), h, rfl⟩
   rw [Sem.run_bind, hg, Result.andThen_ok, hx', hy']
   simp [binOp, Op.shift, hq]
  ·have hq : ¬ q < 0 := by have h0 : 0 ≤ q := hs; omega
   refine ⟨_, β, w, .inl (fin ?_), h, rfl⟩
   rw [Sem.run_bind, hg, Result.andThen_ok, hx', hy']
   simp [binOp, Op.shift, hq]
  ·split at hs
   ·rename_i hkj
    subst hkj
    obtain ⟨v, h1, h2⟩ := run_evInt (P := P) (w := w) op k p q hs β (XX F st β)
    refine ⟨v, β, w, .inl (fin ?_), h, ?_⟩
    ·rw [Sem.run_bind, hg, Result.andThen_ok, hx', hy', bind_int]; exact h1
    ·show RepC β _ w (if k = k then evInt op k p q else (.f, C.top)).2 v
     rw [if_pos rfl]; exact h2
   ·exact False.elim hs
 · -- strings
  rename_i p q
  have hx' : a.eval x = .string ⟨p.toArray⟩ := hx
  have hy' : a.eval y = .string ⟨q.toArray⟩ := hy
  have hg : (eqGuard op t x y (a.eval x) (a.eval y)).run P w = .ok () w := by
   rw [hx', hy']; unfold eqGuard; split <;> rfl
  have hrun : ∀ {v}, (Op.stringOp op ⟨p.toArray⟩ ⟨q.toArray⟩).run P w = .ok v w → (execOp a.eval o).run P w = .ok (.value v) w := by
   intro v hv
   refine fin ?_
   rw [Sem.run_bind, hg, Result.andThen_ok, hx', hy']
   cases op <;> simpa [binOp] using hv
  cases op <;> simp only [evStr] at hs ⊢ <;> try exact False.elim hs
  ·refine ⟨_, β, w, .inl (hrun ?_), h, rfl⟩
   have h1 : (⟨p.toArray⟩ : ByteArray).size = p.length := by show p.toArray.size = _; simp
   have h2 : (⟨q.toArray⟩ : ByteArray).size = q.length := by show q.toArray.size = _; simp
   have h3 : ¬ (((⟨p.toArray⟩ : ByteArray).size + (⟨q.toArray⟩ : ByteArray).size : Nat) : Int) > IntKind.i64.max := by
    rw [h1, h2]
    have : IntKind.i64.max = 2 ^ 63 - 1 := rfl
    rw [this]; have hs' : p.length + q.length < 2 ^ 63 := hs; omega
   have h4 : (⟨p.toArray⟩ : ByteArray) ++ ⟨q.toArray⟩ = ⟨(p ++ q).toArray⟩ := by
    apply ByteArray.ext
    simp
   simp only [Op.stringOp, h3, if_false, Sem.run_pure, h4]
  all_goals
   refine ⟨_, β, w, .inl (hrun ?_), h, rfl⟩
   simp [Op.stringOp, utf8_toList]
 · -- a row and nil
  rename_i e xs
  obtain ⟨ad, cap, hx1, hlc, hx2⟩ := hx
  have hx' : a.eval x = .slice ad xs.length cap := by simpa using hx1
  have hy' : a.eval y = .slice none 0 0 := hy
  have hg : (eqGuard op t x y (a.eval x) (a.eval y)).run P w = .ok () w := by
   rw [hx', hy']; unfold eqGuard; split <;> rfl
  have key : xs.length ≠ 0 → ∀ {el : Nat}, (cx.T t).d = .slice el → (Op.equal t (a.eval x) (a.eval y)).run P w = .ok false w := by
   intro hne el hd
   rw [hx', hy']
   rcases hx2 with rfl | ⟨b, off, rfl, _⟩
   ·simp at hne
   ·exact eqIn_nilS' 9999 (und_slice T hd) _ _ _
  split at hs
  ·rename_i el hd
   have hk := key hs hd
   refine ⟨.bool false, β, w, .inl (fin ?_), h, rfl⟩
   rw [Sem.run_bind, hg, Result.andThen_ok]
   have e : binOp .eql t (a.eval x) (a.eval y) = (do pure (.bool (← Op.equal t (a.eval x) (a.eval y)))) := by rw [hx', hy']; rfl
   rw [e, Sem.run_bind, hk]; rfl
  ·rename_i el hd
   have hk := key hs hd
   refine ⟨.bool true, β, w, .inl (fin ?_), h, rfl⟩
   rw [Sem.run_bind, hg, Result.andThen_ok]
   have e : binOp .neq t (a.eval x) (a.eval y) = (do pure (.bool (!(← Op.equal t (a.eval x) (a.eval y))))) := by rw [hx', hy']; rfl
   rw [e, Sem.run_bind, hk]; rfl
  ·exact False.elim hs
 · -- other cells
  rename_i c1 c2 _ _ _
  split at hs
  ·cases hsame : sameC (cx.T t).d c1 c2 with
   | none => simp only [hsame] at hs; exact False.elim hs
   | some r =>
    obtain ⟨g2, g1, g3, _⟩ := run_same T rfl hx hy hsame
    refine ⟨.bool r, β, w, .inl (fin ?_), h, ?_⟩
    ·rw [g3]; simp [g1 .eql x y, g1 .neq x y, g2]
    ·simp only [hsame]; rfl
  ·cases hsame : sameC (cx.T t).d c1 c2 with
   | none => simp only [hsame] at hs; exact False.elim hs
   | some r =>
    obtain ⟨g2, g1, _, g3⟩ := run_same T rfl hx hy hsame
    refine ⟨.bool !r, β, w, .inl (fin ?_), h, ?_⟩
    ·rw [g3]; simp [g1 .eql x y, g1 .neq x y, g2]
    ·simp only [hsame]; rfl
  ·exact False.elim hs
 ·exact False.elim hs
theorem sound_unOp (h : Rel cx F st β a w) {op : UnOp} {t : Nat} {x : Operand} {an : Ann} (ho : o.op = .unOp op t x) :
    Sound P cx F a w (execOp a.eval o) (evI cx (.unOp op t x) an st) := by
 simp only [evI]
 have hx := h.eval x
 generalize hv1 : st.eval cx x = v1 at hx
 have fin : ∀ {v : Value}, (Op.unary op (a.eval x)).run P w = .ok v w → (execOp a.eval o).run P w = .ok (.value v) w := by
  intro v hv
  simp only [execOp, ho, Sem.run_bind, hv]; rfl
 intro hs
 simp only [] at hs ⊢
 unfold evUn at hs ⊢
 split at hs
 ·have hx' := hx
  simp only [RepV, RepC] at hx'
  exact ⟨_, β, w, .inl (fin (by rw [hx']; rfl)), h, rfl⟩
 ·have hx' := hx
  simp only [RepV, RepC] at hx'
  exact ⟨_, β, w, .inl (fin (by rw [hx']; rfl)), h, rfl⟩
 ·have hx' := hx
  simp only [RepV, RepC] at hx'
  exact ⟨_, β, w, .inl (fin (by rw [hx']; rfl)), h, rfl⟩
 ·exact False.elim hs
theorem RepVs.nth {X : Nat → Prop} : ∀ {vs : List V} {us : List Value}, RepVs β X w vs us → ∀ {i : Nat} {v : V}, AM.nth vs i = some v → ∃ u, us[i]? = some u ∧ RepV β X w v u
 | [], [], _, i, v, h => by simp [AM.nth] at h
 | x :: vs, y :: us, ⟨h1, h2⟩, 0, v, h => by simp [AM.nth] at h; subst h; exact ⟨y, rfl, h1⟩
 | x :: vs, y :: us, ⟨h1, h2⟩, i + 1, v, h => by simp only [AM.nth] at h; simpa using RepVs.nth h2 h
 | [], _ :: _, h, _, _, _ => h.elim
 | _ :: _, [], h, _, _, _ => h.elim
theorem sound_extract (h : Rel cx F st β a w) {x : Operand} {i : Nat} {an : Ann} (ho : o.op = .extract x i) :
    Sound P cx F a w (execOp a.eval o) (evI cx (.extract x i) an st) := by
 simp only [evI]
 have hx := h.eval x
 split
 ·rename_i vs hvs
  rw [hvs] at hx
  obtain ⟨us, hx', hus⟩ := hx
  split
  ·rename_i v hv
   obtain ⟨u, hu, hr⟩ := hus.nth hv
   exact Sound.ok h (by simp [execOp, ho, hx', Instr.extract, hu]) hr
  ·exact Sound.fail
 ·exact Sound.fail
theorem sound_field (T : TOk P cx) (h : Rel cx F st β a w) {t : Nat} {x : Operand} {f : Nat} {an : Ann} (ho : o.op = .field t x f) :
    Sound P cx F a w (execOp a.eval o) (evI cx (.field t x f) an st) := by
 simp only [evI]
 have hx := h.eval x
 split
 ·rename_i fs cs hd hvs
  rw [hvs] at hx
  obtain ⟨us, hx', hus⟩ := hx
  split
  ·rename_i off ft hf
   obtain ⟨gs, hu, hg⟩ := und_struct T hd
   obtain ⟨g, hg1, hg2, hg3⟩ := sameF_nth hg hf
   have hg1' : gs[f]? = some g := by simpa using hg1
   simp only at hg2 hg3
   cases hk : (cx.T ft).d.known
   ·exact Sound.fail
   ·have hrun : (execOp a.eval o).run P w = ((part ft us.toArray off).run P w).andThen fun v w => .ok (.value v) w := by
     simp only [execOp, ho, Instr.field, Sem.run_bind, run_underlying hu, Result.andThen_ok, hg1', hx', asAgg, Sem.run_pure, hg2, hg3]
    cases ha : (cx.T ft).isAgg
    ·simp only [cond_true, cond_false]
     split
     ·rename_i c hc
      rw [nth_get] at hc
      obtain ⟨u, hu1, hu2⟩ := hus.get hc
      refine Sound.ok h (v := u) ?_ hu2
      rw [hrun]
      simp [part, isAgg_of T hk, ha, hu1]
     ·exact Sound.fail
    ·simp only [cond_true]
     refine Sound.ok h (v := .agg (us.toArray.extract off (off + (cx.T ft).size))) ?_ ?_
     ·rw [hrun]; simp [part, isAgg_of T hk, ha, run_size T hk]
     ·refine ⟨(us.drop off).take (cx.T ft).size, ?_, (hus.drop off).take _⟩
      simp [List.extract_eq_drop_take', List.extract_eq_take_drop]
  ·exact Sound.fail
 ·exact Sound.fail
end
end Go.AM
/- Soundness of the operations: strings, addresses. -/
set_option linter.unusedSimpArgs false
set_option linter.unusedVariables false
namespace Go.AM
open Go
section
variable {P : Program} {cx : Cx} {F : Fm} {st : St} {β : Nat → Value} {a : Act} {w : World} {o : Oper}
@[simp] theorem castLs_rfl {e : Ty} (h : e = e) (xs : List e.El) : castLs h xs = xs := rfl
@[simp] theorem castEl_rfl {e : Ty} (h : e = e) (x : e.El) : castEl h x = x := rfl
theorem cell_at {b o : Nat} {vals : Array Value} {el : TypeId} {fr : Nat × Nat} (h : w.heap[b]? = some (.cells vals el fr)) : w.cell? ⟨b, o, none⟩ = vals[o]? := by
 simp [World.cell?, h]
theorem str_size (s : List UInt8) : (⟨s.toArray⟩ : ByteArray).size = s.length := by show s.toArray.size = _; simp
theorem str_get (s : List UInt8) (i : Nat) : (⟨s.toArray⟩ : ByteArray)[i]? = s[i]? := by
 show (if h : i < (⟨s.toArray⟩ : ByteArray).size then some _ else none) = _
 by_cases h : i < s.length
 ·have h' : i < (⟨s.toArray⟩ : ByteArray).size := by rw [str_size]; exact h
  rw [dif_pos h']
  rw [List.getElem?_eq_getElem h]
  rfl
 ·have h' : ¬ i < (⟨s.toArray⟩ : ByteArray).size := by rw [str_size]; exact h
  rw [dif_neg h', List.getElem?_eq_none (by omega)]
theorem str_extract (s : List UInt8) (l h : Nat) : (⟨s.toArray⟩ : ByteArray).extract l h = ⟨((s.take h).drop l).toArray⟩ := by
 apply ByteArray.ext
 rw [ByteArray.data_extract]
 simp [List.extract_eq_take_drop, List.extract_eq_drop_take']
theorem sound_index (T : TOk P cx) (h : Rel cx F st β a w) {t : Nat} {x i : Operand} {an : Ann} (ho : o.op = .index t x i) :
    Sound P cx F a w (execOp a.eval o) (evI cx (.index t x i) an st) := by
 simp only [evI]
 have hx := h.eval x
 have hi := h.eval i
 split
 ·rename_i s k n hd hs hn
  rw [hs] at hx; rw [hn] at hi
  have hx' : a.eval x = .string ⟨s.toArray⟩ := hx
  have hi' : a.eval i = .int k n := hi
  rintro ⟨h0, h1⟩
  have hlt : n.toNat < s.length := by omega
  refine ⟨_, β, w, .inl ?_, h, rfl⟩
  simp only [execOp, ho, Instr.index, hi', asIntOf, Sem.run_bind, Sem.run_pure, Result.andThen_ok, run_underlying (und_str T hd), hx', h0, if_true, str_get, List.getElem?_eq_getElem hlt]
  simp [List.getD, List.getElem?_eq_getElem hlt]
 ·exact Sound.fail
theorem run_sliceBound (k : IntKind) (i : Int) (y : Nat) (code : BoundsCode) (h0 : 0 ≤ i) (h1 : i ≤ y) : (Instr.sliceBound (.int k i) y code).run P w = .ok i.toNat w := by
 simp [Instr.sliceBound, asIntOf, h0, h1]
theorem low_eval {l : Int} {lo : Option Operand} (hl : lowOf (lo.map (st.eval cx)) = some l) (hr : Rel cx F st β a w) : (lo = none ∧ l = 0) ∨ ∃ x, lo = some x ∧ a.eval x = .int .i64 l := by
 cases lo with
 | none => simp [lowOf] at hl; exact .inl ⟨rfl, hl.symm⟩
 | some x =>
  simp only [Option.map_some, lowOf] at hl
  have hx := hr.eval x
  split at hl
  ·rename_i heq; cases heq
  ·rename_i n heq
   have heq := Option.some.inj heq
   rw [heq] at hx
   simp at hl; subst hl
   exact .inr ⟨x, rfl, hx⟩
  ·simp at hl
theorem high_eval {n : Nat} {h : Int} {hi : Option Operand} (hh : highOf n (hi.map (st.eval cx)) = some h) (hr : Rel cx F st β a w) : (hi = none ∧ h = n) ∨ ∃ x, hi = some x ∧ a.eval x = .int .i64 h := by
 cases hi with
 | none => simp [highOf] at hh; exact .inl ⟨rfl, hh.symm⟩
 | some x =>
  simp only [Option.map_some, highOf] at hh
  have hx := hr.eval x
  split at hh
  ·rename_i heq; cases heq
  ·rename_i n heq
   have heq := Option.some.inj heq
   rw [heq] at hx
   simp at hh; subst hh
   exact .inr ⟨x, rfl, hx⟩
  ·simp at hh
theorem run_bounds {n c : Nat} {l h : Int} {lo hi : Option Operand} {sl : Bool} (hl : lowOf (lo.map (st.eval cx)) = some l) (hh : highOf n (hi.map (st.eval cx)) = some h) (hr : Rel cx F st β a w)
    (h0 : 0 ≤ l) (h1 : l ≤ h) (h2 : h ≤ c) : (Instr.sliceBounds sl n c (lo.map a.eval) (hi.map a.eval) none).run P w = .ok (l.toNat, h.toNat, c) w := by
 have e1 : l ≤ (h.toNat : Int) := by omega
 have e2 : 0 ≤ h := by omega
 rcases low_eval hl hr with ⟨rfl, rfl⟩ | ⟨x, rfl, hx⟩ <;> rcases high_eval hh hr with ⟨rfl, rfl⟩ | ⟨y, rfl, hy⟩
 ·simp [Instr.sliceBounds]
 ·simp [Instr.sliceBounds, hy, run_sliceBound _ _ _ _ e2 h2]
 ·simp [Instr.sliceBounds, hx, run_sliceBound _ _ _ _ h0 h1]
 ·simp [Instr.sliceBounds, hx, hy, run_sliceBound _ _ _ _ e2 h2, run_sliceBound _ _ _ _ h0 e1]
theorem Row.sub {X : Nat → Prop} {e : Ty} {b off l h : Nat} {xs : List e.El} (hr : Row X w (Rep X w e) e.size b off xs) (hl : l ≤ h) :
    Row X w (Rep X w e) e.size b (off + l * e.size) ((xs.take h).drop l) := by
 obtain ⟨hx, vals, el, fr, hb, hall⟩ := hr
 refine ⟨hx, vals, el, fr, hb, fun i x hi => ?_⟩
 rw [List.getElem?_drop, List.getElem?_take] at hi
 split at hi
 ·obtain ⟨us, h1, h2⟩ := hall _ x hi
  refine ⟨us, h1, fun j u hj => ?_⟩
  rw [← h2 j u hj, Nat.add_mul]
  congr 1; omega
 ·cases hi
theorem rs_len6 {fx : Bool} {e : Ty} {xs : List e.El} {X : Nat → Prop} {v : Value} (h : RepS β X w (.lst fx e xs) v) : ∃ ad c, v = .slice ad xs.length c ∧ xs.length ≤ c ∧ (0 < xs.length → ∃ b, ad = some ⟨b, 0, none⟩) := by
 rcases h with ⟨rfl, ad, rfl⟩ | ⟨b, cap, _, _, _, rfl, _, _, hlc, _⟩
 ·exact ⟨_, _, rfl, Nat.le_refl _, fun h => absurd h (Nat.lt_irrefl _)⟩
 ·exact ⟨_, _, rfl, hlc, fun _ => ⟨b, rfl⟩⟩
theorem flatten_get0 {n : Nat} : ∀ {uss : List (List Value)}, (∀ us ∈ uss, us.length = n) → ∀ {i j : Nat} {us : List Value}, uss[i]? = some us → j < n → uss.flatten[i * n + j]? = us[j]?
 | [], _, i, j, us, h, _ => by simp at h
 | u :: uss, hn, 0, j, us, h, hj => by
  simp at h; subst h
  have := hn u (List.mem_cons_self ..)
  simp only [List.flatten_cons, Nat.zero_mul, Nat.zero_add]
  exact List.getElem?_append_left (by omega)
 | u :: uss, hn, i + 1, j, us, h, hj => by
  have h1 := hn u (List.mem_cons_self ..)
  simp at h
  have := flatten_get0 (uss := uss) (fun v hv => hn v (List.mem_cons_of_mem _ hv)) h hj
  rw [List.flatten_cons, List.getElem?_append_right (by rw [h1, Nat.succ_mul]; omega), ← this]
  congr 1; rw [h1, Nat.succ_mul]; omega
theorem subArr_rep {X : Nat → Prop} : ∀ (t : Ty) {x : t.El} {us : List Value} {o : Nat} {e : Ty} {xs : List e.El}, Rep X w t x us → subArr t x o = some ⟨e, xs⟩ →
    ∀ (i : Nat) y, xs[i]? = some y → ∃ ys, Rep X w e y ys ∧ ∀ (j : Nat) v, ys[j]? = some v → us[o + i * e.size + j]? = some v
 | .arr n e0, x, us, o, e, xs, ⟨hn, uss, h, hu⟩, hs => by
  cases o with
  | succ o => simp [subArr] at hs
  | zero =>
   simp only [subArr, Option.some.injEq, Sigma.mk.injEq] at hs
   obtain ⟨rfl, hs⟩ := hs
   have hs := eq_of_heq hs
   subst hs
   subst h
   intro i y hi
   obtain ⟨ys, g1, g2⟩ := hu.get hi
   refine ⟨ys, g2, fun j v hj => ?_⟩
   have hl := Rep.len e0 g2
   have hlens : ∀ us ∈ uss, us.length = e0.size := by
    intro us hus
    obtain ⟨k, hk⟩ := List.mem_iff_getElem?.1 hus
    obtain ⟨z, _, hz⟩ := hu.get' hk
    exact Rep.len e0 hz
   rw [Nat.zero_add, flatten_get0 hlens g1 (by rw [← hl]; exact (List.getElem?_eq_some_iff.1 hj).1)]; exact hj
 | .pair a b, x, us, o, e, xs, ⟨u1, u2, h, h1, h2⟩, hs => by
  subst h
  simp only [subArr] at hs
  have hl := Rep.len a h1
  cases hb : Nat.blt o a.size
  ·rw [hb] at hs
   simp only [cond_false] at hs
   intro i y hi
   obtain ⟨ys, g1, g2⟩ := subArr_rep b h2 hs i y hi
   refine ⟨ys, g1, fun j v hj => ?_⟩
   have hge : a.size ≤ o := by
    rcases Nat.lt_or_ge o a.size with h' | h'
    ·have : Nat.blt o a.size = true := by simpa [Nat.blt_eq] using h'
     rw [hb] at this; cases this
    ·exact h'
   rw [List.getElem?_append_right (by omega), ← g2 j v hj]
   congr 1; omega
  ·rw [hb] at hs
   simp only [cond_true] at hs
   intro i y hi
   obtain ⟨ys, g1, g2⟩ := subArr_rep a h1 hs i y hi
   refine ⟨ys, g1, fun j v hj => ?_⟩
   have := g2 j v hj
   rw [List.getElem?_append_left (List.getElem?_eq_some_iff.1 this).1]; exact this
 | .bool, _, _, _, _, _, _, hs => by simp [subArr] at hs
 | .int _, _, _, _, _, _, _, hs => by simp [subArr] at hs
 | .str, _, _, _, _, _, _, hs => by simp [subArr] at hs
 | .unit, _, _, _, _, _, _, hs => by simp [subArr] at hs
 | .list _, _, _, _, _, _, _, hs => by simp [subArr] at hs
 | .ptr _, _, _, _, _, _, _, hs => by simp [subArr] at hs
theorem sound_slice (T : TOk P cx) (h : Rel cx F st β a w) {t : Nat} {x : Operand} {lo hi : Option Operand} {an : Ann} (ho : o.op = .slice t x lo hi none) :
    Sound P cx F a w (execOp a.eval o) (evI cx (.slice t x lo hi none) an st) := by
 simp only [evI]
 have hx := h.eval x
 split
 ·rename_i s hd hs
  rw [hs] at hx
  have hx' : a.eval x = .string ⟨s.toArray⟩ := hx
  split
  ·rename_i l hh hl hhi
   rintro ⟨h0, h1, h2⟩
   refine ⟨_, β, w, .inl ?_, h, rfl⟩
   have hb := run_bounds (P := P) (n := s.length) (c := s.length) (sl := false) hl hhi h h0 h1 h2
   simp only [execOp, ho, Instr.sliceAt, Sem.run_bind, run_underlying (und_str T hd), Result.andThen_ok, hx', Instr.slice, str_size, Option.map_none, hb, Sem.run_pure, Option.isSome_none, Bool.false_eq_true, if_false, str_extract]
  ·exact Sound.fail
 ·rename_i el k hd hs
  rw [hs] at hx
  obtain ⟨hxk, _⟩ := hx
  split
  ·split
   ·rename_i e xs hh hsl hhi
    cases hsz : Nat.beq e.size (cx.T el).size
    ·exact Sound.fail
    ·simp only [cond_true]
     rintro ⟨h1, h2⟩
     have hsz' := (beq_iff _ _).1 hsz
     have hk := (T t (by rw [hd]; rfl)).slice el hd
     obtain ⟨hi', rfl, hhe⟩ := Option.map_eq_some_iff.1 hhi
     have hhv := h.eval hi'
     rw [hhe] at hhv
     have hhv' : a.eval hi' = .int .i64 hh := hhv
     have hfix : F.fix k = none := by
      cases hq : F.fix k with
      | none => rfl
      | some v => exact absurd ((h.fix k v hq).2 _ hsl) (by simp [Slot.fixd])
     obtain ⟨ad, cap, hv, hlc, hnz⟩ := rs_len6 (h.slots _ _ hsl)
     have hb := run_bounds (P := P) (n := xs.length) (c := cap) (sl := true) (show lowOf ((none : Option Operand).map (st.eval cx)) = some 0 from rfl) (show highOf xs.length ((some hi').map (st.eval cx)) = some hh by simp only [Option.map_some, hhe, highOf]) h (Int.le_refl 0) h1 (by omega)
     simp only [Option.map_none, Option.map_some] at hb
     have hrun : (execOp a.eval o).run P w = .ok (.value (.slice (if cap = 0 then ad else ad.map (·.add 0)) hh.toNat cap)) w := by
      simp only [execOp, ho, Instr.sliceAt, Sem.run_bind, run_underlying (und_slice T hd), Result.andThen_ok, hxk, hv, Instr.slice, Option.map_none, Option.map_some, hb, Sem.run_pure, run_size T hk, hsz']
      simp
     have hval : (.slice (if cap = 0 then ad else ad.map (·.add 0)) hh.toNat cap : Value) = .slice ad hh.toNat cap := by
      split
      ·rfl
      ·cases ad <;> simp [Addr.add]
     rw [hval] at hrun
     obtain ⟨hrel, hfr⟩ := h.new k (.lst false e (xs.take hh.toNat)) (.slice ad hh.toNat cap) w hfix (Same.refl w) (fun _ _ hb _ => hb) (fun b hb => .inr ⟨_, hsl, by
      rw [hv]; cases ad <;> cases cap <;> simp [blk] at hb ⊢; exact hb⟩) (Nat.le_refl _) (fun hfr => by
      rcases h.slots _ _ hsl with ⟨rfl, ad', hbk⟩ | ⟨b, cap', vals, el', fr, hbk, hb2, hth, hlc', hcap, hrow⟩
      ·rw [hv] at hbk
       have h0 : hh.toNat = 0 := by simp at h2; omega
       simp at hbk
       refine .inl ⟨by simp, ad, ?_⟩
       rw [h0, hbk.2]
      ·rw [hv] at hbk
       simp only [Value.slice.injEq] at hbk
       obtain ⟨rfl, _, rfl⟩ := hbk
       have hlen : (xs.take hh.toNat).length = hh.toNat := by rw [List.length_take]; omega
       refine .inr ⟨b, cap', vals, el', fr, by rw [hlen], hb2, hth, by rw [hlen]; omega, hcap, fun i x hi => ?_⟩
       rw [List.getElem?_take] at hi
       split at hi
       ·obtain ⟨us, g1, g2⟩ := hrow i x hi
        exact ⟨us, Rep.mono hfr e g1, g2⟩
       ·cases hi)
     exact ⟨_, _, w, .inl hrun, hrel, by simp [upd], _, _, _, rfl⟩
   ·exact Sound.fail
  ·split
   ·rename_i fx0 e xs l hsl hll
    cases hsz : Nat.beq e.size (cx.T el).size
    ·exact Sound.fail
    ·simp only [cond_true]
     rintro ⟨h1, h2⟩
     have hsz' := (beq_iff _ _).1 hsz
     have hk := (T t (by rw [hd]; rfl)).slice el hd
     obtain ⟨lo', rfl, hle⟩ := Option.map_eq_some_iff.1 hll
     have hlv := h.eval lo'
     rw [hle] at hlv
     have hlv' : a.eval lo' = .int .i64 l := hlv
     obtain ⟨ad, cap, hv, hlc, hnz⟩ := rs_len6 (h.slots _ _ hsl)
     have hb := run_bounds (P := P) (n := xs.length) (c := cap) (sl := true) (show lowOf ((some lo').map (st.eval cx)) = some l by simp only [Option.map_some, hle, lowOf]) (show highOf xs.length ((none : Option Operand).map (st.eval cx)) = some (xs.length : Int) from rfl) h h1 h2 (by omega)
     simp only [Option.map_none, Option.map_some] at hb
     refine ⟨.slice (if cap = l.toNat then ad else ad.map (·.add (l.toNat * e.size))) (xs.length - l.toNat) (cap - l.toNat), β, w, .inl ?_, h, ?_⟩
     ·simp only [execOp, ho, Instr.sliceAt, Sem.run_bind, run_underlying (und_slice T hd), Result.andThen_ok, hxk, hv, Instr.slice, Option.map_none, Option.map_some, hb, Sem.run_pure, run_size T hk, hsz']
      simp
     ·refine ⟨ad, xs.length, cap, _, _, hv, by omega, rfl, fun hlt => ?_⟩
      obtain ⟨b, rfl⟩ := hnz (by omega)
      have hcap : ¬ cap = l.toNat := by omega
      exact ⟨b, rfl, by simp [hcap, Addr.add_lit]⟩
   ·exact Sound.fail
  ·exact Sound.fail
 ·rename_i el e xs hd hs
  rw [hs] at hx
  obtain ⟨ad, cap, hx1, hlc, hx2⟩ := hx
  have hx' : a.eval x = .slice ad xs.length cap := by simpa using hx1
  split
  ·rename_i l hh hsz hl hhi
   rintro ⟨h0, h1, h2⟩
   have hsz' := (beq_iff _ _).1 hsz
   have hk := (T t (by rw [hd]; rfl)).slice el hd
   refine ⟨.slice (if cap = l.toNat then ad else ad.map (·.add (l.toNat * e.size))) (hh.toNat - l.toNat) (cap - l.toNat), β, w, .inl ?_, h, ?_⟩
   ·have hcap : hh ≤ (cap : Int) := by omega
    have hb := run_bounds (P := P) (n := xs.length) (c := cap) (sl := true) hl hhi h h0 h1 hcap
    simp only [execOp, ho, Instr.sliceAt, Sem.run_bind, run_underlying (und_slice T hd), Result.andThen_ok, hx', Instr.slice, Option.map_none, hb, Sem.run_pure, run_size T hk, hsz']
   ·have hlen : (List.drop l.toNat (List.take hh.toNat xs)).length = hh.toNat - l.toNat := by simp; omega
    refine ⟨_, _, by rw [hlen], by rw [hlen]; omega, ?_⟩
    by_cases hne : List.drop l.toNat (List.take hh.toNat xs) = []
    ·exact .inl hne
    ·right
     rcases hx2 with rfl | ⟨b, off, rfl, hrow⟩
     ·simp at hne
     ·have hlt : l.toNat < hh.toNat := by
       rcases Nat.lt_or_ge l.toNat hh.toNat with h' | h'
       ·exact h'
       ·exact absurd (List.eq_nil_of_length_eq_zero (by rw [hlen]; omega)) hne
      have hcap : ¬ cap = l.toNat := by omega
      refine ⟨b, off + l.toNat * e.size, by simp [hcap, Addr.add_lit], hrow.sub (by omega)⟩
  ·exact Sound.fail
 ·rename_i n el pt y o hd hs
  rw [hs] at hx
  obtain ⟨b, hx', b', hb', hnx, vals, el', fr, hb2, us, hu, hc⟩ := hx
  have : b = b' := by simpa using hb'
  subst this
  split
  ·rename_i e xs l hh hsub hl hhi
   cases hsz : Nat.beq e.size (cx.T el).size
   ·exact Sound.fail
   ·have hsz' := (beq_iff _ _).1 hsz
    have hk := (T t (by rw [hd]; rfl)).array n el hd
    rintro ⟨h0, h1, h2, h3⟩
    refine ⟨.slice (some (if n = l.toNat then ⟨b, o, none⟩ else (⟨b, o, none⟩ : Addr).add (l.toNat * e.size))) (hh.toNat - l.toNat) (n - l.toNat), β, w, .inl ?_, h, ?_⟩
    ·have hb := run_bounds (P := P) (n := n) (c := n) (sl := false) hl hhi h h0 h1 h2
     simp only [execOp, ho, Instr.sliceAt, Sem.run_bind, run_underlying (und_array T hd), Result.andThen_ok, hx', Instr.sureAddr, Option.map_none, hb, Sem.run_pure, run_size T hk, hsz']
    ·have hlen : (List.drop l.toNat (List.take hh.toNat xs)).length = hh.toNat - l.toNat := by simp; omega
     refine ⟨_, _, by rw [hlen], by rw [hlen]; omega, ?_⟩
     by_cases hne : List.drop l.toNat (List.take hh.toNat xs) = []
     ·exact .inl hne
     ·right
      have hlt : l.toNat < hh.toNat := by
       rcases Nat.lt_or_ge l.toNat hh.toNat with h' | h'
       ·exact h'
       ·exact absurd (List.eq_nil_of_length_eq_zero (by rw [hlen]; omega)) hne
      have hcap : ¬ n = l.toNat := by omega
      refine ⟨b, o + l.toNat * e.size, by simp [hcap, Addr.add_lit], hnx, vals, el', fr, hb2, fun q z hq => ?_⟩
      have hq' : xs[l.toNat + q]? = some z := by
       rw [List.getElem?_drop, List.getElem?_take] at hq
       split at hq
       ·exact hq
       ·cases hq
      obtain ⟨ys, g1, g2⟩ := subArr_rep pt hu hsub (l.toNat + q) z hq'
      refine ⟨ys, g1, fun j v hj => ?_⟩
      have := hc _ v (g2 j v hj)
      rw [show o + l.toNat * e.size + q * e.size + j = o + (l.toNat + q) * e.size + j by rw [Nat.add_mul]; omega]
      exact this
  ·exact Sound.fail
 ·exact Sound.fail
theorem sound_indexAddr (T : TOk P cx) (h : Rel cx F st β a w) {t : Nat} {x i : Operand} {an : Ann} (ho : o.op = .indexAddr t x i) :
    Sound P cx F a w (execOp a.eval o) (evI cx (.indexAddr t x i) an st) := by
 simp only [evI]
 have hx := h.eval x
 have hi := h.eval i
 split
 ·rename_i el e xs k n hd hs hn
  rw [hs] at hx; rw [hn] at hi
  have hi' : a.eval i = .int k n := hi
  obtain ⟨ad, cap, hx1, hlc, hx2⟩ := hx
  have hx' : a.eval x = .slice ad xs.length cap := by simpa using hx1
  cases hsz : Nat.beq e.size (cx.T el).size
  ·exact Sound.fail
  ·have hsz' := (beq_iff _ _).1 hsz
   have hk := (T t (by rw [hd]; rfl)).slice el hd
   rintro ⟨h0, h1⟩
   rcases hx2 with rfl | ⟨b, off, rfl, hrow⟩
   ·simp at h1; omega
   ·refine ⟨_, β, w, .inl ?_, h, ⟨by omega, b, off, rfl, hrow⟩⟩
    simp [execOp, ho, Instr.indexAt, hi', asIntOf, run_underlying (und_slice T hd), hx', h0, h1, run_size T hk, hsz', Addr.add_lit]
 ·rename_i len el pt x' off k n hd hs hn
  rw [hs] at hx; rw [hn] at hi
  have hi' : a.eval i = .int k n := hi
  obtain ⟨b, hx', b', hb', hnx, vals, el', fr, hb2, us, hu, hc⟩ := hx
  have : b = b' := by simpa using hb'
  subst this
  split
  ·rename_i e xs hsub
   cases hsz : Nat.beq e.size (cx.T el).size
   ·exact Sound.fail
   ·have hsz' := (beq_iff _ _).1 hsz
    have hk := (T t (by rw [hd]; rfl)).array len el hd
    rintro ⟨h0, h1, h2⟩
    refine ⟨.pointer (some ⟨b, off + n.toNat * e.size, none⟩), β, w, .inl ?_, h, ⟨by omega, b, off, rfl, hnx, vals, el', fr, hb2, fun q y hq => ?_⟩⟩
    ·simp [execOp, ho, Instr.indexAt, hi', asIntOf, run_underlying (und_array T hd), hx', Instr.sureAddr, h0, h1, run_size T hk, hsz', Addr.add_lit]
    ·obtain ⟨ys, g1, g2⟩ := subArr_rep pt hu hsub q y hq
     exact ⟨ys, g1, fun j v hj => hc _ v (g2 j v hj)⟩
  ·exact Sound.fail
 ·rename_i el kk k n hd hs hn
  rw [hs] at hx; rw [hn] at hi
  have hi' : a.eval i = .int k n := hi
  have hx' : a.eval x = β kk := hx.1
  split
  ·rename_i e xs hsl
   cases hsz : Nat.beq e.size (cx.T el).size
   ·exact Sound.fail
   ·have hsz' := (beq_iff _ _).1 hsz
    have hk := (T t (by rw [hd]; rfl)).slice el hd
    rintro ⟨h0, h1⟩
    rcases h.slots _ _ hsl with ⟨rfl, _⟩ | ⟨b, cap, vals, el', fr, hb, hb2, _⟩
    ·simp at h1; omega
    ·refine ⟨_, β, w, .inl ?_, h, ⟨b, _, _, hb, rfl⟩⟩
     rw [hb] at hx'
     simp [execOp, ho, Instr.indexAt, hi', asIntOf, run_underlying (und_slice T hd), hx', h0, h1, run_size T hk, hsz', Addr.add_lit]
  ·exact Sound.fail
 ·rename_i len el kk off k n hd hs hn
  rw [hs] at hx; rw [hn] at hi
  have hi' : a.eval i = .int k n := hi
  obtain ⟨b, hb0, hx'⟩ := hx
  split
  ·rename_i ty x hsl
   split
   ·rename_i e xs hsub
    cases hsz : Nat.beq e.size (cx.T el).size
    ·exact Sound.fail
    ·have hsz' := (beq_iff _ _).1 hsz
     have hk := (T t (by rw [hd]; rfl)).array len el hd
     rintro ⟨h0, h1, h2⟩
     refine ⟨.pointer (some ⟨b, off + n.toNat * e.size, none⟩), β, w, .inl ?_, h, ⟨b, hb0, rfl⟩⟩
     simp [execOp, ho, Instr.indexAt, hi', asIntOf, run_underlying (und_array T hd), hx', Instr.sureAddr, h0, h1, run_size T hk, hsz', Addr.add_lit]
   ·exact Sound.fail
  ·exact Sound.fail
 ·rename_i len el e0 ys j off k n hd hs hn
  rw [hs] at hx; rw [hn] at hi
  have hi' : a.eval i = .int k n := hi
  obtain ⟨hj, b, offb, hx', hnx, vals, el', fr, hb2, hall⟩ := hx
  split
  ·rename_i e xs hsub
   cases hsz : Nat.beq e.size (cx.T el).size
   ·exact Sound.fail
   ·have hsz' := (beq_iff _ _).1 hsz
    have hk := (T t (by rw [hd]; rfl)).array len el hd
    rintro ⟨h0, h1, h2⟩
    have hget : ys[j]? = some (ys.getD j e0.dflt) := by simp [List.getD, List.getElem?_eq_getElem hj]
    obtain ⟨us, hu1, hu2⟩ := hall j _ hget
    refine ⟨.pointer (some ⟨b, offb + j * e0.size + off + n.toNat * e.size, none⟩), β, w, .inl ?_, h, ⟨by omega, b, offb + j * e0.size + off, rfl, hnx, vals, el', fr, hb2, fun q y hq => ?_⟩⟩
    ·simp [execOp, ho, Instr.indexAt, hi', asIntOf, run_underlying (und_array T hd), hx', Instr.sureAddr, h0, h1, run_size T hk, hsz', Addr.add_lit]
    ·obtain ⟨ys', g1, g2⟩ := subArr_rep e0 hu1 hsub q y hq
     refine ⟨ys', g1, fun q' v hq' => ?_⟩
     have := hu2 _ v (g2 q' v hq')
     rw [← this]; congr 1; omega
  ·exact Sound.fail
 ·exact Sound.fail
theorem sound_fieldAddr (T : TOk P cx) (h : Rel cx F st β a w) {t : Nat} {x : Operand} {f : Nat} {an : Ann} (ho : o.op = .fieldAddr t x f) :
    Sound P cx F a w (execOp a.eval o) (evI cx (.fieldAddr t x f) an st) := by
 simp only [evI]
 have hx := h.eval x
 split
 ·rename_i fs c hd hs
  rw [hs] at hx
  split
  ·rename_i fo ft hf
   obtain ⟨gs, hu, hg⟩ := und_struct T hd
   obtain ⟨g, hg1, hg2, hg3⟩ := sameF_nth hg hf
   have hg1' : gs[f]? = some g := by simpa using hg1
   simp only at hg2 hg3
   cases hk : (cx.T ft).d.known
   ·exact Sound.fail
   ·cases hz : Nat.ble 1 (cx.T ft).size
    ·exact Sound.fail
    ·have hz' : ¬ (cx.T ft).size = 0 := by have := Nat.le_of_ble_eq_true hz; omega
     have hrun : ∀ b off, a.eval x = .pointer (some ⟨b, off, none⟩) → (execOp a.eval o).run P w = .ok (.value (.pointer (some ⟨b, off + fo, none⟩))) w := by
      intro b off hb
      simp [execOp, ho, Instr.fieldAt, run_underlying hu, hg1', hb, Instr.sureAddr, fieldPlace, hg3, run_size T hk, hz', hg2, Addr.add_lit]
     simp only [Bool.and_self, cond_true]
     split
     ·obtain ⟨b, h1, h2⟩ := hx
      exact Sound.ok h (hrun _ _ h2) ⟨b, h1, rfl⟩
     ·obtain ⟨b, len, cap, h1, h2⟩ := hx
      exact Sound.ok h (hrun _ _ h2) ⟨b, len, cap, h1, by rw [Nat.add_assoc]⟩
     ·obtain ⟨b, h1, h2⟩ := hx
      exact Sound.ok h (hrun _ _ h1) ⟨b, rfl, h2⟩
     ·obtain ⟨hi, b, off, h1, h2⟩ := hx
      exact Sound.ok h (hrun _ _ h1) ⟨hi, b, off, by rw [Nat.add_assoc], h2⟩
     ·obtain ⟨b, h1, h2⟩ := hx
      exact Sound.ok h (hrun _ _ h2) ⟨b, h1, by rw [Nat.add_assoc]⟩
     ·exact Sound.fail
  ·exact Sound.fail
 ·exact Sound.fail
/-- Typed cells stand for what they are read from. -/
theorem cellsOf_rep {X : Nat → Prop} : ∀ (t : Ty) {x : t.El} {vs : List Value}, Rep X w t x vs → All2 (RepC β X w) (cellsOf t x) vs
 | .bool, _, _, h => by subst h; exact ⟨rfl, trivial⟩
 | .int _, _, _, h => by subst h; exact ⟨rfl, trivial⟩
 | .str, _, _, h => by subst h; exact ⟨rfl, trivial⟩
 | .unit, _, _, h => by subst h; exact trivial
 | .pair p q, _, _, ⟨us, us', h, h1, h2⟩ => by subst h; exact (cellsOf_rep p h1).append (cellsOf_rep q h2)
 | .list e, xs, _, ⟨ad, cap, h, h1, h2⟩ => by subst h; exact ⟨⟨ad, cap, rfl, h1, h2⟩, trivial⟩
 | .ptr t, _, _, ⟨b, h, h1⟩ => by subst h; exact ⟨⟨b, rfl, b, rfl, h1⟩, trivial⟩
 | .arr n e, xs, _, ⟨hn, uss, h, hu⟩ => by
  subst h
  have key : ∀ (ys : List e.El) (uss : List (List Value)), All2 (Rep X w e) ys uss → ∀ (pre : List e.El), pre ++ ys = xs →
      All2 (RepC β X w) ((List.range' pre.length ys.length).flatMap fun i => cellsOf e (List.getD xs i e.dflt)) uss.flatten := by
   intro ys
   induction ys with
   | nil => intro uss hu pre _; cases uss with
    | nil => exact trivial
    | cons => exact hu.elim
   | cons y ys ih =>
    intro uss hu pre hp
    cases uss with
    | nil => exact hu.elim
    | cons us uss =>
     obtain ⟨h1, h2⟩ := hu
     have hy : List.getD xs pre.length e.dflt = y := by subst hp; simp [List.getD]
     have := ih uss h2 (pre ++ [y]) (by simpa using hp)
     simp only [List.length_append, List.length_cons, List.length_nil] at this
     simp only [List.length_cons, List.range'_succ, List.flatMap_cons, List.flatten_cons, hy]
     exact (cellsOf_rep e h1).append this
  have := key xs uss hu [] rfl
  have hn' : List.length (α := e.El) xs = n := hn
  rw [hn'] at this
  simpa [cellsOf, List.range_eq_range'] using this
theorem len?_eq : ∀ {cs : List C} {n : Nat}, len? cs n = true → cs.length = n
 | [], 0, _ => rfl
 | _ :: r, n + 1, h => by simp only [len?] at h; simp [len?_eq h]
 | [], _ + 1, h => by simp [len?] at h
 | _ :: _, 0, h => by simp [len?] at h
/-- What is read: the cells lie there. -/
theorem readAt_spec (h : Rel cx F st β a w) {v : V} {u : Value} (hv : RepV β (XX F st β) w v u) {n : Nat} {p : Side} {cs : List C} (hr : readAt st v n = some (p, cs)) (hp : p.holds) :
    ∃ b off us, u = .pointer (some ⟨b, off, none⟩) ∧ us.length = n ∧ All2 (RepC β (XX F st β) w) cs us ∧ ∀ (j : Nat) x, us[j]? = some x → w.cell? ⟨b, off + j, none⟩ = some x := by
 unfold readAt at hr
 split at hr
 ·rename_i k o
  obtain ⟨b, h1, h2⟩ := hv
  split at hr
  ·rename_i cells hsl
   cases hlen : len? (cut cells o n) n
   ·rw [hlen] at hr; simp at hr
   ·rw [hlen] at hr; simp only [cond_true, Option.some.injEq, Prod.mk.injEq] at hr
    obtain ⟨rfl, rfl⟩ := hr
    obtain ⟨b', vs, el, fr, hb1, hb2, _, hall⟩ := h.slots _ _ hsl
    have : b' = b := by rw [boxAt] at h1 hb1; rw [h1] at hb1; simpa using hb1.symm
    subst this
    have hc : All2 (RepC β (XX F st β) w) (cut cells o n) ((vs.drop o).take n) := (hall.drop o).take n
    refine ⟨b', o, _, h2, ?_, hc, ?_⟩
    ·rw [← hc.length]; exact len?_eq hlen
    ·intro j x hj
     rw [cell_at hb2]
     rw [List.getElem?_take, List.getElem?_drop] at hj
     split at hj
     ·simpa using hj
     ·cases hj
  ·rename_i t x hsl
   obtain ⟨b', vs, el, fr, hb1, hb2, _, hrep⟩ := h.slots _ _ hsl
   have : b' = b := by rw [boxAt] at h1 hb1; rw [h1] at hb1; simpa using hb1.symm
   subst this
   cases hlen : Nat.ble (o + n) t.size
   ·rw [hlen] at hr; simp at hr
   ·rw [hlen] at hr; simp only [cond_true, Option.some.injEq, Prod.mk.injEq] at hr
    obtain ⟨rfl, rfl⟩ := hr
    have hle := Nat.le_of_ble_eq_true hlen
    refine ⟨b', o, (vs.drop o).take n, h2, ?_, ((cellsOf_rep t hrep).drop o).take n, ?_⟩
    ·have := Rep.len t hrep; simp; omega
    ·intro j x hj
     rw [cell_at hb2]
     rw [List.getElem?_take, List.getElem?_drop] at hj
     split at hj
     ·simpa using hj
     ·cases hj
  ·rename_i bt c hsl
   cases hlen : Nat.beq o 1 && Nat.beq n 1
   ·rw [hlen] at hr; simp at hr
   ·rw [hlen] at hr; simp only [cond_true, Option.some.injEq, Prod.mk.injEq] at hr
    obtain ⟨rfl, rfl⟩ := hr
    rw [Bool.and_eq_true] at hlen
    obtain rfl := (beq_iff _ _).1 hlen.1
    obtain rfl := (beq_iff _ _).1 hlen.2
    obtain ⟨b', v0, v1, fr, hb1, hb2, _, _, hc⟩ := h.slots _ _ hsl
    have : b' = b := by rw [boxAt] at h1 hb1; rw [h1] at hb1; simpa using hb1.symm
    subst this
    refine ⟨b', 1, [v1], h2, rfl, ⟨hc, trivial⟩, ?_⟩
    intro j x hj
    rw [cell_at hb2]
    cases j with
    | zero => simpa using hj
    | succ j => simp at hj
  ·simp at hr
 ·rename_i k e i o
  obtain ⟨b, len, cap, h1, h2⟩ := hv
  split at hr
  ·rename_i e' xs hsl
   split at hr
   ·rename_i he
    subst he
    cases hlen : Nat.ble (o + n) e'.size
    ·rw [hlen] at hr; simp at hr
    ·rw [hlen] at hr; simp only [cond_true, Option.some.injEq, Prod.mk.injEq, castLs_rfl] at hr
     obtain ⟨rfl, rfl⟩ := hr
     have hle := Nat.le_of_ble_eq_true hlen
     rcases h.slots _ _ hsl with ⟨rfl, _⟩ | ⟨b', cap', vals, el, fr, hb1, hb2, _, _, _, hall⟩
     ·simp at hp
     ·have : b' = b := by rw [h1] at hb1; simp at hb1; exact hb1.1.symm
      subst this
      have hget : xs[i]? = some (xs.getD i e'.dflt) := by simp [List.getD, List.getElem?_eq_getElem hp]
      obtain ⟨us, hu1, hu2⟩ := hall i _ hget
      have hc : All2 (RepC β (XX F st β) w) (cut (cellsOf e' (xs.getD i e'.dflt)) o n) ((us.drop o).take n) := ((cellsOf_rep e' hu1).drop o).take n
      refine ⟨b', _, _, h2, ?_, hc, ?_⟩
      ·have := Rep.len e' hu1; simp; omega
      ·intro j x hj
       rw [cell_at hb2, Nat.add_assoc]
       rw [List.getElem?_take, List.getElem?_drop] at hj
       split at hj
       ·exact hu2 _ x hj
       ·cases hj
   ·simp at hr
  ·simp at hr
 ·rename_i k o e i off
  obtain ⟨b, h1, h2⟩ := hv
  split at hr
  ·rename_i t x hsl
   split at hr
   ·rename_i e' xs hsub
    split at hr
    ·rename_i he
     subst he
     cases hlen : Nat.ble (off + n) e'.size
     ·rw [hlen] at hr; simp at hr
     ·rw [hlen] at hr; simp only [cond_true, Option.some.injEq, Prod.mk.injEq, castLs_rfl] at hr
      obtain ⟨rfl, rfl⟩ := hr
      have hp : i < xs.length := hp
      have hle := Nat.le_of_ble_eq_true hlen
      obtain ⟨b', vs, el, fr, hb1, hb2, _, hrep⟩ := h.slots _ _ hsl
      have : b' = b := by rw [boxAt] at h1 hb1; rw [h1] at hb1; simpa using hb1.symm
      subst this
      have hget : xs[i]? = some (xs.getD i e'.dflt) := by simp [List.getD, List.getElem?_eq_getElem hp]
      obtain ⟨us, hu1, hu2⟩ := subArr_rep t hrep hsub i _ hget
      refine ⟨b', _, (us.drop off).take n, h2, ?_, ((cellsOf_rep e' hu1).drop off).take n, ?_⟩
      ·have := Rep.len e' hu1; simp; omega
      ·intro j x hj
       rw [cell_at hb2]
       rw [List.getElem?_take, List.getElem?_drop] at hj
       split at hj
       ·have := hu2 _ x hj
        rw [List.getElem?_toArray, ← this]; congr 1; omega
       ·cases hj
    ·simp at hr
   ·simp at hr
  ·simp at hr
 ·rename_i t x o
  obtain ⟨b, h1, h2⟩ := hv
  obtain ⟨b', hb', hnx, vals, el, fr, hb2, us, hu, hc⟩ := h2
  have : b' = b := by simpa using hb'.symm
  subst this
  cases hlen : Nat.ble (o + n) t.size
  ·rw [hlen] at hr; simp at hr
  ·rw [hlen] at hr; simp only [cond_true, Option.some.injEq, Prod.mk.injEq] at hr
   obtain ⟨rfl, rfl⟩ := hr
   have hle := Nat.le_of_ble_eq_true hlen
   refine ⟨b', o, (us.drop o).take n, h1, ?_, ((cellsOf_rep t hu).drop o).take n, ?_⟩
   ·have := Rep.len t hu; simp; omega
   ·intro j x hj
    rw [cell_at hb2]
    rw [List.getElem?_take, List.getElem?_drop] at hj
    split at hj
    ·exact hc _ x hj
    ·cases hj
 ·rename_i e xs i o
  obtain ⟨hi, b, off, h1, hnx, vals, el, fr, hb2, hall⟩ := hv
  cases hlen : Nat.ble (o + n) e.size
  ·rw [hlen] at hr; simp at hr
  ·rw [hlen] at hr; simp only [cond_true, Option.some.injEq, Prod.mk.injEq] at hr
   obtain ⟨rfl, rfl⟩ := hr
   have hle := Nat.le_of_ble_eq_true hlen
   have hget : xs[i]? = some (xs.getD i e.dflt) := by simp [List.getD, List.getElem?_eq_getElem hi]
   obtain ⟨us, hu1, hu2⟩ := hall i _ hget
   refine ⟨b, _, (us.drop o).take n, h1, ?_, ((cellsOf_rep e hu1).drop o).take n, ?_⟩
   ·have := Rep.len e hu1; simp; omega
   ·intro j x hj
    rw [cell_at hb2, Nat.add_assoc]
    rw [List.getElem?_take, List.getElem?_drop] at hj
    split at hj
    ·exact hu2 _ x hj
    ·cases hj
 ·simp at hr
theorem sound_load (T : TOk P cx) (h : Rel cx F st β a w) {t : Nat} {x : Operand} {an : Ann} (ho : o.op = .load t x) :
    Sound P cx F a w (execOp a.eval o) (evI cx (.load t x) an st) := by
 simp only [evI]
 split
 ·rename_i p cs hr
  cases hk : (cx.T t).d.known
  ·exact Sound.fail
  ·simp only [Bool.not_true, cond_false]
   cases ha : (cx.T t).isAgg
   ·simp only [cond_false]
    split
    ·rename_i c
     intro hp
     obtain ⟨b, off, us, hu, hlen, hall, hcell⟩ := readAt_spec h (h.eval x) hr hp
     match us, hall, hcell with
     | [u], hall, hcell =>
      refine ⟨u, β, w, .inl ?_, h, hall.1⟩
      have := hcell 0 u rfl
      simp [execOp, ho, Instr.loadAt, hu, Instr.sureAddr, loadVar, isAgg_of T hk, ha] at this ⊢
      simp [this]
    ·exact Sound.fail
   ·simp only [cond_true]
    intro hp
    obtain ⟨b, off, us, hu, hlen, hall, hcell⟩ := readAt_spec h (h.eval x) hr hp
    refine ⟨.agg us.toArray, β, w, .inl ?_, h, ⟨us, rfl, hall⟩⟩
    have hl := run_loadCells_list (P := P) w ⟨b, off, none⟩ us (fun j v hj => by rw [Addr.add_lit]; exact hcell j v hj)
    rw [hlen] at hl
    simp [execOp, ho, Instr.loadAt, hu, Instr.sureAddr, loadVar, isAgg_of T hk, ha, run_size T hk, hl]
 ·exact Sound.fail
end
end Go.AM
/- Soundness of the operations that make or turn blocks. -/
set_option linter.unusedSimpArgs false
set_option linter.unusedVariables false
namespace Go.AM
open Go
section
variable {α β : Type} {R : α → β → Prop}
theorem putAt_length : ∀ (l : List α) (o : Nat) (vs : List α), o + vs.length ≤ l.length → (putAt l o vs).length = l.length
 | l, 0, vs, h => by simp [putAt]; omega
 | [], n + 1, vs, h => by simp at h
 | c :: l, n + 1, vs, h => by simp [putAt]; exact putAt_length l n vs (by simp at h; omega)
theorem putAt_get : ∀ (l : List α) (o : Nat) (vs : List α), o + vs.length ≤ l.length → ∀ (j : Nat), (putAt l o vs)[j]? = if o ≤ j ∧ j < o + vs.length then vs[j - o]? else l[j]?
 | l, 0, vs, h, j => by
  simp only [putAt, Nat.zero_le, true_and, Nat.zero_add, Nat.sub_zero]
  by_cases hj : j < vs.length
  ·simp [hj, List.getElem?_append_left hj]
  ·rw [if_neg hj, List.getElem?_append_right (by omega), List.getElem?_drop]
   congr 1; omega
 | [], n + 1, vs, h, j => by simp at h
 | c :: l, n + 1, vs, h, 0 => by simp [putAt]
 | c :: l, n + 1, vs, h, j + 1 => by
  simp only [putAt, List.getElem?_cons_succ]
  rw [putAt_get l n vs (by simp at h; omega) j]
  by_cases h1 : n ≤ j ∧ j < n + vs.length
  ·rw [if_pos h1, if_pos (by omega)]; congr 1; omega
  ·rw [if_neg h1, if_neg (by omega)]
theorem All2.putAt : ∀ {cs : List α} {vs : List β} {o : Nat} {cs' : List α} {us : List β}, All2 R cs vs → All2 R cs' us → All2 R (AM.putAt cs o cs') (AM.putAt vs o us)
 | cs, vs, 0, cs', us, h, h' => by
  simp only [AM.putAt]
  rw [h'.length]
  exact h'.append (h.drop _)
 | [], [], n + 1, _, _, _, _ => trivial
 | c :: cs, v :: vs, n + 1, cs', us, ⟨h1, h2⟩, h' => ⟨h1, All2.putAt h2 h'⟩
end
section
variable {P : Program} {cx : Cx} {F : Fm} {st : St} {β : Nat → Value} {a : Act} {w : World} {o : Oper}
theorem heap_setCell (b o : Nat) (v : Value) (w : World) {vals : Array Value} {el : TypeId} {fr : Nat × Nat} (h : w.heap[b]? = some (.cells vals el fr)) :
    (w.setCell ⟨b, o, none⟩ v).heap[b]? = some (.cells (vals.setIfInBounds o v) el fr) := by
 simp [World.setCell, Array.getElem?_modify, h]
theorem heap_setCell_ne (b o : Nat) (v : Value) (w : World) {b' : Nat} (h : b ≠ b') : (w.setCell ⟨b, o, none⟩ v).heap[b']? = w.heap[b']? := by
 simp [World.setCell, Array.getElem?_modify, h]
theorem heap_setCells_ne (b : Nat) {b' : Nat} (h : b ≠ b') : ∀ (vs : List Value) (o : Nat) (w : World), (w.setCells b o vs).heap[b']? = w.heap[b']?
 | [], _, _ => rfl
 | v :: vs, o, w => by rw [World.setCells, heap_setCells_ne b h vs, heap_setCell_ne b o v w h]
theorem size_setCells (b : Nat) : ∀ (vs : List Value) (o : Nat) (w : World), (w.setCells b o vs).heap.size = w.heap.size
 | [], _, _ => rfl
 | v :: vs, o, w => by rw [World.setCells, size_setCells b vs]; simp
theorem same_setCells (b : Nat) : ∀ (vs : List Value) (o : Nat) (w : World), Same w (w.setCells b o vs)
 | [], _, w => Same.refl w
 | v :: vs, o, w => (show Same w (w.setCell ⟨b, o, none⟩ v) from ⟨rfl, rfl, rfl⟩).trans (same_setCells b vs (o + 1) _)
theorem putAt_cons {α : Type} : ∀ (l : List α) (o : Nat) (v : α) (vs : List α), o + (vs.length + 1) ≤ l.length → putAt (l.set o v) (o + 1) vs = putAt l o (v :: vs)
 | c :: l, 0, v, vs, h => by simp [putAt]
 | [], o, v, vs, h => by simp at h
 | c :: l, o + 1, v, vs, h => by simp only [List.set_cons_succ, putAt]; rw [putAt_cons l o v vs (by simp at h; omega)]
theorem heap_setCells (b : Nat) : ∀ (vs : List Value) (o : Nat) (w : World) {l : List Value} {el : TypeId} {fr : Nat × Nat}, w.heap[b]? = some (.cells l.toArray el fr) → o + vs.length ≤ l.length →
    (w.setCells b o vs).heap[b]? = some (.cells (putAt l o vs).toArray el fr)
 | [], o, w, l, el, fr, h, hl => by
  rw [World.setCells, h]
  have : putAt l o [] = l := by
   apply List.ext_getElem?
   intro j
   rw [putAt_get l o [] (by simpa using hl)]
   split
   ·rename_i h1; simp at h1; omega
   ·rfl
  rw [this]
 | v :: vs, o, w, l, el, fr, h, hl => by
  rw [World.setCells]
  have h1 := heap_setCell b o v w h
  rw [show l.toArray.setIfInBounds o v = (l.set o v).toArray by simp] at h1
  rw [heap_setCells b vs (o + 1) _ h1 (by simp at hl ⊢; omega)]
  congr 2
  rw [putAt_cons l o v vs (by simpa using hl)]
theorem run_stores {b o : Nat} {vs : List Value} {l : List Value} {el : TypeId} {fr : Nat × Nat} (h : w.heap[b]? = some (.cells l.toArray el fr)) (hl : o + vs.length ≤ l.length) (ht : thawed l.toArray fr)
    (h1 : ∀ v ∈ vs, v.oneCell' = true) : (storeCells ⟨b, o, none⟩ vs 0).run P w = .ok () (w.setCells b o vs) := by
 have := run_storeCells_cells (P := P) b o vs 0 w (fun j hj => by
     rw [cell_at h]; simp; omega) (fun j hj => by
     have := ht (o + j) (by simp; omega)
     simp only [World.frozen?, h, Nat.add_zero]
     simpa using this) h1
 simpa using this
theorem all_one {X : Nat → Prop} {cs : List C} {us : List Value} (h : All2 (RepC β X w) cs us) : ∀ v ∈ us, v.oneCell' = true := by
 intro v hv
 obtain ⟨i, hi⟩ := List.mem_iff_getElem?.1 hv
 obtain ⟨c, _, hc⟩ := h.get' hi
 exact RepC.one hc
theorem cells_one {v : Value} (h : v.oneCell' = true) : v.cells = #[v] := by
 cases v <;> first | rfl | simp [Value.oneCell'] at h
theorem cells?_spec {X : Nat → Prop} {x : V} {v : Value} (h : RepV β X w x v) {cs : List C} (hc : x.cells? = some cs) : ∃ us : List Value, v.cells = us.toArray ∧ All2 (RepC β X w) cs us := by
 cases x with
 | one c => simp [V.cells?] at hc; subst hc; exact ⟨[v], by rw [cells_one (RepC.one h)], h, trivial⟩
 | agg cs' => simp [V.cells?] at hc; subst hc; obtain ⟨us, rfl, h2⟩ := h; exact ⟨us, rfl, h2⟩
 | tup _ => simp [V.cells?] at hc
 | undef => simp [V.cells?] at hc
 | top => simp [V.cells?] at hc
theorem All2.cons_left {α β : Type} {R : α → β → Prop} {x : α} {xs : List α} {us : List β} (h : All2 R (x :: xs) us) : ∃ u us', us = u :: us' ∧ R x u ∧ All2 R xs us' := by
 cases us with
 | nil => exact h.elim
 | cons u us => exact ⟨u, us, rfl, h.1, h.2⟩
theorem parseLoop_rep {X : Nat → Prop} {α : Type} {p : List C → Option (α × List C)} {Rp : α → List Value → Prop}
    (hp : ∀ {cs : List C} {us : List Value} {x : α} {r : List C}, All2 (RepC β X w) cs us → p cs = some (x, r) → ∃ u1 u2, us = u1 ++ u2 ∧ Rp x u1 ∧ All2 (RepC β X w) r u2) :
    ∀ (n : Nat) {cs : List C} {us : List Value} {xs : List α} {r : List C}, All2 (RepC β X w) cs us → parseLoop p n cs = some (xs, r) →
     ∃ (uss : List (List Value)) (u2 : List Value), us = uss.flatten ++ u2 ∧ All2 Rp xs uss ∧ xs.length = n ∧ All2 (RepC β X w) r u2
 | 0, cs, us, xs, r, h, he => by
  simp only [parseLoop, Option.some.injEq, Prod.mk.injEq] at he
  obtain ⟨rfl, rfl⟩ := he
  exact ⟨[], us, rfl, trivial, rfl, h⟩
 | n + 1, cs, us, xs, r, h, he => by
  simp only [parseLoop] at he
  split at he
  ·cases he
  ·rename_i x r1 h1
   split at he
   ·cases he
   ·rename_i ys r2 h2
    simp only [Option.some.injEq, Prod.mk.injEq] at he
    obtain ⟨rfl, rfl⟩ := he
    obtain ⟨u1, u2, rfl, hx, hr⟩ := hp h h1
    obtain ⟨uss, u3, rfl, hxs, hn, hr2⟩ := parseLoop_rep hp n hr h2
    exact ⟨u1 :: uss, u3, by simp, ⟨hx, hxs⟩, by simp [hn], hr2⟩
/-- What is parsed off is represented. -/
theorem parse_rep {X : Nat → Prop} : ∀ (t : Ty) {cs : List C} {us : List Value} {x : t.El} {r : List C}, All2 (RepC β X w) cs us → parse t cs = some (x, r) →
    ∃ u1 u2, us = u1 ++ u2 ∧ Rep X w t x u1 ∧ All2 (RepC β X w) r u2
 | .bool, cs, us, x, r, h, hp => by
  simp only [parse] at hp
  split at hp
  ·rename_i b r1
   simp only [Option.some.injEq, Prod.mk.injEq] at hp
   obtain ⟨rfl, rfl⟩ := hp
   obtain ⟨u, us', rfl, h1, h2⟩ := h.cons_left
   exact ⟨[u], us', rfl, by rw [show u = _ from h1]; rfl, h2⟩
  ·cases hp
 | .int k, cs, us, x, r, h, hp => by
  simp only [parse] at hp
  split at hp
  ·rename_i j b r1
   split at hp
   ·rename_i hk
    subst hk
    simp only [Option.some.injEq, Prod.mk.injEq] at hp
    obtain ⟨rfl, rfl⟩ := hp
    obtain ⟨u, us', rfl, h1, h2⟩ := h.cons_left
    exact ⟨[u], us', rfl, by rw [show u = _ from h1]; rfl, h2⟩
   ·cases hp
  ·cases hp
 | .str, cs, us, x, r, h, hp => by
  simp only [parse] at hp
  split at hp
  ·rename_i b r1
   simp only [Option.some.injEq, Prod.mk.injEq] at hp
   obtain ⟨rfl, rfl⟩ := hp
   obtain ⟨u, us', rfl, h1, h2⟩ := h.cons_left
   exact ⟨[u], us', rfl, by rw [show u = _ from h1]; rfl, h2⟩
  ·cases hp
 | .unit, cs, us, x, r, h, hp => by
  simp only [parse, Option.some.injEq, Prod.mk.injEq] at hp
  obtain ⟨_, rfl⟩ := hp
  exact ⟨[], us, rfl, rfl, h⟩
 | .pair p q, cs, us, x, r, h, hp => by
  simp only [parse] at hp
  split at hp
  ·cases hp
  ·rename_i y r1 h1
   split at hp
   ·cases hp
   ·rename_i z r2 h2
    simp only [Option.some.injEq, Prod.mk.injEq] at hp
    obtain ⟨rfl, rfl⟩ := hp
    obtain ⟨u1, u2, rfl, hy, hr1⟩ := parse_rep p h h1
    obtain ⟨u3, u4, rfl, hz, hr2⟩ := parse_rep q hr1 h2
    exact ⟨u1 ++ u3, u4, by simp, ⟨u1, u3, rfl, hy, hz⟩, hr2⟩
 | .list e, cs, us, x, r, h, hp => by
  simp only [parse] at hp
  split at hp
  ·rename_i e' xs r1
   split at hp
   ·rename_i he
    subst he
    simp only [Option.some.injEq, Prod.mk.injEq] at hp
    obtain ⟨rfl, rfl⟩ := hp
    obtain ⟨u, us', rfl, h1, h2⟩ := h.cons_left
    exact ⟨[u], us', rfl, h1, h2⟩
   ·cases hp
  ·simp only [Option.some.injEq, Prod.mk.injEq] at hp
   obtain ⟨rfl, rfl⟩ := hp
   obtain ⟨u, us', rfl, h1, h2⟩ := h.cons_left
   exact ⟨[u], us', rfl, ⟨none, 0, by rw [show u = _ from h1]; rfl, Nat.le_refl _, .inl rfl⟩, h2⟩
  ·simp only [Option.some.injEq, Prod.mk.injEq] at hp
   obtain ⟨rfl, rfl⟩ := hp
   obtain ⟨u, us', rfl, ⟨ad, h1⟩, h2⟩ := h.cons_left
   exact ⟨[u], us', rfl, ⟨ad, 0, by rw [h1]; rfl, Nat.le_refl _, .inl rfl⟩, h2⟩
  ·cases hp
 | .ptr t, cs, us, x, r, h, hp => by
  simp only [parse] at hp
  split at hp
  ·rename_i t' y r1
   split at hp
   ·rename_i he
    subst he
    simp only [Option.some.injEq, Prod.mk.injEq] at hp
    obtain ⟨rfl, rfl⟩ := hp
    obtain ⟨u, us', rfl, ⟨b, h1, h3⟩, h2⟩ := h.cons_left
    subst h1
    obtain ⟨b', hb, h4⟩ := h3
    have : b = b' := by simpa using hb
    subst this
    exact ⟨[_], us', rfl, ⟨b, rfl, h4⟩, h2⟩
   ·cases hp
  ·cases hp
 | .arr n e, cs, us, x, r, h, hp => by
  simp only [parse] at hp
  obtain ⟨uss, u2, rfl, h1, h2, h3⟩ := parseLoop_rep (Rp := Rep X w e) (fun h he => parse_rep e h he) n h hp
  exact ⟨uss.flatten, u2, rfl, ⟨h2, uss, rfl, h1⟩, h3⟩
theorem parse1_rep {X : Nat → Prop} {t : Ty} {cs : List C} {us : List Value} {x : t.El} (h : All2 (RepC β X w) cs us) (hp : parse1 t cs = some x) : Rep X w t x us := by
 unfold parse1 at hp
 split at hp
 ·rename_i y hy
  simp only [Option.some.injEq] at hp
  subst hp
  obtain ⟨u1, u2, rfl, h1, h2⟩ := parse_rep t h hy
  cases u2 with
  | nil => simpa using h1
  | cons => exact h2.elim
 ·cases hp
theorem parseN_rep {X : Nat → Prop} {t : Ty} {n : Nat} {cs : List C} {us : List Value} {xs : List t.El} (h : All2 (RepC β X w) cs us) (hp : parseN t n cs = some xs) :
    ∃ uss : List (List Value), us = uss.flatten ∧ All2 (Rep X w t) xs uss ∧ xs.length = n := by
 unfold parseN at hp
 split at hp
 ·rename_i y hy
  simp only [Option.some.injEq] at hp
  subst hp
  obtain ⟨uss, u2, rfl, h1, h2, h3⟩ := parseLoop_rep (Rp := Rep X w t) (fun h he => parse_rep t h he) n h hy
  cases u2 with
  | nil => exact ⟨uss, by simp, h1, h2⟩
  | cons => exact h3.elim
 ·cases hp
theorem flatten_get {n : Nat} : ∀ {uss : List (List Value)}, (∀ us ∈ uss, us.length = n) → ∀ {i j : Nat} {us : List Value}, uss[i]? = some us → j < n → uss.flatten[i * n + j]? = us[j]?
 | [], _, i, j, us, h, _ => by simp at h
 | u :: uss, hn, 0, j, us, h, hj => by
  simp at h; subst h
  have := hn u (List.mem_cons_self ..)
  simp only [List.flatten_cons, Nat.zero_mul, Nat.zero_add]
  exact List.getElem?_append_left (by omega)
 | u :: uss, hn, i + 1, j, us, h, hj => by
  have h1 := hn u (List.mem_cons_self ..)
  simp at h
  have := flatten_get (uss := uss) (fun v hv => hn v (List.mem_cons_of_mem _ hv)) h hj
  rw [List.flatten_cons, List.getElem?_append_right (by rw [h1, Nat.succ_mul]; omega), ← this]
  congr 1; rw [h1, Nat.succ_mul]; omega
theorem putAt_app_left {α : Type} : ∀ (l1 l2 : List α) (o : Nat) (vs : List α), o + vs.length ≤ l1.length → putAt (l1 ++ l2) o vs = putAt l1 o vs ++ l2
 | l1, l2, 0, vs, h => by simp only [putAt]; rw [List.drop_append_of_le_length (by omega), List.append_assoc]
 | [], l2, n + 1, vs, h => by simp at h
 | c :: l1, l2, n + 1, vs, h => by simp only [List.cons_append, putAt]; rw [putAt_app_left l1 l2 n vs (by simp at h; omega)]
theorem putAt_app_right {α : Type} : ∀ (l1 l2 : List α) (o : Nat) (vs : List α), l1.length ≤ o → putAt (l1 ++ l2) o vs = l1 ++ putAt l2 (o - l1.length) vs
 | [], l2, o, vs, h => by simp
 | c :: l1, l2, 0, vs, h => by simp at h
 | c :: l1, l2, n + 1, vs, h => by
  simp only [List.cons_append, putAt]
  rw [putAt_app_right l1 l2 n vs (by simp at h; omega)]
  simp
theorem putAt_all {α : Type} (l vs : List α) (h : vs.length = l.length) : putAt l 0 vs = vs := by simp [putAt, h]
theorem blt_true {a b : Nat} (h : Nat.blt a b = true) : a < b := by simpa [Nat.blt_eq] using h
theorem blt_false {a b : Nat} (h : Nat.blt a b = false) : b ≤ a := by
 rcases Nat.lt_or_ge a b with h' | h'
 ·have : Nat.blt a b = true := by simpa [Nat.blt_eq] using h'
  rw [h] at this; cases this
 ·exact h'
theorem setAt_rep {X : Nat → Prop} : ∀ (t : Ty) {x y : t.El} {us : List Value} {o : Nat} {vs : List C} {cs : List Value}, Rep X w t x us → All2 (RepC β X w) vs cs → setAt t x o vs = some y →
    o + cs.length ≤ us.length ∧ Rep X w t y (putAt us o cs) := by
 have whole : ∀ (t : Ty) {x y : t.El} {us : List Value} {vs : List C} {cs : List Value}, Rep X w t x us → All2 (RepC β X w) vs cs → parse1 t vs = some y → 0 + cs.length ≤ us.length ∧ Rep X w t y (putAt us 0 cs) := by
  intro t x y us vs cs h hc hp
  have h1 := parse1_rep hc hp
  have e1 := Rep.len t h
  have e2 := Rep.len t h1
  refine ⟨by omega, ?_⟩
  rw [putAt_all _ _ (by omega)]; exact h1
 intro t
 induction t with
 | pair a b iha ihb =>
  intro x y us o vs cs h hc hs
  obtain ⟨u1, u2, rfl, h1, h2⟩ := h
  have l1 := Rep.len a h1
  have l2 := Rep.len b h2
  have lc := hc.length
  simp only [setAt] at hs
  cases hb : Nat.blt o a.size
  ·rw [hb] at hs
   simp only [cond_false] at hs
   have hge := blt_false hb
   split at hs
   ·rename_i z hz
    simp only [Option.some.injEq] at hs
    subst hs
    obtain ⟨g1, g2⟩ := ihb h2 hc hz
    refine ⟨by simp; omega, ?_⟩
    rw [putAt_app_right _ _ _ _ (by omega), l1]
    exact ⟨u1, _, rfl, h1, g2⟩
   ·cases hs
  ·rw [hb] at hs
   simp only [cond_true] at hs
   cases hb2 : Nat.ble (o + vs.length) a.size
   ·rw [hb2] at hs
    simp only [cond_false] at hs
    split at hs
    ·exact whole (.pair a b) (x := x) ⟨u1, u2, rfl, h1, h2⟩ hc hs
    ·cases hs
   ·rw [hb2] at hs
    simp only [cond_true] at hs
    have hle := Nat.le_of_ble_eq_true hb2
    split at hs
    ·rename_i z hz
     simp only [Option.some.injEq] at hs
     subst hs
     obtain ⟨g1, g2⟩ := iha h1 hc hz
     refine ⟨by simp; omega, ?_⟩
     rw [putAt_app_left _ _ _ _ (by omega)]
     exact ⟨_, u2, rfl, g2, h2⟩
    ·cases hs
 | bool => intro x y us o vs cs h hc hs; cases o with | zero => exact whole _ h hc hs | succ o => cases hs
 | int k => intro x y us o vs cs h hc hs; cases o with | zero => exact whole _ h hc hs | succ o => cases hs
 | str => intro x y us o vs cs h hc hs; cases o with | zero => exact whole _ h hc hs | succ o => cases hs
 | unit => intro x y us o vs cs h hc hs; cases o with | zero => exact whole _ h hc hs | succ o => cases hs
 | list e _ => intro x y us o vs cs h hc hs; cases o with | zero => exact whole _ h hc hs | succ o => cases hs
 | ptr e _ => intro x y us o vs cs h hc hs; cases o with | zero => exact whole _ h hc hs | succ o => cases hs
 | arr n e _ => intro x y us o vs cs h hc hs; cases o with | zero => exact whole _ h hc hs | succ o => cases hs
theorem flatten_set {n : Nat} : ∀ {uss : List (List Value)} {i : Nat} {vs : List Value}, (∀ us ∈ uss, us.length = n) → i < uss.length → vs.length = n → (uss.set i vs).flatten = putAt uss.flatten (i * n) vs
 | [], i, vs, _, h, _ => by simp at h
 | u :: uss, 0, vs, hn, h, hv => by
  have := hn u (List.mem_cons_self ..)
  simp only [List.set_cons_zero, List.flatten_cons, Nat.zero_mul]
  rw [putAt_app_left _ _ _ _ (by omega), putAt_all _ _ (by omega)]
 | u :: uss, i + 1, vs, hn, h, hv => by
  have h1 := hn u (List.mem_cons_self ..)
  simp only [List.set_cons_succ, List.flatten_cons]
  rw [flatten_set (fun v hv => hn v (List.mem_cons_of_mem _ hv)) (by simpa using h) hv]
  rw [putAt_app_right _ _ _ _ (by rw [h1, Nat.succ_mul]; omega)]
  congr 2
  rw [h1, Nat.succ_mul]; omega
theorem All2.set {α γ : Type} {R : α → γ → Prop} : ∀ {as : List α} {bs : List γ} {i : Nat} {x : α} {y : γ}, All2 R as bs → R x y → All2 R (as.set i x) (bs.set i y)
 | [], [], _, _, _, _, _ => trivial
 | _ :: _, _ :: _, 0, _, _, ⟨_, h2⟩, h => ⟨h, h2⟩
 | _ :: _, _ :: _, i + 1, _, _, ⟨h1, h2⟩, h => ⟨h1, All2.set h2 h⟩
theorem setArr_rep {X : Nat → Prop} : ∀ (t : Ty) {x z : t.El} {us : List Value} {o : Nat} {e : Ty} {xs : List e.El} {i : Nat} {y : e.El} {vs : List Value}, Rep X w t x us → subArr t x o = some ⟨e, xs⟩ → i < xs.length →
    setArr t x o e i y = some z → Rep X w e y vs → o + i * e.size + vs.length ≤ us.length ∧ Rep X w t z (putAt us (o + i * e.size) vs) := by
 intro t
 induction t with
 | arr n e0 _ =>
  intro x z us o e xs i y vs h hs hi hz hy
  cases o with
  | succ o => simp [subArr] at hs
  | zero =>
   simp only [subArr, Option.some.injEq, Sigma.mk.injEq] at hs
   obtain ⟨rfl, hs⟩ := hs
   have hs := eq_of_heq hs
   subst hs
   simp only [setArr, dite_true, castEl_rfl, Option.some.injEq] at hz
   subst hz
   obtain ⟨hn, uss, rfl, hu⟩ := h
   have hl := Rep.len e0 hy
   have hlens : ∀ us ∈ uss, us.length = e0.size := by
    intro us hus
    obtain ⟨k, hk⟩ := List.mem_iff_getElem?.1 hus
    obtain ⟨q, _, hq⟩ := hu.get' hk
    exact Rep.len e0 hq
   have hlu : i < uss.length := by rw [← hu.length]; exact hi
   have hfl := flatten_set hlens hlu hl
   refine ⟨?_, ?_⟩
   ·rw [flatten_len hlens, Nat.zero_add, hl]
    have : (i + 1) * e0.size ≤ uss.length * e0.size := Nat.mul_le_mul_right _ hlu
    rw [Nat.succ_mul] at this; omega
   ·rw [Nat.zero_add, ← hfl]
    exact ⟨by rw [List.length_set]; exact hn, _, rfl, hu.set hy⟩
 | pair a b iha ihb =>
  intro x z us o e xs i y vs h hs hi hz hy
  obtain ⟨u1, u2, rfl, h1, h2⟩ := h
  have l1 := Rep.len a h1
  simp only [subArr] at hs
  simp only [setArr] at hz
  cases hb : Nat.blt o a.size
  ·rw [hb] at hs hz
   simp only [cond_false] at hs hz
   have hge := blt_false hb
   split at hz
   ·rename_i q hq
    simp only [Option.some.injEq] at hz
    subst hz
    obtain ⟨g1, g2⟩ := ihb h2 hs hi hq hy
    refine ⟨by simp; omega, ?_⟩
    rw [putAt_app_right _ _ _ _ (by omega)]
    refine ⟨u1, _, rfl, h1, ?_⟩
    have : o + i * e.size - u1.length = o - a.size + i * e.size := by omega
    rw [this]; exact g2
   ·cases hz
  ·rw [hb] at hs hz
   simp only [cond_true] at hs hz
   split at hz
   ·rename_i q hq
    simp only [Option.some.injEq] at hz
    subst hz
    obtain ⟨g1, g2⟩ := iha h1 hs hi hq hy
    refine ⟨by simp; omega, ?_⟩
    rw [putAt_app_left _ _ _ _ g1]
    exact ⟨_, u2, rfl, g2, h2⟩
   ·cases hz
 | _ => intro x z us o e xs i y vs h hs; simp [subArr] at hs
theorem sound_store (T : TOk P cx) (h : Rel cx F st β a w) {t : Nat} {x y : Operand} {an : Ann} (ho : o.op = .store t x y) :
    Sound P cx F a w (execOp a.eval o) (evI cx (.store t x y) an st) := by
 simp only [evI]
 split
 ·rename_i vs hvs
  obtain ⟨us, hus, hall⟩ := cells?_spec (h.eval y) hvs
  cases hk : (cx.T t).d.known
  ·exact Sound.fail
  ·cases h1s : Nat.ble 1 (cx.T t).size
   ·exact Sound.fail
   cases hl : len? vs (cx.T t).size
   ·exact Sound.fail
   ·have h1s' := Nat.le_of_ble_eq_true h1s
    have hlen : us.length = (cx.T t).size := by rw [← hall.length]; exact len?_eq hl
    have hrun : ∀ {b off : Nat} {l : List Value} {el : TypeId} {fr : Nat × Nat}, a.eval x = .pointer (some ⟨b, off, none⟩) → w.heap[b]? = some (.cells l.toArray el fr) → off + us.length ≤ l.length → thawed l.toArray fr →
        (execOp a.eval o).run P w = .ok .skip (w.setCells b off us) := by
     intro b off l el fr hx hb hle hth
     have hs := run_stores (P := P) hb hle hth (all_one hall)
     have hsz : us.toArray.size = (cx.T t).size := by simpa using hlen
     simp only [execOp, ho, Instr.storeAt, hx, Instr.sureAddr, Sem.run_bind, Sem.run_pure, Result.andThen_ok, storeVar, run_size T hk, hus, hsz, ne_eq, not_true_eq_false, if_false, hs]
    simp only [Bool.and_self, cond_true]
    have hx := h.eval x
    split
    ·rename_i k off hxv
     rw [hxv] at hx
     obtain ⟨b, hb0, hxe⟩ := hx
     split
     ·rename_i cs hsl
      cases hlc : len? (cut cs off (cx.T t).size) (cx.T t).size
      ·exact Sound.fail
      ·obtain ⟨b', l, el, fr, hb1, hb2, hth, hcs⟩ := h.slots _ _ hsl
       have : b' = b := by rw [boxAt] at hb0 hb1; rw [hb0] at hb1; simpa using hb1.symm
       subst this
       have h0 : off + us.length ≤ l.length := by
        have := len?_eq hlc
        simp only [cut, List.length_take, List.length_drop] at this
        rw [hcs.length] at this; omega
       intro _
       refine ⟨_, β, _, .inr ⟨hrun hxe hb2 h0 hth, rfl⟩, ?_, rfl⟩
       refine h.set k (.box (putAt cs off vs)) (.box cs) _ hsl (fun b o hb hne => ?_) (by rw [size_setCells]; exact Nat.le_refl _) (same_setCells _ _ _ _) (fun _ => rfl) (fun hfr => ?_)
       ·rw [heap_setCells_ne b' (by rintro rfl; exact hne (by rw [hb1]; rfl))]; exact hb
       ·have hh := heap_setCells b' us off w hb2 h0
        refine ⟨b', _, el, fr, hb1, hh, ?_, ?_⟩
        ·intro j hj; exact hth j (by simpa [putAt_length _ _ _ h0] using hj)
        ·exact (hcs.mono fun _ _ => RepC.mono hfr).putAt (hall.mono fun _ _ => RepC.mono hfr)
     ·rename_i ty z hsl
      split
      ·rename_i y' hset
       obtain ⟨b', l, el, fr, hb1, hb2, hth, hrep⟩ := h.slots _ _ hsl
       have : b' = b := by rw [boxAt] at hb0 hb1; rw [hb0] at hb1; simpa using hb1.symm
       subst this
       obtain ⟨h0, _⟩ := setAt_rep ty hrep hall hset
       intro _
       refine ⟨_, β, _, .inr ⟨hrun hxe hb2 h0 hth, rfl⟩, ?_, rfl⟩
       refine h.set k (.tb ty y') (.tb ty z) _ hsl (fun b o hb hne => ?_) (by rw [size_setCells]; exact Nat.le_refl _) (same_setCells _ _ _ _) (fun _ => rfl) (fun hfr => ?_)
       ·rw [heap_setCells_ne b' (by rintro rfl; exact hne (by rw [hb1]; rfl))]; exact hb
       ·have hh := heap_setCells b' us off w hb2 h0
        refine ⟨b', _, el, fr, hb1, hh, ?_, ?_⟩
        ·intro j hj; exact hth j (by simpa [putAt_length _ _ _ h0] using hj)
        ·exact (setAt_rep ty (Rep.mono hfr ty hrep) (hall.mono fun _ _ => RepC.mono hfr) hset).2
      ·exact Sound.fail
     ·rename_i bt c0 hsl
      split
      ·rename_i c hq
       obtain rfl := (beq_iff _ _).1 hq
       obtain ⟨b', v0, v1, fr, hb1, hb2, hth, hself, hc⟩ := h.slots _ _ hsl
       have : b' = b := by rw [boxAt] at hb0 hb1; rw [hb0] at hb1; simpa using hb1.symm
       subst this
       match us, hall with
       | [u], hall =>
        have h0 : 1 + [u].length ≤ [v0, v1].length := by simp
        intro _
        refine ⟨_, β, _, .inr ⟨hrun hxe hb2 h0 hth, rfl⟩, ?_, rfl⟩
        refine h.set k (.bd bt c) (.bd bt c0) _ hsl (fun b o hb hne => ?_) (by rw [size_setCells]; exact Nat.le_refl _) (same_setCells _ _ _ _) (fun _ => rfl) (fun hfr => ?_)
        ·rw [heap_setCells_ne b' (by rintro rfl; exact hne (by rw [hb1]; rfl))]; exact hb
        ·have hh := heap_setCells b' [u] 1 w hb2 h0
         exact ⟨b', v0, u, fr, hb1, hh, hth, hself, RepC.mono hfr hall.1⟩
      ·exact Sound.fail
     ·exact Sound.fail
    ·rename_i k o' e j off hxv
     rw [hxv] at hx
     obtain ⟨b, hb0, hxe⟩ := hx
     split
     ·rename_i ty z hsl
      split
      ·rename_i e' xs hsub
       split
       ·rename_i he
        subst he
        simp only [castLs_rfl]
        split
        ·rename_i y' hy'
         split
         ·rename_i z' hz'
          cases hle : Nat.ble (off + (cx.T t).size) e'.size
          ·exact Sound.fail
          ·have hle' := Nat.le_of_ble_eq_true hle
           intro hj
           have hj : j < xs.length := hj
           obtain ⟨b', l, el, fr, hb1, hb2, hth, hrep⟩ := h.slots _ _ hsl
           have : b' = b := by rw [boxAt] at hb0 hb1; rw [hb0] at hb1; simpa using hb1.symm
           subst this
           have hget : xs[j]? = some (xs.getD j e'.dflt) := by simp [List.getD, List.getElem?_eq_getElem hj]
           obtain ⟨u0, hu1, hu2⟩ := subArr_rep ty hrep hsub j _ hget
           have hu0 := Rep.len e' hu1
           have hu3 : off + us.length ≤ u0.length := by omega
           have hrep1 : Rep (XX F st β) w e' y' (putAt u0 off us) := parse1_rep ((cellsOf_rep e' hu1).putAt hall) hy'
           obtain ⟨g1, g2⟩ := setArr_rep ty hrep hsub hj hz' hrep1
           have hl1 : (putAt u0 off us).length = u0.length := putAt_length _ _ _ hu3
           have h0 : o' + j * e'.size + off + us.length ≤ l.length := by omega
           have hseg : putAt l (o' + j * e'.size) (putAt u0 off us) = putAt l (o' + j * e'.size + off) us := by
            apply List.ext_getElem?
            intro q
            rw [putAt_get _ _ _ g1, putAt_get _ _ _ h0, hl1]
            by_cases hq : o' + j * e'.size ≤ q ∧ q < o' + j * e'.size + u0.length
            ·rw [if_pos hq, putAt_get _ _ _ hu3]
             by_cases hq2 : off ≤ q - (o' + j * e'.size) ∧ q - (o' + j * e'.size) < off + us.length
             ·rw [if_pos hq2, if_pos (by omega)]; congr 1; omega
             ·rw [if_neg hq2, if_neg (by omega)]
              have hlt : q - (o' + j * e'.size) < u0.length := by omega
              rw [List.getElem?_eq_getElem hlt]
              have := hu2 _ _ (List.getElem?_eq_getElem hlt)
              rw [← this]; congr 1; omega
            ·rw [if_neg hq, if_neg (by omega)]
           refine ⟨_, β, _, .inr ⟨hrun hxe hb2 h0 hth, rfl⟩, ?_, rfl⟩
           refine h.set k (.tb ty z') (.tb ty z) _ hsl (fun b o hb hne => ?_) (by rw [size_setCells]; exact Nat.le_refl _) (same_setCells _ _ _ _) (fun _ => rfl) (fun hfr => ?_)
           ·rw [heap_setCells_ne b' (by rintro rfl; exact hne (by rw [hb1]; rfl))]; exact hb
           ·have hh := heap_setCells b' us (o' + j * e'.size + off) w hb2 h0
            refine ⟨b', _, el, fr, hb1, hh, ?_, ?_⟩
            ·intro j hj; exact hth j (by simpa [putAt_length _ _ _ h0] using hj)
            ·rw [← hseg]; exact Rep.mono hfr ty g2
         ·exact Sound.fail
        ·exact Sound.fail
       ·exact Sound.fail
      ·exact Sound.fail
     ·exact Sound.fail
    ·rename_i k e j off hxv
     rw [hxv] at hx
     obtain ⟨b, len, cap0, hb0, hxe⟩ := hx
     split
     ·rename_i fx e' xs hsl
      split
      ·rename_i he
       subst he
       simp only [castLs_rfl]
       split
       ·rename_i z hz
        cases hle : Nat.ble (off + (cx.T t).size) e'.size
        ·exact Sound.fail
        ·have hle' := Nat.le_of_ble_eq_true hle
         intro hj
         have hj : j < xs.length := hj
         rcases h.slots _ _ hsl with ⟨rfl, _⟩ | ⟨b', cap, vals, el, fr, hb1, hb2, hth, hlc, hcap, hrow⟩
         ·simp at hj
         ·have : b' = b := by rw [hb0] at hb1; simp at hb1; exact hb1.1.symm
          subst this
          have hget : xs[j]? = some (xs.getD j e'.dflt) := by simp [List.getD, List.getElem?_eq_getElem hj]
          obtain ⟨u0, hu1, hu2⟩ := hrow j _ hget
          have hu0 := Rep.len e' hu1
          have hbd : (j + 1) * e'.size ≤ vals.size := Nat.le_trans (Nat.mul_le_mul_right _ (by omega)) hcap
          rw [Nat.succ_mul] at hbd
          have hb3 : w.heap[b']? = some (.cells vals.toList.toArray el fr) := by simpa using hb2
          have h0 : j * e'.size + off + us.length ≤ vals.toList.length := by simp; omega
          have hth' : thawed vals.toList.toArray fr := by simpa using hth.1
          have hu3 : off + us.length ≤ u0.length := by omega
          have hrep : Rep (XX F st β) w e' z (putAt u0 off us) := parse1_rep ((cellsOf_rep e' hu1).putAt hall) hz
          refine ⟨_, β, _, .inr ⟨hrun hxe hb3 h0 hth', rfl⟩, ?_, rfl⟩
          refine h.set k (.lst fx e' (xs.set j z)) (.lst fx e' xs) _ hsl (fun b o hb hne => ?_) (by rw [size_setCells]; exact Nat.le_refl _) (same_setCells _ _ _ _) (fun hh => hh) (fun hfr => ?_)
          ·rw [heap_setCells_ne b' (by rintro rfl; exact hne (by rw [hb1]; rfl))]; exact hb
          ·have hh := heap_setCells b' us (j * e'.size + off) w hb3 h0
           refine .inr ⟨b', cap, _, el, fr, by rw [hb1]; simp, hh, ?_, by simpa using hlc, by simpa [putAt_length _ _ _ h0] using hcap, ?_⟩
           ·exact ⟨fun i hi => hth.1 i (by simpa [putAt_length _ _ _ h0] using hi), hth.2⟩
           ·intro i y hi
            rw [List.getElem?_set] at hi
            split at hi
            ·rename_i hji
             subst hji
             simp only [Option.some.injEq] at hi
             subst hi
             refine ⟨_, Rep.mono hfr e' hrep, fun q u hq => ?_⟩
             rw [List.getElem?_toArray, putAt_get _ _ _ h0]
             rw [putAt_get _ _ _ hu3] at hq
             by_cases hin : off ≤ q ∧ q < off + us.length
             ·rw [if_pos hin] at hq
              rw [if_pos (by omega), ← hq]; congr 1; omega
             ·rw [if_neg hin] at hq
              rw [if_neg (by omega)]
              simpa using hu2 q u hq
            ·rename_i hji
             obtain ⟨v0, hv1, hv2⟩ := hrow i y hi
             have hv0 := Rep.len e' hv1
             refine ⟨v0, Rep.mono hfr e' hv1, fun q u hq => ?_⟩
             have hq' : q < e'.size := by rw [← hv0]; exact (List.getElem?_eq_some_iff.1 hq).1
             rw [List.getElem?_toArray, putAt_get _ _ _ h0, if_neg ?_]
             ·simpa using hv2 q u hq
             ·rcases Nat.lt_or_gt_of_ne hji with hlt | hlt
              ·have : (j + 1) * e'.size ≤ i * e'.size := Nat.mul_le_mul_right _ hlt
               rw [Nat.succ_mul] at this; omega
              ·have : (i + 1) * e'.size ≤ j * e'.size := Nat.mul_le_mul_right _ hlt
               rw [Nat.succ_mul] at this; omega
       ·exact Sound.fail
      ·exact Sound.fail
     ·exact Sound.fail
    ·exact Sound.fail
 ·exact Sound.fail
/-- A new block behind all others. -/
theorem Rel.push (h : Rel cx F st β a w) (k : Nat) (s : Slot) (bv : Value) (w' : World) (ob : Obj) (hfix : F.fix k = none) (hsame : Same w w') (hw : w'.heap = w.heap.push ob)
    (hblk : ∀ b, blk bv = some b → b = w.heap.size)
    (hs : Fr (XX F st β) w (XX F (st.new k s) (upd β k bv)) w' → RepS (upd β k bv) (XX F (st.new k s) (upd β k bv)) w' s bv) :
    Rel cx F (st.new k s) (upd β k bv) a w' ∧ Fr (XX F st β) w (XX F (st.new k s) (upd β k bv)) w' := by
 refine h.new k s bv w' hfix hsame (fun b o hb _ => ?_) (fun b hb => .inl (Nat.le_of_eq (hblk b hb).symm)) (by rw [hw]; simp) hs
 have := lt_of_heap hb
 rw [hw, Array.getElem?_push, if_neg (Nat.ne_of_lt this)]; exact hb
theorem heap_push_new {w' : World} {ob : Obj} (hw : w'.heap = w.heap.push ob) : w'.heap[w.heap.size]? = some ob := by rw [hw]; simp
theorem sound_alloc (T : TOk P cx) (h : Rel cx F st β a w) {t : Nat} {an : Ann} (hA : AnnFix F an) (ho : o.op = .alloc t) :
    Sound P cx F a w (execOp a.eval o) (evI cx (.alloc t) an st) := by
 simp only [evI]
 split
 ·rename_i k
  cases hk : (cx.T t).d.known
  ·exact Sound.fail
  ·intro _
   obtain ⟨ti, z, hi, hs, hb, hz, hza, hzs, _⟩ := (T t hk).info
   have hrun : (execOp a.eval o).run P w = .ok (.value (.pointer (some ⟨w.heap.size, 0, none⟩))) (w.alloc (.cells z.cells t)) := by
    simp [execOp, ho, Instr.alloc, zeroValue, typeInfo, hi, hz, newVar, newRow]
   obtain ⟨hrel, hfr⟩ := h.push k (.box (cx.T t).zero) (.pointer (some ⟨w.heap.size, 0, none⟩)) (w.alloc (.cells z.cells t)) _ hA ⟨rfl, rfl, rfl⟩ rfl (fun b hb => by simpa [blk] using hb.symm) (fun hfr => by
    refine ⟨w.heap.size, z.cells.toList, t, (0, 0), rfl, ?_, fun j _ hh => by simp at hh, hza.mono fun _ _ hc => zeroOk_rep hc⟩
    rw [heap_push_new (w' := w.alloc (.cells z.cells t)) rfl])
   exact ⟨_, _, _, .inl hrun, hrel, ⟨w.heap.size, by simp [boxAt, upd], rfl⟩⟩
 ·rename_i k ty
  cases hk : (cx.T t).d.known
  ·exact Sound.fail
  ·cases hzt : (cx.T t).zt
   ·exact Sound.fail
   ·simp only [Bool.and_self, cond_true]
    split
    ·rename_i ty' hty
     split
     ·rename_i he
      subst he
      intro _
      obtain ⟨ti, z, hi, hs, hb, hz, hza, hzs, hzr⟩ := (T t hk).info
      have hrun : (execOp a.eval o).run P w = .ok (.value (.pointer (some ⟨w.heap.size, 0, none⟩))) (w.alloc (.cells z.cells t)) := by
       simp [execOp, ho, Instr.alloc, zeroValue, typeInfo, hi, hz, newVar, newRow]
      obtain ⟨hrel, hfr⟩ := h.push k (.tb ty' ty'.dflt) (.pointer (some ⟨w.heap.size, 0, none⟩)) (w.alloc (.cells z.cells t)) _ hA ⟨rfl, rfl, rfl⟩ rfl (fun b hb => by simpa [blk] using hb.symm) (fun hfr => by
       refine ⟨w.heap.size, z.cells.toList, t, (0, 0), rfl, ?_, fun j _ hh => by simp at hh, hzr hzt ty' hty _ _⟩
       rw [heap_push_new (w' := w.alloc (.cells z.cells t)) rfl])
      exact ⟨_, _, _, .inl hrun, hrel, ⟨w.heap.size, by simp [boxAt, upd], rfl⟩⟩
     ·exact Sound.fail
    ·exact Sound.fail
 ·rename_i k
  cases hk : (cx.T t).d.known
  ·exact Sound.fail
  ·simp only [cond_true]
   split
   ·rename_i hzero
    intro _
    obtain ⟨ti, z, hi, hs, hb, hz, hza, hzs, _⟩ := (T t hk).info
    have hrun : (execOp a.eval o).run P w = .ok (.value (.pointer (some ⟨w.heap.size, 0, none⟩))) (w.alloc (.cells z.cells t)) := by
     simp [execOp, ho, Instr.alloc, zeroValue, typeInfo, hi, hz, newVar, newRow]
    rw [hzero] at hza
    obtain ⟨hrel, hfr⟩ := h.push k (.bd t .nilS) (.pointer (some ⟨w.heap.size, 0, none⟩)) (w.alloc (.cells z.cells t)) _ hA ⟨rfl, rfl, rfl⟩ rfl (fun b hb => by simpa [blk] using hb.symm) (fun hfr => by
     match hzc : z.cells.toList, hza with
     | [v0, v1], hza =>
      have h1 : RepC β (XX F st β) w .nilP v0 := zeroOk_rep hza.1
      have h2 : RepC β (XX F st β) w .nilS v1 := zeroOk_rep hza.2.1
      refine ⟨w.heap.size, v0, v1, (0, 0), rfl, ?_, fun j _ hh => by simp at hh, .inl h1, h2⟩
      rw [heap_push_new (w' := w.alloc (.cells z.cells t)) rfl, ← hzc])
    exact ⟨_, _, _, .inl hrun, hrel, ⟨w.heap.size, by simp [boxAt, upd], rfl⟩⟩
   ·exact Sound.fail
 ·exact Sound.fail
theorem sound_box (T : TOk P cx) (h : Rel cx F st β a w) {t : Nat} {x : Operand} {an : Ann} (hA : AnnFix F an) (ho : o.op = .box t x) :
    Sound P cx F a w (execOp a.eval o) (evI cx (.box t x) an st) := by
 simp only [evI]
 split
 ·rename_i k cs hcs
  intro _
  obtain ⟨us, hus, hall⟩ := cells?_spec (h.eval x) hcs
  have hrun : (execOp a.eval o).run P w = .ok (.value (.pointer (some ⟨w.heap.size, 0, none⟩))) (w.alloc (.cells us.toArray t)) := by
   simp [execOp, ho, Instr.box, newVar, newRow, hus]
  obtain ⟨hrel, hfr⟩ := h.push k (.box (cs.map (C.ren (notKey k)))) (.pointer (some ⟨w.heap.size, 0, none⟩)) (w.alloc (.cells us.toArray t)) _ hA ⟨rfl, rfl, rfl⟩ rfl (fun b hb => by simpa [blk] using hb.symm) (fun hfr => by
   refine ⟨w.heap.size, us, t, (0, 0), rfl, ?_, fun j _ hh => by simp at hh, hall.map_left fun c v hc => RepC.ren (β' := upd β k (.pointer (some ⟨w.heap.size, 0, none⟩))) hfr notKey_spec hc⟩
   rw [heap_push_new (w' := w.alloc (.cells us.toArray t)) rfl])
  exact ⟨_, _, _, .inl hrun, hrel, ⟨w.heap.size, by simp [boxAt, upd], rfl⟩⟩
 ·rename_i k ty cs hcs
  split
  ·rename_i y hy
   intro _
   obtain ⟨us, hus, hall⟩ := cells?_spec (h.eval x) hcs
   have hrun : (execOp a.eval o).run P w = .ok (.value (.pointer (some ⟨w.heap.size, 0, none⟩))) (w.alloc (.cells us.toArray t)) := by
    simp [execOp, ho, Instr.box, newVar, newRow, hus]
   obtain ⟨hrel, hfr⟩ := h.push k (.tb ty y) (.pointer (some ⟨w.heap.size, 0, none⟩)) (w.alloc (.cells us.toArray t)) _ hA ⟨rfl, rfl, rfl⟩ rfl (fun b hb => by simpa [blk] using hb.symm) (fun hfr => by
    refine ⟨w.heap.size, us, t, (0, 0), rfl, ?_, fun j _ hh => by simp at hh, Rep.mono hfr ty (parse1_rep hall hy)⟩
    rw [heap_push_new (w' := w.alloc (.cells us.toArray t)) rfl])
   exact ⟨_, _, _, .inl hrun, hrel, ⟨w.heap.size, by simp [boxAt, upd], rfl⟩⟩
  ·exact Sound.fail
 ·exact Sound.fail
end
end Go.AM
/- Soundness: rows made and grown. -/
set_option linter.unusedSimpArgs false
set_option linter.unusedVariables false
namespace Go.AM
open Go
section
variable {P : Program} {cx : Cx} {F : Fm} {st : St} {β : Nat → Value} {a : Act} {w : World} {o : Oper}
theorem Row.uss {X : Nat → Prop} {e : Ty} {vals : Array Value} : ∀ (xs : List e.El) (off : Nat),
    (∀ (i : Nat) x, xs[i]? = some x → ∃ us, Rep X w e x us ∧ ∀ (j : Nat) u, us[j]? = some u → vals[off + i * e.size + j]? = some u) →
    ∃ uss : List (List Value), All2 (Rep X w e) xs uss ∧ ∀ (k : Nat) u, uss.flatten[k]? = some u → vals[off + k]? = some u
 | [], off, _ => ⟨[], trivial, fun k u h => by simp at h⟩
 | x :: xs, off, h => by
  obtain ⟨us, h1, h2⟩ := h 0 x rfl
  obtain ⟨uss, h3, h4⟩ := Row.uss xs (off + e.size) (fun i y hi => by
   obtain ⟨vs, g1, g2⟩ := h (i + 1) y (by simpa using hi)
   refine ⟨vs, g1, fun j u hj => ?_⟩
   rw [← g2 j u hj, Nat.succ_mul]; congr 1; omega)
  refine ⟨us :: uss, ⟨h1, h3⟩, fun k u hk => ?_⟩
  have hl := Rep.len e h1
  rw [List.flatten_cons] at hk
  by_cases hlt : k < us.length
  ·rw [List.getElem?_append_left hlt] at hk
   simpa using h2 k u hk
  ·rw [List.getElem?_append_right (by omega)] at hk
   rw [← h4 _ u hk]; congr 1; omega
theorem uss_lens {X : Nat → Prop} {e : Ty} {xs : List e.El} {uss : List (List Value)} (h : All2 (Rep X w e) xs uss) : ∀ us ∈ uss, us.length = e.size := by
 intro us hus
 obtain ⟨i, hi⟩ := List.mem_iff_getElem?.1 hus
 obtain ⟨x, _, hx⟩ := h.get' hi
 exact Rep.len e hx
theorem uss_len {X : Nat → Prop} {e : Ty} {xs : List e.El} {uss : List (List Value)} (h : All2 (Rep X w e) xs uss) : uss.flatten.length = xs.length * e.size := by
 rw [flatten_len (uss_lens h), h.length]
theorem uss_row {X : Nat → Prop} {e : Ty} {xs : List e.El} {uss : List (List Value)} (h : All2 (Rep X w e) xs uss) {vals : Array Value} (hv : ∀ (k : Nat) u, uss.flatten[k]? = some u → vals[k]? = some u) :
    ∀ (i : Nat) x, xs[i]? = some x → ∃ us, Rep X w e x us ∧ ∀ (j : Nat) u, us[j]? = some u → vals[i * e.size + j]? = some u := by
 intro i x hi
 obtain ⟨us, h1, h2⟩ := h.get hi
 refine ⟨us, h2, fun j u hj => hv _ _ ?_⟩
 have := Rep.len e h2
 rw [flatten_get (uss_lens h) h1 (by rw [← this]; exact (List.getElem?_eq_some_iff.1 hj).1)]; exact hj
theorem uss_one {X : Nat → Prop} {e : Ty} {xs : List e.El} {uss : List (List Value)} (h : All2 (Rep X w e) xs uss) : ∀ v ∈ uss.flatten, v.oneCell' = true := by
 intro v hv
 obtain ⟨us, hus, hvu⟩ := List.mem_flatten.1 hv
 obtain ⟨i, hi⟩ := List.mem_iff_getElem?.1 hus
 obtain ⟨x, _, hx⟩ := h.get' hi
 exact all_one (β := fun _ => default) (cellsOf_rep e hx) v hvu
/-- What an operand that is read as a row holds. -/
theorem tailOf_spec (h : Rel cx F st β a w) {ty : Ty} {y : V} {v : Value} (hv : RepV β (XX F st β) w y v) {ys : List ty.El} (ht : tailOf st ty y = some ys) :
    ∃ uss : List (List Value), All2 (Rep (XX F st β) w ty) ys uss ∧ (Builtin.lenOf v).run P w = .ok ys.length w ∧
     (∀ w' : World, w'.heap = w.heap → (Builtin.firstCells ty.size ys.length v).run P w' = .ok uss.flatten.toArray w') ∧
     ((∃ s, y = .one (.str s)) ∨ ∃ ad n c, v = .slice ad n c ∧ n = ys.length) := by
 have load : ∀ {b off : Nat} {vals : Array Value} {el : TypeId} {fr : Nat × Nat} {uss : List (List Value)}, All2 (Rep (XX F st β) w ty) ys uss → w.heap[b]? = some (.cells vals el fr) →
     (∀ (k : Nat) u, uss.flatten[k]? = some u → vals[off + k]? = some u) → ∀ (n c : Nat) (w' : World), w'.heap = w.heap →
     (Builtin.firstCells ty.size ys.length (.slice (some ⟨b, off, none⟩) n c)).run P w' = .ok uss.flatten.toArray w' := by
  intro b off vals el fr uss hall hb hc n c w' hw
  have hl := uss_len hall
  simp only [Builtin.firstCells]
  rw [← hl]
  refine run_loadCells_list w' _ _ fun j u hj => ?_
  rw [Addr.add_lit, cell_at (w := w') (by rw [hw]; exact hb)]
  exact hc j u hj
 unfold tailOf at ht
 split at ht
 ·rename_i e xs
  split at ht
  ·rename_i he
   subst he
   simp only [castLs_rfl, Option.some.injEq] at ht
   subst ht
   obtain ⟨ad, cap, h1, h2, h3⟩ := hv
   have hv' : v = .slice ad xs.length cap := by simpa using h1
   subst hv'
   rcases h3 with rfl | ⟨b, off, rfl, hnx, vals, el, fr, hb, hrow⟩
   ·refine ⟨[], trivial, rfl, fun w' hw => ?_, .inr ⟨_, _, _, rfl, rfl⟩⟩
    cases ad <;> simp [Builtin.firstCells, loadCells, loadCellsFrom]
   ·obtain ⟨uss, g1, g2⟩ := Row.uss xs off hrow
    exact ⟨uss, g1, rfl, load g1 hb g2 _ _, .inr ⟨_, _, _, rfl, rfl⟩⟩
  ·cases ht
 ·rename_i k
  split at ht
  ·rename_i e xs hsl
   split at ht
   ·rename_i he
    subst he
    simp only [castLs_rfl, Option.some.injEq] at ht
    subst ht
    obtain ⟨rfl, _⟩ := hv
    rcases h.slots _ _ hsl with ⟨rfl, ad, hb⟩ | ⟨b, cap, vals, el, fr, hb, hb2, _, _, _, hrow⟩
    ·rw [hb]
     refine ⟨[], trivial, rfl, fun w' hw => ?_, .inr ⟨_, _, _, rfl, rfl⟩⟩
     cases ad <;> simp [Builtin.firstCells, loadCells, loadCellsFrom]
    ·obtain ⟨uss, g1, g2⟩ := Row.uss xs 0 (by simpa using hrow)
     rw [hb]
     exact ⟨uss, g1, rfl, load g1 hb2 (by simpa using g2) _ _, .inr ⟨_, _, _, rfl, rfl⟩⟩
   ·cases ht
  ·cases ht
 ·simp only [Option.some.injEq] at ht
  subst ht
  have hv' : v = .slice none 0 0 := hv
  subst hv'
  exact ⟨[], trivial, rfl, fun w' hw => by simp [Builtin.firstCells], .inr ⟨_, _, _, rfl, rfl⟩⟩
 ·simp only [Option.some.injEq] at ht
  subst ht
  obtain ⟨ad, rfl⟩ := hv
  refine ⟨[], trivial, rfl, fun w' hw => ?_, .inr ⟨_, _, _, rfl, rfl⟩⟩
  cases ad <;> simp [Builtin.firstCells, loadCells, loadCellsFrom]
 ·rename_i s
  split at ht
  ·rename_i he
   subst he
   simp only [castLs_rfl, Option.some.injEq] at ht
   subst ht
   have hv' : v = .string ⟨s.toArray⟩ := hv
   subst hv'
   refine ⟨s.map fun b => [.int .u8 b.toNat], ?_, by simp [Builtin.lenOf, str_size], fun w' hw => ?_, .inl ⟨s, rfl⟩⟩
   ·refine All2.of_get (by simp) fun i x us hx hu => ?_
    rw [List.getElem?_map] at hx hu
    cases hs : s[i]? with
    | none => rw [hs] at hx; simp at hx
    | some b => rw [hs] at hx hu; simp at hx hu; subst hx; subst hu; rfl
   ·simp only [Builtin.firstCells, Sem.run_pure, List.length_map]
    congr 1
    rw [str_extract]
    apply Array.ext'
    simp only [List.drop_zero]
    rw [List.take_length]
    clear hv load
    induction s with
    | nil => simp
    | cons b s ih => simpa using ih
  ·cases ht
 ·cases ht
theorem sound_makeFunc (h : Rel cx F st β a w) {f : Nat} {first caps : Array Operand} {an : Ann} (ho : o.op = .makeFunc (.func f) first caps) :
    Sound P cx F a w (execOp a.eval o) (evI cx (.makeFunc (.func f) first caps) an st) := by
 simp only [evI]
 split
 ·rename_i ks hf hk
  refine Sound.ok h (v := .func (.func f) #[] (ks.map β).toArray) ?_ ?_
  ·have hcaps : ∀ (l : List Operand) (ks : List Nat), refKeys (l.map (st.eval cx)) = some ks → l.map a.eval = ks.map β ∧ ∀ k ∈ ks, ∃ b, boxAt (β k) b := by
    intro l
    induction l with
    | nil => intro ks hk; simp [refKeys] at hk; subst hk; simp
    | cons x l ih =>
     intro ks hk
     have hx := h.eval x
     simp only [List.map_cons] at hk
     unfold refKeys at hk
     split at hk
     ·rename_i heq; cases heq
     ·rename_i k r heq
      injection heq with h1 h2
      subst h2
      split at hk
      ·rename_i ks' hks
       simp only [Option.some.injEq] at hk
       subst hk
       rw [h1] at hx
       obtain ⟨b, hb1, hb2⟩ := hx
       obtain ⟨g1, g2⟩ := ih ks' hks
       have : a.eval x = β k := by rw [hb2, hb1]
       refine ⟨by simp [this, g1], ?_⟩
       intro j hj
       rcases List.mem_cons.1 hj with rfl | hj
       ·exact ⟨b, hb1⟩
       ·exact g2 j hj
      ·cases hk
     ·cases hk
   obtain ⟨g1, g2⟩ := hcaps caps.toList ks hk
   have e1 : first.map a.eval = #[] := by
    have : first = #[] := by apply Array.ext'; simpa using hf
    rw [this]; simp
   have e2 : caps.map a.eval = (ks.map β).toArray := by
    apply Array.ext'; simpa using g1
   simp [execOp, ho, Instr.makeFunc, e1, e2]
  ·have hcaps : ∀ (l : List Operand) (ks : List Nat), refKeys (l.map (st.eval cx)) = some ks → ∀ k ∈ ks, ∃ b, boxAt (β k) b := by
    intro l
    induction l with
    | nil => intro ks hk; simp [refKeys] at hk; subst hk; simp
    | cons x l ih =>
     intro ks hk
     have hx := h.eval x
     simp only [List.map_cons] at hk
     unfold refKeys at hk
     split at hk
     ·rename_i heq; cases heq
     ·rename_i k r heq
      injection heq with h1 h2
      subst h2
      split at hk
      ·rename_i ks' hks
       simp only [Option.some.injEq] at hk
       subst hk
       rw [h1] at hx
       obtain ⟨b, hb1, hb2⟩ := hx
       intro j hj
       rcases List.mem_cons.1 hj with rfl | hj
       ·exact ⟨b, hb1⟩
       ·exact ih ks' hks j hj
      ·cases hk
     ·cases hk
   exact ⟨hcaps _ _ hk, rfl⟩
 ·exact Sound.fail
/- append -/
theorem zeroCells_size (z : Array Value) (n : Nat) : (Builtin.zeroCells z n).size = n * z.size := by simp [Builtin.zeroCells]
theorem run_append_grow' {t u ty e : Nat} {i : TypeInfo} {z : Value} {du : TypeDesc} (ht : P.underlying t = some (.slice e)) (hu : P.underlying u = some du) (hni : du = .string ∨ ∃ q, du = .slice q)
    (hi : P.info? e = some i) (hz : i.zero = some z) {base : Option Addr} {n cap m : Nat} {x : Value} {olds news : List Value}
    (hold : ∀ w' : World, w'.heap = w.heap → (Builtin.firstCells i.size n (.slice base n cap)).run P w' = .ok olds.toArray w')
    (hlen : (Builtin.lenOf x).run P w = .ok m w) (hnew : ∀ w' : World, w'.heap = w.heap → (Builtin.firstCells i.size m x).run P w' = .ok news.toArray w')
    (hg : cap < n + m) (hby : 0 < i.bytes) (hb : (n + m) * i.bytes ≤ 140737488355328) :
    (Builtin.append_ #[t, u] ty #[.slice base n cap, x]).run P w = .ok (.slice (some ⟨w.heap.size, 0, none⟩) (n + m) (grownCap w (n + m) cap e))
     (w.drew.alloc (.cells (olds.toArray ++ news.toArray ++ Builtin.zeroCells z.cells (grownCap w (n + m) cap e - (n + m))) e)) := by
 have hn : ¬ (n + m ≤ cap) := by omega
 have hsm : n + m ≤ 140737488355328 := by
  have : (n + m) * 1 ≤ (n + m) * i.bytes := Nat.mul_le_mul_left _ hby
  omega
 have h63' : ¬ (9223372036854775807 < ((n : Int) + (m : Int))) := by omega
 have hfit := growslice_fits hg hb
 have h48' : ¬ (281474976710656 < Builtin.nextslicecap (n + m) cap * i.bytes) := by omega
 have h1 := hold w.drew rfl
 have h2 := hnew w.drew rfl
 rcases hni with rfl | ⟨q, rfl⟩ <;>
 simp [Builtin.append_, run_underlying ht, run_underlying hu, sizeOf, typeInfo, zeroValue, hi, hz, hlen, hn, h63', h48', Question.forced, h1, h2, newRow, grownCap] <;>
 (congr 2; apply Array.ext'; simp)
theorem run_append_fit {t u ty e : Nat} {i : TypeInfo} {du : TypeDesc} (ht : P.underlying t = some (.slice e)) (hu : P.underlying u = some du) (hni : du = .string ∨ ∃ q, du = .slice q)
    (hi : P.info? e = some i) {base : Option Addr} {n cap m : Nat} {x : Value} {news : List Value} {w' : World}
    (hlen : (Builtin.lenOf x).run P w = .ok m w) (hnew : (Builtin.firstCells i.size m x).run P w = .ok news.toArray w)
    (hg : n + m ≤ cap) (hst : (match base with | some ad => storeCells (ad.add (n * i.size)) news | none => pure () : Sem Unit).run P w = .ok () w') :
    (Builtin.append_ #[t, u] ty #[.slice base n cap, x]).run P w = .ok (.slice base (n + m) cap) w' := by
 cases base with
 | none =>
  have : w' = w := by simp at hst; exact hst.symm
  subst this
  rcases hni with rfl | ⟨q, rfl⟩ <;> simp [Builtin.append_, run_underlying ht, run_underlying hu, sizeOf, typeInfo, hi, hlen, hg, hnew]
 | some ad =>
  simp only at hst
  rcases hni with rfl | ⟨q, rfl⟩ <;> simp [Builtin.append_, run_underlying ht, run_underlying hu, sizeOf, typeInfo, hi, hlen, hg, hnew, hst]
/-- A row in a new block, with room behind. -/
theorem fresh_row {fx : Bool} {X : Nat → Prop} {w' : World} {β' : Nat → Value} {e : Ty} {zs : List e.El} {uss : List (List Value)} {b cap : Nat} {vals : Array Value} {el : TypeId}
    (hb : w'.heap[b]? = some (.cells vals el (0, 0))) (hall : All2 (Rep X w' e) zs uss) (hv : ∀ (k : Nat) u, uss.flatten[k]? = some u → vals[k]? = some u)
    (hl : zs.length ≤ cap) (h0 : 0 < cap) (hc : cap * e.size ≤ vals.size) : RepS β' X w' (.lst fx e zs) (.slice (some ⟨b, 0, none⟩) zs.length cap) := by
 obtain ⟨c, rfl⟩ : ∃ c, cap = c + 1 := ⟨cap - 1, by omega⟩
 exact .inr ⟨b, c, vals, el, (0, 0), rfl, hb, ⟨fun j _ hh => by simp at hh, .inr (Nat.le_refl _)⟩, hl, hc, uss_row hall hv⟩
theorem brow_lst {fx : Bool} {X : Nat → Prop} {w' : World} {β' : Nat → Value} {T : Nat} {xs : List Int} {v : Value} (h : RepS β' X w' (.brow T xs) v) : RepS β' X w' (.lst fx (.int .u8) xs) v := by
 rcases h with ⟨rfl, rfl⟩ | ⟨b, cap, vals, fr, h1, h2, h3, h4, h5, h6⟩
 ·exact .inl ⟨rfl, none, rfl⟩
 ·refine .inr ⟨b, cap, vals, T, fr, h1, h2, ⟨h3, .inl rfl⟩, h4, by simpa [Ty.size] using h5, fun i x hi => ⟨[.int .u8 x], rfl, fun j u hj => ?_⟩⟩
  cases j with
  | zero => simp at hj; subst hj; simpa [Ty.size] using h6 i x hi
  | succ j => simp at hj
theorem fresh_brow {X : Nat → Prop} {w' : World} {β' : Nat → Value} {zs : List Int} {uss : List (List Value)} {b cap : Nat} {vals : Array Value} {el : TypeId}
    (hb : w'.heap[b]? = some (.cells vals el (0, 0))) (hall : All2 (Rep X w' (.int .u8)) zs uss) (hv : ∀ (k : Nat) u, uss.flatten[k]? = some u → vals[k]? = some u)
    (hl : zs.length ≤ cap) (h0 : 0 < cap) (hc : cap * (Ty.int .u8).size ≤ vals.size) : RepS β' X w' (.brow el zs) (.slice (some ⟨b, 0, none⟩) zs.length cap) := by
 obtain ⟨c, rfl⟩ : ∃ c, cap = c + 1 := ⟨cap - 1, by omega⟩
 refine .inr ⟨b, c, vals, (0, 0), rfl, hb, fun j _ hh => by simp at hh, hl, by simpa [Ty.size] using hc, fun i x hi => ?_⟩
 obtain ⟨us, h1, h2⟩ := uss_row hall hv i x hi
 have h1' : us = [.int .u8 x] := h1
 subst h1'
 simpa [Ty.size] using h2 0 _ rfl
theorem tail_und (T : TOk P cx) {u : Nat} (hk : isTail (cx.T u).d = true) :
    ∃ du, P.underlying u = some du ∧ (du = .string ∨ ∃ q, du = .slice q) := by
 unfold isTail at hk
 split at hk
 ·rename_i q hq; exact ⟨_, und_slice T hq, .inr ⟨_, rfl⟩⟩
 ·rename_i hq; exact ⟨_, und_str T hq, .inl rfl⟩
 ·cases hk
/-- append: the core. The old row's cells 'ous', the new ones 'nus'. -/
theorem append_core (T : TOk P cx) (h : Rel cx F st β a w) {t u ty e : Nat} {τ : Ty} {xs ys : List τ.El} {k : Nat} (hfix : F.fix k = none) {base : Option Addr} {cap : Nat} {y : Value}
    (hd : (cx.T t).d = .slice e) (hu : isTail (cx.T u).d = true) (hty : (cx.T e).ty = some τ)
    {ous nus : List (List Value)} (ho : All2 (Rep (XX F st β) w τ) xs ous) (hn : All2 (Rep (XX F st β) w τ) ys nus)
    (hold : ∀ w' : World, w'.heap = w.heap → (Builtin.firstCells τ.size xs.length (.slice base xs.length cap)).run P w' = .ok ous.flatten.toArray w')
    (hlen : (Builtin.lenOf y).run P w = .ok ys.length w) (hnew : ∀ w' : World, w'.heap = w.heap → (Builtin.firstCells τ.size ys.length y).run P w' = .ok nus.flatten.toArray w')
    (hg : cap < xs.length + ys.length) (hb : (xs.length + ys.length) * (cx.T e).bytes ≤ 140737488355328) (S : Slot)
    (hS : ∀ {X : Nat → Prop} {w' : World} {β' : Nat → Value} {uss : List (List Value)} {b cap : Nat} {vals : Array Value}, w'.heap[b]? = some (.cells vals e (0, 0)) → All2 (Rep X w' τ) (xs ++ ys) uss →
     (∀ (k : Nat) u, uss.flatten[k]? = some u → vals[k]? = some u) → (xs ++ ys).length ≤ cap → 0 < cap → cap * τ.size ≤ vals.size → RepS β' X w' S (.slice (some ⟨b, 0, none⟩) (xs ++ ys).length cap)) :
    ∃ v β' w', (Builtin.append_ #[t, u] ty #[.slice base xs.length cap, y]).run P w = .ok v w' ∧ Rel cx F (st.new k S) β' a w' ∧
     RepV β' (XX F (st.new k S) β') w' (.one (.rs k)) v := by
 have hk := (T t (by rw [hd]; rfl)).slice e hd
 obtain ⟨ti, z, hi, hs, hby, hz, hza, hzs, _⟩ := (T e hk).info
 obtain ⟨hts, htp, hbp⟩ := (T e hk).ty τ hty
 obtain ⟨du, hdu, hni⟩ := tail_und T hu
 have hsz : ti.size = τ.size := by rw [hs, hts]
 have hrun := run_append_grow' (ty := ty) (und_slice T hd) hdu hni hi hz (base := base) (n := xs.length) (cap := cap) (m := ys.length) (x := y) (by rw [hsz]; exact hold) hlen (by rw [hsz]; exact hnew) hg (by rw [hby]; exact hbp) (by rw [hby]; exact hb)
 have hge : xs.length + ys.length ≤ grownCap w (xs.length + ys.length) cap e := by simp [grownCap, Question.cut]
 generalize grownCap w (xs.length + ys.length) cap e = nc at hrun hge
 obtain ⟨hrel, hfr⟩ := h.push k S (.slice (some ⟨w.heap.size, 0, none⟩) (xs.length + ys.length) nc) (w.drew.alloc (.cells (ous.flatten.toArray ++ nus.flatten.toArray ++ Builtin.zeroCells z.cells (nc - (xs.length + ys.length))) e)) _ hfix ⟨rfl, rfl, rfl⟩ rfl (fun b hb => by
     cases nc <;> simp [blk] at hb; exact hb.symm) (fun hfr => by
  have hfresh := hS (w' := w.drew.alloc (.cells (ous.flatten.toArray ++ nus.flatten.toArray ++ Builtin.zeroCells z.cells (nc - (xs.length + ys.length))) e))
   (β' := upd β k (.slice (some ⟨w.heap.size, 0, none⟩) (xs.length + ys.length) nc)) (uss := ous ++ nus) (b := w.heap.size) (cap := nc) (heap_push_new (w := w) rfl)
   ((ho.mono fun _ _ => Rep.mono hfr τ).append (hn.mono fun _ _ => Rep.mono hfr τ)) ?_ (by simpa using hge) (by omega) ?_
  ·simpa using hfresh
  ·intro j v hj
   have hlt := (List.getElem?_eq_some_iff.1 hj).1
   rw [← hj, List.flatten_append]
   rw [Array.getElem?_append_left (by simp [List.flatten_append] at hlt ⊢; omega)]
   simp
  ·simp only [Array.size_append, List.size_toArray, zeroCells_size, hzs, uss_len ho, uss_len hn, ← hts, ← Nat.add_mul]
   exact Nat.mul_le_mul_right _ (by omega))
 exact ⟨_, _, _, hrun, hrel, by simp [upd], _, _, _, rfl⟩
theorem sound_append (T : TOk P cx) (h : Rel cx F st β a w) {t u : Nat} {x y : V} {vx vy : Value} {an : Ann} {ty : Nat} (hA : AnnFix F an)
    (hx : RepV β (XX F st β) w x vx) (hy : RepV β (XX F st β) w y vy) (hs : (evB cx .append [t, u] [x, y] an st).side.holds) :
    ∃ v β' w', (Builtin.append_ #[t, u] ty #[vx, vy]).run P w = .ok v w' ∧ Rel cx F (evB cx .append [t, u] [x, y] an st).st β' a w' ∧
     RepV β' (XX F (evB cx .append [t, u] [x, y] an st).st β') w' (evB cx .append [t, u] [x, y] an st).val v := by
 simp only [evB] at hs ⊢
 split at hs
 ·rename_i e hd hu
  have hke := (T t (by rw [hd]; rfl)).slice e hd
  split at hs
  ·exact False.elim hs
  ·rename_i τ hty
   split at hs
   ·exact False.elim hs
   ·rename_i ys hys
    obtain ⟨nus, hn, hlen, hnew, _⟩ := tailOf_spec (P := P) h hy hys
    obtain ⟨ti, z, hi, hsz, hby, hz, hza, hzs, _⟩ := (T e hke).info
    obtain ⟨hts, htp, hbp⟩ := (T e hke).ty τ hty
    obtain ⟨du, hdu, hni⟩ := tail_und T hu
    have hsz' : ti.size = τ.size := by rw [hsz, hts]
    -- an empty base without room
    have empty : ∀ (k : Nat) (ad : Option Addr), F.fix k = none → vx = .slice ad 0 0 → ys.length * (cx.T e).bytes ≤ 140737488355328 →
        ∃ v β' w', (Builtin.append_ #[t, u] ty #[vx, vy]).run P w = .ok v w' ∧ Rel cx F (st.new k (.lst false τ ys)) β' a w' ∧ RepV β' (XX F (st.new k (.lst false τ ys)) β') w' (.one (.rs k)) v := by
     intro k ad hfix hvx hb
     subst hvx
     by_cases h0 : ys = []
     ·subst h0
      have hnus : nus = [] := by cases nus with
       | nil => rfl
       | cons => exact hn.elim
      subst hnus
      have hrun := run_append_fit (ty := ty) (und_slice T hd) hdu hni hi (base := ad) (n := 0) (cap := 0) (m := 0) (x := vy) (news := []) (w' := w) (by simpa using hlen) (by rw [hsz']; simpa using hnew w rfl) (Nat.le_refl _)
       (by cases ad <;> rfl)
      obtain ⟨hrel, hfr⟩ := h.new k (.lst false τ []) (.slice ad 0 0) w hfix (Same.refl w) (fun _ _ hb _ => hb) (fun b hb => by cases ad <;> simp [blk] at hb) (Nat.le_refl _) (fun _ => .inl ⟨rfl, ad, rfl⟩)
      exact ⟨_, _, w, hrun, hrel, by simp [upd], _, _, _, rfl⟩
     ·have hpos : 0 < ys.length := List.length_pos_iff.2 h0
      have := append_core (ty := ty) T h (xs := []) (ys := ys) (k := k) hfix (base := ad) (cap := 0) (y := vy) hd hu hty (ous := []) (nus := nus) trivial hn
       (fun w' hw => by cases ad <;> simp [Builtin.firstCells, loadCells, loadCellsFrom]) hlen hnew (by simpa using hpos) (by simpa using hb) (.lst false τ ([] ++ ys)) fresh_row
      simpa using this
    split at hs
    ·rename_i k
     obtain ⟨rfl, _⟩ := hx
     split at hs
     ·rename_i τ' xs hsl
      split at hs
      ·rename_i he
       subst he
       simp only [castLs_rfl, dite_true] at hs ⊢
       have hb : (xs.length + ys.length) * (cx.T e).bytes ≤ 140737488355328 := hs
       have hfix : F.fix k = none := by
        cases hq : F.fix k with
        | none => rfl
        | some v => exact absurd ((h.fix k v hq).2 _ hsl) (by simp [Slot.fixd])
       rcases h.slots _ _ hsl with ⟨rfl, ad, hbk⟩ | ⟨b, cap, vals, el, fr, hbk, hb2, hth, hlc, hcap, hrow⟩
       ·have := empty k ad hfix hbk (by simpa using hb)
        simpa using this
       ·rw [hbk]
        obtain ⟨ous, ho, hoc⟩ := Row.uss xs 0 (by simpa using hrow)
        have hol := uss_len ho
        have hnl := uss_len hn
        by_cases hfit : xs.length + ys.length ≤ cap + 1
        · -- room
         have hb3 : w.heap[b]? = some (.cells vals.toList.toArray el fr) := by simpa using hb2
         have hbound : (xs.length + ys.length) * τ'.size ≤ vals.size := Nat.le_trans (Nat.mul_le_mul_right _ hfit) hcap
         rw [Nat.add_mul] at hbound
         have h0 : xs.length * τ'.size + nus.flatten.length ≤ vals.toList.length := by simp [hnl]; omega
         have hst := run_stores (P := P) hb3 h0 (by simpa using hth.1) (uss_one hn)
         have hrun := run_append_fit (ty := ty) (und_slice T hd) hdu hni hi (base := some ⟨b, 0, none⟩) (n := xs.length) (cap := cap + 1) (m := ys.length) (x := vy) (news := nus.flatten)
          (w' := w.setCells b (xs.length * τ'.size) nus.flatten) hlen (by rw [hsz']; exact hnew w rfl) hfit (by simp only [Addr.add_lit, Nat.zero_add, hsz']; exact hst)
         obtain ⟨hrel, hfr⟩ := h.new k (.lst false τ' (xs ++ ys)) (.slice (some ⟨b, 0, none⟩) (xs.length + ys.length) (cap + 1)) (w.setCells b (xs.length * τ'.size) nus.flatten) hfix (same_setCells _ _ _ _)
          (fun b' o hb' hne => by
           rw [heap_setCells_ne b (by rintro rfl; exact hne _ hsl (by rw [hbk]; rfl))]; exact hb')
          (fun b' hb' => .inr ⟨_, hsl, by rw [hbk]; exact hb'⟩) (by rw [size_setCells]; exact Nat.le_refl _) (fun hfr => by
           have hh := heap_setCells b nus.flatten (xs.length * τ'.size) w hb3 h0
           refine .inr ⟨b, cap, _, el, fr, by simp, hh, ?_, by simpa using hfit, by simpa [putAt_length _ _ _ h0] using hcap, ?_⟩
           ·exact ⟨fun i hi => hth.1 i (by simpa [putAt_length _ _ _ h0] using hi), hth.2⟩
           ·refine uss_row ((ho.mono fun _ _ => Rep.mono hfr τ').append (hn.mono fun _ _ => Rep.mono hfr τ')) fun q v hq => ?_
            rw [List.getElem?_toArray, putAt_get _ _ _ h0]
            rw [List.flatten_append] at hq
            by_cases hlt : q < ous.flatten.length
            ·rw [List.getElem?_append_left hlt] at hq
             rw [if_neg (by omega)]
             simpa using hoc q v hq
            ·rw [List.getElem?_append_right (by omega)] at hq
             have hlt2 := (List.getElem?_eq_some_iff.1 hq).1
             rw [if_pos (by omega), ← hq, hol])
         exact ⟨_, _, _, hrun, hrel, by simp [upd], _, _, _, rfl⟩
        ·exact append_core (ty := ty) T h (xs := xs) (ys := ys) (k := k) hfix (base := some ⟨b, 0, none⟩) (cap := cap + 1) (y := vy) hd hu hty ho hn
          (fun w' hw => by
           simp only [Builtin.firstCells]
           rw [← hol]
           refine run_loadCells_list w' _ _ fun j u hj => ?_
           rw [Addr.add_lit, cell_at (w := w') (by rw [hw]; exact hb2)]
           exact hoc j u hj) hlen hnew (by omega) hb (.lst false τ' (xs ++ ys)) fresh_row
      ·exact False.elim hs
     ·rename_i T' xs hsl
      cases hT : Nat.beq T' e with
      | false => rw [hT] at hs; exact False.elim hs
      | true =>
       rw [hT] at hs
       have := (beq_iff _ _).1 hT
       subst this
       simp only [cond_true] at hs ⊢
       split at hs
       ·rename_i he
        subst he
        simp only [castLs_rfl, dite_true] at hs ⊢
        have hb : (xs.length + ys.length) * (cx.T T').bytes ≤ 140737488355328 := hs
        have hfix : F.fix k = none := by
         cases hq : F.fix k with
         | none => rfl
         | some v => exact absurd ((h.fix k v hq).2 _ hsl) (by simp [Slot.fixd])
        rcases h.slots _ _ hsl with ⟨rfl, hbk⟩ | ⟨b, cap, vals, fr, hbk, hb2, hth, hlc, hcap, hrow⟩
        ·rw [hbk]
         by_cases h0 : ys = []
         ·subst h0
          have hnus : nus = [] := by cases nus with
           | nil => rfl
           | cons => exact hn.elim
          subst hnus
          have hrun := run_append_fit (ty := ty) (und_slice T hd) hdu hni hi (base := none) (n := 0) (cap := 0) (m := 0) (x := vy) (news := []) (w' := w) (by simpa using hlen) (by rw [hsz']; simpa using hnew w rfl) (Nat.le_refl _) rfl
          obtain ⟨hrel, hfr⟩ := h.new k (.brow T' []) (.slice none 0 0) w hfix (Same.refl w) (fun _ _ hb _ => hb) (fun b hb => by simp [blk] at hb) (Nat.le_refl _) (fun _ => .inl ⟨rfl, rfl⟩)
          exact ⟨_, _, w, hrun, hrel, by simp [upd], _, _, _, rfl⟩
         ·have hpos : 0 < ys.length := List.length_pos_iff.2 h0
          exact append_core (ty := ty) (τ := .int .u8) T h (xs := []) (ys := ys) (k := k) hfix (base := none) (cap := 0) (y := vy) hd hu hty (ous := []) (nus := nus) trivial hn
           (fun w' hw => by simp [Builtin.firstCells]) hlen hnew (by simpa using hpos) hb (.brow T' ([] ++ ys)) fresh_brow
        ·rw [hbk]
         have hrow' : ∀ (i : Nat) x, xs[i]? = some x → ∃ us, Rep (XX F st β) w (.int .u8) x us ∧ ∀ (j : Nat) u, us[j]? = some u → vals[0 + i * (Ty.int .u8).size + j]? = some u := fun i x hi => ⟨[.int .u8 x], rfl, fun j u hj => by
          cases j with
          | zero => simp at hj; subst hj; simpa [Ty.size] using hrow i x hi
          | succ j => simp at hj⟩
         obtain ⟨ous, ho, hoc⟩ := Row.uss (e := .int .u8) xs 0 hrow'
         have hol := uss_len ho
         have hnl := uss_len hn
         have hone : (Ty.int .u8).size = 1 := rfl
         by_cases hfit : xs.length + ys.length ≤ cap + 1
         ·have hb3 : w.heap[b]? = some (.cells vals.toList.toArray T' fr) := by simpa using hb2
          have h0 : xs.length * (Ty.int .u8).size + nus.flatten.length ≤ vals.toList.length := by simp [hnl, hone]; omega
          have hst := run_stores (P := P) hb3 h0 (by simpa using hth) (uss_one hn)
          have hrun := run_append_fit (ty := ty) (und_slice T hd) hdu hni hi (base := some ⟨b, 0, none⟩) (n := xs.length) (cap := cap + 1) (m := ys.length) (x := vy) (news := nus.flatten)
           (w' := w.setCells b (xs.length * (Ty.int .u8).size) nus.flatten) hlen (by rw [hsz']; exact hnew w rfl) hfit (by simp only [Addr.add_lit, Nat.zero_add, hsz']; exact hst)
          obtain ⟨hrel, hfr⟩ := h.new k (.brow T' (xs ++ ys)) (.slice (some ⟨b, 0, none⟩) (xs.length + ys.length) (cap + 1)) (w.setCells b (xs.length * (Ty.int .u8).size) nus.flatten) hfix (same_setCells _ _ _ _)
           (fun b' o hb' hne => by
            rw [heap_setCells_ne b (by rintro rfl; exact hne _ hsl (by rw [hbk]; rfl))]; exact hb')
           (fun b' hb' => .inr ⟨_, hsl, by rw [hbk]; exact hb'⟩) (by rw [size_setCells]; exact Nat.le_refl _) (fun hfr => by
            have hh := heap_setCells b nus.flatten (xs.length * (Ty.int .u8).size) w hb3 h0
            refine .inr ⟨b, cap, _, fr, by simp, hh, ?_, by simpa using hfit, by simpa [putAt_length _ _ _ h0] using hcap, fun i x hx => ?_⟩
            ·intro i hi; exact hth i (by simpa [putAt_length _ _ _ h0] using hi)
            ·have key := uss_row ((ho.mono fun _ _ => Rep.mono hfr (.int .u8)).append (hn.mono fun _ _ => Rep.mono hfr (.int .u8))) (vals := (putAt vals.toList (xs.length * (Ty.int .u8).size) nus.flatten).toArray) (fun q v hq => by
              rw [List.getElem?_toArray, putAt_get _ _ _ h0]
              rw [List.flatten_append] at hq
              by_cases hlt : q < ous.flatten.length
              ·rw [List.getElem?_append_left hlt] at hq
               rw [if_neg (by omega)]
               simpa using hoc q v hq
              ·rw [List.getElem?_append_right (by omega)] at hq
               have hlt2 := (List.getElem?_eq_some_iff.1 hq).1
               rw [if_pos (by omega), ← hq, hol]) i x hx
             obtain ⟨us, k1, k2⟩ := key
             have k1' : us = [.int .u8 x] := k1
             subst k1'
             simpa [hone] using k2 0 _ rfl)
          exact ⟨_, _, _, hrun, hrel, by simp [upd], _, _, _, rfl⟩
         ·exact append_core (ty := ty) (τ := .int .u8) T h (xs := xs) (ys := ys) (k := k) hfix (base := some ⟨b, 0, none⟩) (cap := cap + 1) (y := vy) hd hu hty ho hn
           (fun w' hw => by
            simp only [Builtin.firstCells]
            rw [← hol]
            refine run_loadCells_list w' _ _ fun j u hj => ?_
            rw [Addr.add_lit, cell_at (w := w') (by rw [hw]; exact hb2)]
            exact hoc j u hj) hlen hnew (by omega) hb (.brow T' (xs ++ ys)) fresh_brow
       ·exact False.elim hs
     ·exact False.elim hs
    ·split at hs
     ·rename_i k
      exact empty k none hA hx hs
     ·exact False.elim hs
    ·split at hs
     ·rename_i k
      obtain ⟨ad, hx⟩ := hx
      exact empty k ad hA hx hs
     ·exact False.elim hs
    ·exact False.elim hs
 ·exact False.elim hs
end
end Go.AM
/- Soundness: builtins, conversions, structs and rows written out. -/
set_option linter.unusedSimpArgs false
set_option linter.unusedVariables false
namespace Go.AM
open Go
section
variable {P : Program} {cx : Cx} {F : Fm} {st : St} {β : Nat → Value} {a : Act} {w : World} {o : Oper}
theorem rs_len {fx : Bool} {e : Ty} {xs : List e.El} {X : Nat → Prop} {v : Value} (h : RepS β X w (.lst fx e xs) v) : ∃ ad c, v = .slice ad xs.length c := by
 rcases h with ⟨rfl, ad, rfl⟩ | ⟨b, cap, _, _, _, rfl, _⟩
 ·exact ⟨_, _, rfl⟩
 ·exact ⟨_, _, rfl⟩
theorem sound_len (T : TOk P cx) (h : Rel cx F st β a w) {t : Nat} {tys : List Nat} {x : V} {vx : Value} {an : Ann} {ty : Nat} {arr : Array Nat} (harr : arr.toList = t :: tys)
    (hx : RepV β (XX F st β) w x vx) (hs : (evB cx .len (t :: tys) [x] an st).side.holds) :
    ∃ v β' w', (Builtin.len_ arr ty #[vx]).run P w = .ok v w' ∧ Rel cx F (evB cx .len (t :: tys) [x] an st).st β' a w' ∧
     RepV β' (XX F (evB cx .len (t :: tys) [x] an st).st β') w' (evB cx .len (t :: tys) [x] an st).val v := by
 have h0 : arr[0]? = some t := by
  have : arr = (t :: tys).toArray := by rw [← harr]
  rw [this]; simp
 simp only [evB] at hs ⊢
 split at hs
 ·rename_i s hd
  have hx' : vx = .string ⟨s.toArray⟩ := hx
  exact ⟨_, β, w, by simp [Builtin.len_, h0, run_underlying (und_str T hd), hx', str_size, goInt], h, rfl⟩
 ·rename_i e' e xs hd
  obtain ⟨ad, cap, h1, _⟩ := hx
  have hx' : vx = .slice ad xs.length cap := by simpa using h1
  exact ⟨_, β, w, by simp [Builtin.len_, h0, run_underlying (und_slice T hd), hx', goInt], h, rfl⟩
 ·rename_i e' k hd
  obtain ⟨rfl, _⟩ := hx
  split at hs
  ·rename_i e xs hsl
   obtain ⟨ad, c, hv⟩ := rs_len (h.slots _ _ hsl)
   exact ⟨_, β, w, by simp [Builtin.len_, h0, run_underlying (und_slice T hd), hv, goInt], h, rfl⟩
  ·rename_i T' xs hsl
   obtain ⟨ad, c, hv⟩ := rs_len (brow_lst (fx := false) (h.slots _ _ hsl))
   exact ⟨_, β, w, by simp [Builtin.len_, h0, run_underlying (und_slice T hd), hv, goInt], h, rfl⟩
  ·exact False.elim hs
 ·rename_i e' hd
  have hx' : vx = .slice none 0 0 := hx
  exact ⟨_, β, w, by simp [Builtin.len_, h0, run_underlying (und_slice T hd), hx', goInt], h, rfl⟩
 ·rename_i e' hd
  obtain ⟨ad, hx'⟩ := hx
  exact ⟨_, β, w, by simp [Builtin.len_, h0, run_underlying (und_slice T hd), hx', goInt], h, rfl⟩
 ·rename_i k' v' k hd
  obtain ⟨rfl, _⟩ := hx
  split at hs
  ·rename_i kty vty ag es hsl
   obtain ⟨b, arr', hb1, hb2, hall, _⟩ := h.slots _ _ hsl
   refine ⟨.int .i64 arr'.length, β, w, by simp [Builtin.len_, h0, run_underlying (und_map T hd), hb1, Go.MapKept.run_getObj_map hb2, goInt], h, ?_⟩
   show Value.int .i64 _ = .int .i64 _
   rw [hall.length]
  ·exact False.elim hs
 ·exact False.elim hs
theorem sound_min (h : Rel cx F st β a w) {tys : List Nat} {x y : V} {vx vy : Value} {an : Ann} {ty : Nat} {arr : Array Nat}
    (hx : RepV β (XX F st β) w x vx) (hy : RepV β (XX F st β) w y vy) (hs : (evB cx .min tys [x, y] an st).side.holds) :
    ∃ v β' w', (Builtin.min_ arr ty #[vx, vy]).run P w = .ok v w' ∧ Rel cx F (evB cx .min tys [x, y] an st).st β' a w' ∧
     RepV β' (XX F (evB cx .min tys [x, y] an st).st β') w' (evB cx .min tys [x, y] an st).val v := by
 simp only [evB, evMin] at hs ⊢
 split at hs
 ·rename_i k p j q
  have hx' : vx = .int k p := hx
  have hy' : vy = .int j q := hy
  split at hs
  ·rename_i hkj
   subst hkj
   simp only [↓reduceIte]
   exact ⟨.int k (if q < p then q else p), β, w, by simp [Builtin.min_, Builtin.min2, hx', hy'], h, rfl⟩
  ·exact False.elim hs
 ·exact False.elim hs
/- Rows of numbers as strings. -/
theorem bytes_fold : ∀ (ns : List Int) (s : ByteArray), ns.foldl (fun r n => r.push (UInt8.ofNat n.toNat)) s = ⟨(s.data.toList ++ ns.map fun n => UInt8.ofNat n.toNat).toArray⟩
 | [], s => by cases s; simp
 | n :: ns, s => by
  rw [List.foldl_cons, bytes_fold ns]
  apply ByteArray.ext
  simp
theorem flatten_ints {X : Nat → Prop} : ∀ {xs : List Int} {uss : List (List Value)}, All2 (Rep X w (.int .u8)) xs uss → uss.flatten = xs.map (Value.int .u8)
 | [], [], _ => rfl
 | x :: xs, u :: uss, ⟨h1, h2⟩ => by
  have h1' : u = [.int .u8 x] := h1
  subst h1'
  simp [flatten_ints h2]
theorem push_modify (h : Array Obj) (o : Obj) (f : Obj → Obj) : (h.push o).modify h.size f = h.push (f o) := by
 apply Array.ext_getElem?
 intro i
 simp only [Array.getElem?_modify, Array.getElem?_push]
 by_cases hi : i = h.size
 ·subst hi; simp
 ·have : ¬ h.size = i := fun e => hi e.symm
  simp [hi, this]
theorem run_toBytes {e : Nat} (s : List UInt8) : ∃ (cap : Nat) (w' : World), s.length ≤ cap ∧
    (Conv.stringToBytes e ⟨s.toArray⟩).run P w = .ok (.slice (some ⟨w.heap.size, 0, none⟩) s.length cap) w' ∧
    w'.heap = w.heap.push (.cells ((s.map fun b => Value.int .u8 b.toNat).toArray ++ Array.replicate (cap - s.length) (.int .u8 0)) e (cap, cap + 1)) ∧ Same w w' := by
 have hge : s.length ≤ (Question.appendCap s.length 0 e).cut (w.tape w.drawn (.appendCap s.length 0 e)) := by simp [Question.cut]
 generalize hcap : (Question.appendCap s.length 0 e).cut (w.tape w.drawn (.appendCap s.length 0 e)) = cap at hge
 have hsz : ((s.map fun b => Value.int .u8 b.toNat).toArray ++ Array.replicate (cap - s.length) (Value.int .u8 0)).size = cap := by simp; omega
 refine ⟨cap, (w.drew.alloc (.cells ((s.map fun b => Value.int .u8 b.toNat).toArray ++ Array.replicate (cap - s.length) (.int .u8 0)) e)).freeze ⟨w.heap.size, cap, none⟩ 1, hge, ?_, ?_, ⟨rfl, rfl, rfl⟩⟩
 ·have hmap : Array.map (fun b : UInt8 => Value.int .u8 b.toNat) s.toArray = (s.map fun b => Value.int .u8 b.toNat).toArray := by simp
  have hshape : (w.drew.alloc (.cells ((s.map fun b => Value.int .u8 b.toNat).toArray ++ Array.replicate (cap - s.length) (.int .u8 0)) e)).shape? w.heap.size = some (e, cap) := by
   simp only [World.shape?, World.alloc]
   rw [show (w.drew.heap.push _)[w.heap.size]? = some _ from by show (w.heap.push _)[w.heap.size]? = _; simp; rfl]
   simp; omega
  simp only [Conv.stringToBytes, Sem.run_bind, run_choose, Question.forced, Bool.false_eq_true, if_false, str_size, hcap, Result.andThen_ok, newRow, run_newObj, World.alloc_eq, World.drew_eq, Sem.run_pure]
  rw [show (World.drew w).heap.size = w.heap.size from rfl]
  simp only [markStringish, Sem.run_bind, run_shape, hmap]
  rw [hshape]
  simp only [Result.andThen_ok, run_freeze]
 ·simp only [World.freeze, Nat.one_ne_zero, if_false]
  show Array.modify (w.heap.push _) w.heap.size _ = _
  rw [push_modify]
  simp
theorem sound_convert (T : TOk P cx) (h : Rel cx F st β a w) {src dst : Nat} {x : Operand} {an : Ann} (hA : AnnFix F an) (ho : o.op = .convert src dst x) :
    Sound P cx F a w (execOp a.eval o) (evI cx (.convert src dst x) an st) := by
 simp only [evI]
 have hx := h.eval x
 have fin : ∀ {v : Value} {w' : World}, (convert src dst (a.eval x)).run P w = .ok v w' → (execOp a.eval o).run P w = .ok (.value v) w' := by
  intro v w' hv
  simp only [execOp, ho, Sem.run_bind, hv]; rfl
 cases hk : (cx.T src).d.known
 ·exact Sound.fail
 ·simp only [Bool.not_true, cond_false]
  obtain ⟨ds, hds, _⟩ := (T src hk).desc
  split
  ·rename_i k k' n hd hv
   rw [hv] at hx
   have hx' : a.eval x = .int k' n := hx
   refine Sound.ok h (fin ?_) rfl
   rw [hx']
   simp [convert, run_underlying hds, run_underlying (und_int T hd), Conv.intToInt]
  ·rename_i s hd hv
   rw [hv] at hx
   have hx' : a.eval x = .string ⟨s.toArray⟩ := hx
   refine Sound.ok h (fin (v := .string ⟨s.toArray⟩) ?_) rfl
   rw [hx']
   simp [convert, run_underlying hds, run_underlying (und_str T hd)]
  ·rename_i c hne hd hv
   rw [hv] at hx
   cases hb : isBytes cx src
   ·exact Sound.fail
   ·simp only [cond_true]
    unfold isBytes at hb
    split at hb
    ·rename_i e hds'
     split
     ·rename_i xs hxs
      obtain ⟨uss, hu, hlen, hcells, hform⟩ := tailOf_spec (P := P) h hx hxs
      have hu8 : (cx.T e).d = .int .u8 := by
       unfold isU8 at hb; split at hb
       ·assumption
       ·cases hb
      rcases hform with ⟨s, hs⟩ | ⟨ad, n, cc, hxe, rfl⟩
      ·exact absurd (by injection hs) (hne s)
      ·have hfl := flatten_ints hu
       have hres : (Conv.bytesToString (a.eval x)).run P w = .ok (.string ⟨(xs.map fun n => UInt8.ofNat n.toNat).toArray⟩) w := by
        rw [hxe]
        cases ad with
        | none =>
         have hc := hcells w rfl
         rw [hxe] at hc
         simp only [Builtin.firstCells, Sem.run_pure] at hc
         injection hc with h1 _
         have this := (congrArg Array.toList h1).symm
         simp only [hfl] at this
         have hxs0 : xs = [] := by simpa using this
         subst hxs0
         simp [Conv.bytesToString]; rfl
        | some ad =>
         have hc := hcells w rfl
         rw [hxe] at hc
         simp only [Builtin.firstCells, Ty.size, Nat.mul_one, hfl] at hc
         rw [run_bytesToString w ad xs.length cc xs hc, bytes_fold]
         rfl
       refine Sound.ok h (fin ?_) rfl
       have hu := und_slice T hds'
       simp only [convert, Sem.run_bind, run_underlying hu, run_underlying (und_str T hd), Result.andThen_ok, run_underlying (und_int T hu8)]
       rw [hxe] at hres ⊢
       simp only [Sem.run_bind, run_underlying (und_int T hu8), Result.andThen_ok]
       exact hres
     ·exact Sound.fail
    ·cases hb
  ·rename_i e s hd hv
   rw [hv] at hx
   have hx' : a.eval x = .string ⟨s.toArray⟩ := hx
   split
   ·rename_i k hu8
    have hu8' : (cx.T e).d = .int .u8 := by
     unfold isU8 at hu8; split at hu8
     ·assumption
     ·cases hu8
    intro _
    obtain ⟨cap, w', hge, hrun, hw, hsame⟩ := run_toBytes (P := P) (w := w) (e := e) s
    have hrun' : (convert src dst (a.eval x)).run P w = .ok (.slice (some ⟨w.heap.size, 0, none⟩) s.length cap) w' := by
     rw [hx']
     simp only [convert, Sem.run_bind, run_underlying hds, run_underlying (und_slice T hd), Result.andThen_ok]
     cases ds <;> simp only [Sem.run_bind, run_underlying (und_int T hu8'), Result.andThen_ok] <;> exact hrun
    obtain ⟨hrel, hfr⟩ := h.push k (.lst false (.int .u8) (s.map fun b => (b.toNat : Int))) (.slice (some ⟨w.heap.size, 0, none⟩) s.length cap) w' _ hA hsame hw (fun b hb => by
        cases cap <;> simp [blk] at hb; exact hb.symm) (fun hfr => by
     cases hc : cap with
     | zero =>
      left
      have : s = [] := List.eq_nil_of_length_eq_zero (by omega)
      subst this
      exact ⟨rfl, _, rfl⟩
     | succ c =>
      right
      refine ⟨w.heap.size, c, _, e, _, by simp, heap_push_new hw, ?_, by simp; omega, by simp [Ty.size]; omega, ?_⟩
      ·refine ⟨fun j hj hh => ?_, .inl rfl⟩
       simp at hj; omega
      ·intro i y hi
       rw [List.getElem?_map] at hi
       cases hs : s[i]? with
       | none => rw [hs] at hi; simp at hi
       | some b =>
        rw [hs] at hi; simp at hi; subst hi
        refine ⟨[.int .u8 b.toNat], rfl, fun j u hj => ?_⟩
        have hlt := (List.getElem?_eq_some_iff.1 hs).1
        cases j with
        | zero =>
         simp at hj; subst hj
         rw [Array.getElem?_append_left (by simp [Ty.size]; exact hlt)]
         simp [Ty.size, hs]
        | succ j => simp at hj)
    exact ⟨_, _, w', .inl (fin hrun'), hrel, by simp [upd], _, _, _, rfl⟩
   ·exact Sound.fail
  ·exact Sound.fail
end
end Go.AM
/- Soundness of the operations on maps. -/
set_option linter.unusedSimpArgs false
set_option linter.unusedVariables false
namespace Go.AM
open Go Go.MapKept
section
variable {P : Program} {cx : Cx} {F : Fm} {st : St} {β : Nat → Value} {a : Act} {w : World} {o : Oper}
theorem Rep.key {X : Nat → Prop} {w : World} {k : Ty} {d : TD} {td : TypeDesc} (hk : keyOk k d = true) (hd : tdOk d td = true) {x : k.El} {v : Value} (h : Rep X w k x [v]) : IsKey td v := by
 cases k <;> cases d <;> simp [keyOk] at hk
 ·subst hk
  cases td <;> simp [tdOk] at hd
  subst hd
  have h : [v] = [.int _ _] := h
  simp at h; subst h; exact rfl
 ·cases td <;> simp [tdOk] at hd
  have h : [v] = [.string _] := h
  simp at h; subst h; trivial
theorem keyEq_iff {X : Nat → Prop} {w : World} {k : Ty} {d : TD} (hk : keyOk k d = true) {x y : k.El} {u v : Value} (hx : Rep X w k x [u]) (hy : Rep X w k y [v]) : keyEq k x y = true ↔ u = v := by
 cases k <;> cases d <;> simp [keyOk] at hk
 ·have h1 : [u] = [.int _ x] := hx
  have h2 : [v] = [.int _ y] := hy
  simp at h1 h2; subst h1; subst h2
  simp [keyEq]
 ·have h1 : [u] = [.string ⟨List.toArray x⟩] := hx
  have h2 : [v] = [.string ⟨List.toArray y⟩] := hy
  simp at h1 h2; subst h1; subst h2
  simp [keyEq]
theorem find_map {X : Nat → Prop} {w : World} {k v : Ty} {ag : Bool} {d : TD} {td : TypeDesc} (hk : keyOk k d = true) (hd : tdOk d td = true) {x : k.El} {kv : Value} (hx : Rep X w k x [kv]) :
    ∀ (es : List (k.El × v.El)) (l : List MapEntry) (n : Nat), All2 (RepE X w k v ag) es l →
     (Instr.findNow td kv l n = some none ∧ mget k x es = none ∧ ∀ z, mset k x z es = es ++ [(x, z)]) ∨
     ∃ (j : Nat) (e : MapEntry) (p : k.El × v.El), Instr.findNow td kv l n = some (some (n + j, e.val)) ∧ l[j]? = some e ∧ es[j]? = some p ∧ e.key = kv ∧ mget k x es = some p.2 ∧ ∀ z, mset k x z es = es.set j (x, z)
 | [], [], n, _ => .inl ⟨rfl, rfl, fun _ => rfl⟩
 | p :: es, e :: l, n, ⟨h1, h2⟩ => by
  obtain ⟨r, hr, hiff⟩ := sameNow_of_keys (hx.key hk hd) (h1.1.key hk hd)
  have heq := keyEq_iff hk hx h1.1
  cases r with
  | true =>
   have e1 := hiff.1 rfl
   have e2 := heq.2 e1
   exact .inr ⟨0, e, p, by simp [Instr.findNow, hr], rfl, rfl, e1.symm, by simp [mget, e2], fun z => by simp [mset, e2]⟩
  | false =>
   have e2 : keyEq k x p.1 = false := by
    cases hq : keyEq k x p.1 with
    | false => rfl
    | true => have := hiff.2 (heq.1 hq); cases this
   rcases find_map hk hd hx es l (n + 1) h2 with ⟨g1, g2, g3⟩ | ⟨j, e', p', g1, g2, g3, g4, g5, g6⟩
   ·exact .inl ⟨by simp [Instr.findNow, hr, g1], by simp [mget, e2, g2], fun z => by simp [mset, e2, g3]⟩
   ·exact .inr ⟨j + 1, e', p', by simp [Instr.findNow, hr, g1]; omega, by simpa using g2, by simpa using g3, g4, by simp [mget, e2, g5], fun z => by simp [mset, e2, g6]⟩
 | [], _ :: _, _, h => h.elim
 | _ :: _, [], _, h => h.elim
theorem mapOk_spec {kt vt : Nat} {k v : Ty} {ag : Bool} (h : mapOk cx kt vt k v ag = true) : keyOk k (cx.T kt).d = true ∧ (cx.T vt).ty = some v ∧ (cx.T vt).d.known = true ∧ (cx.T vt).isAgg = ag ∧ (cx.T kt).d.known = true := by
 unfold mapOk at h
 simp only [Bool.and_eq_true, decide_eq_true_eq] at h
 obtain ⟨h1, h2, h3, h4⟩ := h
 refine ⟨h1, ?_, h3, h4, ?_⟩
 ·split at h2
  ·rename_i b hb; rw [hb, of_decide_eq_true h2]
  ·cases h2
 ·cases k <;> cases hd : (cx.T kt).d <;> rw [hd] at h1 <;> simp [keyOk] at h1 <;> rfl
theorem sound_makeMap (T : TOk P cx) (h : Rel cx F st β a w) {t : Nat} {an : Ann} (hA : AnnFix F an) (ho : o.op = .makeMap t none) :
    Sound P cx F a w (execOp a.eval o) (evI cx (.makeMap t none) an st) := by
 simp only [evI]
 split
 ·rename_i kt vt k hd
  split
  ·rename_i vty hv
   split
   ·rename_i kty hk
    cases hm : mapOk cx kt vt kty vty (cx.T vt).isAgg
    ·exact Sound.fail
    ·intro _
     have hrun : (execOp a.eval o).run P w = .ok (.value (.map (some w.heap.size))) (w.alloc (.map #[] 0)) := by
      simp [execOp, ho, Instr.makeMap, newObj]; rfl
     obtain ⟨hrel, hfr⟩ := h.push k (.mp kty vty (cx.T vt).isAgg []) (.map (some w.heap.size)) (w.alloc (.map #[] 0)) _ hA ⟨rfl, rfl, rfl⟩ rfl (fun b hb => by simpa [blk] using hb.symm) (fun hfr => by
      refine ⟨w.heap.size, [], rfl, ?_, trivial, fun i e he => by simp at he⟩
      rw [heap_push_new (w' := w.alloc (.map #[] 0)) rfl]; rfl)
     exact ⟨_, _, _, .inl hrun, hrel, by simp [upd], _, rfl⟩
   ·exact Sound.fail
  ·exact Sound.fail
 ·exact Sound.fail
theorem valV_rep {X : Nat → Prop} {v : Ty} {ag : Bool} {x : v.El} {vs : List Value} (h : Rep X w v x vs) {u : V} (hu : valV v ag x = some u) : RepV β X w u (mval ag vs) := by
 unfold valV at hu
 cases ag with
 | true =>
  simp at hu; subst hu
  exact ⟨vs, rfl, cellsOf_rep v h⟩
 | false =>
  simp only at hu
  split at hu
  ·rename_i c hc
   simp at hu; subst hu
   have := cellsOf_rep (β := β) v h
   rw [hc] at this
   match vs, this with
   | [z], this => exact this.1
  ·cases hu
theorem sound_lookup (T : TOk P cx) (h : Rel cx F st β a w) {t : Nat} {m x : Operand} {cok : Bool} {an : Ann} (ho : o.op = .lookup t m x cok) :
    Sound P cx F a w (execOp a.eval o) (evI cx (.lookup t m x cok) an st) := by
 simp only [evI]
 have hm := h.eval m
 have hx := h.eval x
 split
 ·rename_i kt vt k c hd hmv hxv
  rw [hmv] at hm; rw [hxv] at hx
  split
  ·rename_i kty vty ag es hsl
   split
   ·rename_i key hok hkey
    rw [Bool.and_eq_true] at hok
    obtain ⟨h1, h2, h3, h4, h5⟩ := mapOk_spec hok.1
    obtain ⟨b, arr, hb1, hb2, hall, hborn⟩ := h.slots _ _ hsl
    obtain ⟨hm1, _⟩ := hm
    rw [hb1] at hm1
    obtain ⟨tk, htk, htk2⟩ := T.und h5
    have hkr : Rep (XX F st β) w kty key [a.eval x] := parse1_rep (cs := [c]) (us := [a.eval x]) ⟨hx, trivial⟩ hkey
    have hK := hkr.key h1 htk2
    obtain ⟨ti, z, hi, _, _, hz, _, _, hzr⟩ := (T vt h3).info
    have hzz := (T vt h3).zagg ti z hi hz
    have hzero : (zeroValue vt).run P w = .ok z w := by simp [zeroValue, typeInfo, hi, hz]
    have hzrep : Rep (XX F st β) w vty vty.dflt z.cells.toList := hzr hok.2 vty h2 _ _
    have run : ∀ (r : Option (Nat × Value)), Instr.findNow tk (a.eval x) arr 0 = some r → ∀ (val : Value) (found : Bool), (match r with | some (_, v) => val = v ∧ found = true | none => val = z ∧ found = false) →
        (execOp a.eval o).run P w = .ok (.value (if cok then .tuple #[val, .bool found] else val)) w := by
     intro r hr val found hval
     have hf : (Instr.findKey kt (a.eval x) arr).run P w = .ok r w := run_findKey htk hr
     have hc : ∀ e, (Instr.checkKey e 10000 kt (a.eval x)).run P w = .ok () w := fun e => run_checkKey htk hK e 9999
     cases r with
     | none =>
      obtain ⟨rfl, rfl⟩ := hval
      cases cok <;> simp [execOp, ho, Instr.lookup, und_map T hd, run_underlying (und_map T hd), hm1, run_getObj_map hb2, hc, hf, hzero, Result.andThen]
     | some q =>
      obtain ⟨j, v'⟩ := q
      obtain ⟨rfl, rfl⟩ := hval
      cases cok <;> simp [execOp, ho, Instr.lookup, und_map T hd, run_underlying (und_map T hd), hm1, run_getObj_map hb2, hc, hf, Result.andThen]
    split
    ·rename_i v hv
     have fin : ∃ (val : Value) (found : Bool), (execOp a.eval o).run P w = .ok (.value (if cok then .tuple #[val, .bool found] else val)) w ∧ RepV β (XX F st β) w v val ∧ found = (mget kty key es).isSome := by
      rcases find_map h1 htk2 hkr es arr 0 hall with ⟨g1, g2, _⟩ | ⟨j, e, p, g1, g2, g3, g4, g5, _⟩
      ·refine ⟨z, false, run _ g1 z false ⟨rfl, rfl⟩, ?_, by rw [g2]; rfl⟩
       rw [g2] at hv
       rw [hzz, h4]
       exact valV_rep hzrep hv
      ·refine ⟨e.val, true, run _ g1 _ _ ⟨rfl, rfl⟩, ?_, by rw [g5]; rfl⟩
       rw [g5] at hv
       obtain ⟨e', he', _, vs, hvs, hev⟩ := hall.get g3
       rw [g2] at he'
       obtain rfl := Option.some.inj he'
       rw [hev]
       exact valV_rep hvs hv
     obtain ⟨val, found, hrun, hrep, hfound⟩ := fin
     cases cok with
     | true => exact Sound.ok h hrun ⟨[val, .bool found], rfl, hrep, by rw [← hfound]; rfl, trivial⟩
     | false => exact Sound.ok h hrun hrep
    ·exact Sound.fail
   ·exact Sound.fail
  ·exact Sound.fail
 ·exact Sound.fail
theorem valOf_rep {X : Nat → Prop} {v : Ty} {ag : Bool} {x : V} {u : Value} (h : RepV β X w x u) {z : v.El} (hz : valOf v ag x = some z) : ∃ vs, Rep X w v z vs ∧ u = mval ag vs := by
 unfold valOf at hz
 split at hz
 ·rename_i cs
  obtain ⟨vs, rfl, hall⟩ := h
  exact ⟨vs, parse1_rep hall hz, rfl⟩
 ·rename_i c
  exact ⟨[u], parse1_rep (cs := [c]) (us := [u]) ⟨h, trivial⟩ hz, rfl⟩
 ·cases hz
theorem sound_mapUpdate (T : TOk P cx) (h : Rel cx F st β a w) {t : Nat} {m x y : Operand} {an : Ann} (ho : o.op = .mapUpdate t m x y) :
    Sound P cx F a w (execOp a.eval o) (evI cx (.mapUpdate t m x y) an st) := by
 simp only [evI]
 have hm := h.eval m
 have hx := h.eval x
 have hy := h.eval y
 split
 ·rename_i kt vt k c hd hmv hxv
  rw [hmv] at hm; rw [hxv] at hx
  split
  ·rename_i kty vty ag es hsl
   split
   ·rename_i key z hok hkey hz
    obtain ⟨h1, h2, h3, h4, h5⟩ := mapOk_spec hok
    obtain ⟨b, arr, hb1, hb2, hall, hborn⟩ := h.slots _ _ hsl
    obtain ⟨hm1, _⟩ := hm
    rw [hb1] at hm1
    obtain ⟨tk, htk, htk2⟩ := T.und h5
    have hkr : Rep (XX F st β) w kty key [a.eval x] := parse1_rep (cs := [c]) (us := [a.eval x]) ⟨hx, trivial⟩ hkey
    have hK := hkr.key h1 htk2
    obtain ⟨vs, hvs, hyv⟩ := valOf_rep hy hz
    have hc : ∀ e, (Instr.checkKey e 10000 kt (a.eval x)).run P w = .ok () w := fun e => run_checkKey htk hK e 9999
    intro _
    have fin : ∀ (arr' : List MapEntry), (execOp a.eval o).run P w = .ok .skip { w with heap := w.heap.setIfInBounds b (.map arr'.toArray arr'.length) } →
        (∀ X' w', Fr (XX F st β) w X' w' → All2 (RepE X' w' kty vty ag) (mset kty key z es) arr') → born arr' →
        ∃ v β' w', Gives P (execOp a.eval o) w v w' ∧ Rel cx F (st.set k (.mp kty vty ag (mset kty key z es))) β' a w' ∧ RepV β' (XX F (st.set k (.mp kty vty ag (mset kty key z es))) β') w' .undef v := by
     intro arr' hrun hall' hborn'
     have hs := heap_set (o' := .map arr'.toArray arr'.length) hb2
     refine ⟨_, β, _, .inr ⟨hrun, rfl⟩, ?_, rfl⟩
     refine h.set k _ (.mp kty vty ag es) _ hsl (fun b' o' hb hne => ?_) (by simp) ⟨rfl, rfl, rfl⟩ (fun _ => rfl) (fun hfr => ?_)
     ·rw [hs.2 b' (by rintro rfl; exact hne (by rw [hb1]; rfl))]; exact hb
     ·exact ⟨b, arr', hb1, hs.1, hall' _ _ hfr, hborn'⟩
    rcases find_map h1 htk2 hkr es arr 0 hall with ⟨g1, g2, g3⟩ | ⟨j, e, p, g1, g2, g3, g4, g5, g6⟩
    ·refine fin (arr ++ [{ key := a.eval x, val := a.eval y, born := arr.length }]) ?_ ?_ ?_
     ·have hf : (Instr.findKey kt (a.eval x) arr).run P w = .ok none w := run_findKey htk g1
      simp [execOp, ho, Instr.mapUpdate, run_underlying (und_map T hd), hm1, run_getObj_map hb2, hc, hf, run_setObj_map _ hb2, Result.andThen]
     ·intro X' w' hfr
      rw [g3]
      exact (hall.mono fun _ _ => RepE.mono hfr).append ⟨⟨Rep.mono hfr _ hkr, vs, Rep.mono hfr _ hvs, hyv⟩, trivial⟩
     ·intro i e he
      rw [List.getElem?_append] at he
      split at he
      ·exact hborn i e he
      ·rename_i hlt
       have : i - arr.length = 0 := by
        rcases Nat.eq_zero_or_pos (i - arr.length) with h' | h'
        ·exact h'
        ·rw [List.getElem?_eq_none (by simp only [List.length_cons, List.length_nil]; omega)] at he; cases he
       rw [this] at he
       simp at he; subst he
       simp; omega
    ·have hf : (Instr.findKey kt (a.eval x) arr).run P w = .ok (some (j, e.val)) w := by
      have := run_findKey (w := w) htk g1
      simpa using this
     have hjl : j < arr.length := (List.getElem?_eq_some_iff.1 g2).1
     refine fin (arr.set j { e with key := a.eval x, val := a.eval y }) ?_ ?_ ?_
     ·have hmod : (arr.toArray.modify j fun e => { e with key := a.eval x, val := a.eval y }) = (arr.set j { e with key := a.eval x, val := a.eval y }).toArray := by
       apply Array.ext'
       simp only [Array.toList_modify]
       apply List.ext_getElem?
       intro i
       rw [List.getElem?_modify, List.getElem?_set]
       by_cases hij : j = i
       ·subst hij
        rw [if_pos rfl, g2]
        simp [hjl]
       ·simp [hij]
      have hstay : (Instr.keyThatStays (a.eval x) (a.eval x)).run P w = .ok (a.eval x) w := run_keyThatStays hK
      have hget : ((arr.toArray[j]?).map (·.key)).getD (a.eval x) = a.eval x := by
       simp [g2, g4]
      simp only [execOp, ho, Instr.mapUpdate, Sem.run_bind, run_underlying (und_map T hd), Result.andThen_ok, hm1, run_getObj_map hb2, hc, hf, hget, hstay, hmod, run_setObj_map _ hb2, List.length_set]
      rfl
     ·intro X' w' hfr
      rw [g6]
      have hall' := hall.mono fun _ _ => RepE.mono hfr (X' := X') (w' := w')
      refine All2.of_get (by simp [hall'.length]) fun i p' e' hp he => ?_
      rw [List.getElem?_set] at hp he
      by_cases hij : j = i
      ·subst hij
       have hjes : j < es.length := by rw [hall.length]; exact hjl
       rw [if_pos rfl, if_pos hjes] at hp
       rw [if_pos rfl, if_pos hjl] at he
       obtain rfl := Option.some.inj hp
       obtain rfl := Option.some.inj he
       exact ⟨Rep.mono hfr _ hkr, vs, Rep.mono hfr _ hvs, hyv⟩
      ·rw [if_neg hij] at hp he
       obtain ⟨e2, he2, h2'⟩ := hall'.get hp
       rw [he] at he2
       obtain rfl := Option.some.inj he2
       exact h2'
     ·intro i e' he
      rw [List.getElem?_set] at he
      by_cases hij : j = i
      ·subst hij
       rw [if_pos rfl, if_pos hjl] at he
       obtain rfl := Option.some.inj he
       exact hborn j e g2
      ·rw [if_neg hij] at he
       exact hborn i e' he
   ·exact Sound.fail
  ·exact Sound.fail
 ·exact Sound.fail
end
end Go.AM
