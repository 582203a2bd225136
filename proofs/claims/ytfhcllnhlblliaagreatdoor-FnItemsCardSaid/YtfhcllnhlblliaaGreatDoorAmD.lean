/- Part D of a maker of conditions for walks, and why it is sound. -/
import Derived.Test.YtfhcllnhlblliaaGreatDoorAmC
import Derived.Laws.IdiomRangeMap
import Derived.Below
import Derived.Lib.Bytealg
set_option linter.unusedVariables false
set_option linter.unusedSimpArgs false
set_option linter.unusedSimpArgs false
set_option linter.unusedVariables false
namespace Go.AM
open Go
theorem qSq {K : List Nat} {j k : Nat} (hj : mem j K = false) (hk : k ∈ K) : qaf k j = some j := by
 simp only [qaf]
 cases hb : Nat.beq j k
 .rfl
 .have := (qk _ _).1 hb
  subst this;rw [(qvb j K).2 hk] at hj; cases hj
theorem qst {K : List Nat} {k : Nat} (hk : k ∈ K) : ∀ {caps : List Nat}, (caps.all fun k => !mem k K) = true -> renL (qaf k) caps = some caps
 | [], _ => rfl
 | j :: r, h => by
  simp only [List.all_cons, Bool.and_eq_true, Bool.not_eq_true'] at h;simp [renL, qSq h.1 hk, qst hk h.2]
theorem C.ren_noK {K : List Nat} {k : Nat} (hk : k ∈ K) {c : C} (h : c.noK K = true) : c.ren (qaf k) = c := by
 cases c <;> first | rfl | skip
 all_goals (simp only [C.noK, Bool.not_eq_true'] at h)
 all_goals (first | (simp only [C.ren, qSq h hk]) | (simp only [C.ren, qst hk h]))
theorem qLs {K : List Nat} {k : Nat} (hk : k ∈ K) : ∀ {cs : List C}, cs.all (C.noK K) = true -> cs.map (C.ren (qaf k)) = cs
 | [], _ => rfl
 | c :: r, h => by
  simp only [List.all_cons, Bool.and_eq_true] at h;simp [C.ren_noK hk h.1, qLs hk h.2]
mutual
theorem V.ren_noK {K : List Nat} {k : Nat} (hk : k ∈ K) : ∀ {v : V}, v.noK K = true -> v.map (C.ren (qaf k)) = v
 | .one c, h => by simp only [V.map, C.ren_noK hk h]
 | .agg cs, h => by simp only [V.map, qLs hk h]
 | .tup vs, h => by simp only [V.map, V.rens_noK hk h]
 | .undef, _ => rfl
 | .top, _ => rfl
theorem V.rens_noK {K : List Nat} {k : Nat} (hk : k ∈ K) : ∀ {vs : List V}, V.noKs K vs = true -> V.maps (C.ren (qaf k)) vs = vs
 | [], _ => rfl
 | v :: r, h => by
  simp only [V.noKs, Bool.and_eq_true] at h;simp only [V.maps, V.ren_noK hk h.1, V.rens_noK hk h.2]
end
theorem Slot.ren_noK {K : List Nat} {k : Nat} (hk : k ∈ K) : ∀ {s : Slot}, s.noK K = true -> s.map (C.ren (qaf k)) = s
 | .box cs, h => by simp only [Slot.map, qLs hk h]
 | .bd t c, h => by simp only [Slot.map]; rw [C.ren_noK hk h]
 | .mp _ _ _ _, _ => rfl
 | .lst _ _ _, _ => rfl
 | .brow _ _, _ => rfl
 | .tb _ _, _ => rfl
theorem St.noK_get {K : List Nat} {st : St} (h : st.noK K = true) (t : Nat) : (st.get t).noK K = true := by
 simp only [St.noK, Bool.and_eq_true] at h
 unfold St.get
 cases hl : look t st.regs with
 | none => rfl
 | some v =>
  have : ∀ l : List (Nat × V), (l.all fun p => p.2.noK K) = true -> look t l = some v -> v.noK K = true := by
   intro l
   induction l with
   | nil => intro _ h; simp [look] at h
   | cons p l ih =>
    intro ha hlk;simp only [List.all_cons, Bool.and_eq_true] at ha;rw [qwb] at hlk
    split at hlk
    .simp only [Option.some.injEq] at hlk; subst hlk; exact ha.1
    .exact ih ha.2 hlk
  exact this _ h.1 hl
theorem St.noK_slot {K : List Nat} {st : St} (h : st.noK K = true) {k : Nat} {s : Slot} (hs : st.slot k = some s) : s.noK K = true /\ k ∉ K := by
 simp only [St.noK, Bool.and_eq_true] at h
 have : ∀ l : List (Nat × Slot), (l.all fun p => !mem p.1 K && p.2.noK K) = true -> look k l = some s -> s.noK K = true /\ k ∉ K := by
  intro l
  induction l with
  | nil => intro _ h; simp [look] at h
  | cons p l ih =>
   intro ha hlk;simp only [List.all_cons, Bool.and_eq_true] at ha;rw [qwb] at hlk
   split at hlk
   .rename_i e
    simp only [Option.some.injEq] at hlk; subst hlk;refine ⟨ha.1.2, fun hm => ?_⟩;have h1 := ha.1.1;rw [<- e, (qvb k K).2 hm] at h1; cases h1
   .exact ih ha.2 hlk
 exact this _ h.2 hs
section
variable {P : Program} {cx : Cx} {F : Fm} {st : St} {β : Nat -> Value} {a : Act} {w : World} {o : Oper}
def Like (K : List Nat) (st st' : St) : Prop := ∀ k, k ∉ K -> st.slot k = st'.slot k
theorem qbn {K : List Nat} {k : Nat} (h : mem k K = false) : k ∉ K := fun hm => by rw [(qvb k K).2 hm] at h; cases h
theorem qVm {K : List Nat} {st st' : St} (hs : Like K st st') (ty : Ty) {v : V} (hv : v.noK K = true) : qli st ty v = qli st' ty v := by
 cases v with
 | one c =>
  cases c <;> try rfl
  rename_i k;simp only [V.noK, C.noK, Bool.not_eq_true'] at hv;simp only [qli, hs k (qbn hv)]
 | _ => rfl
theorem qct {K : List Nat} {st st' : St} (hs : Like K st st') (n : Nat) {v : V} (hv : v.noK K = true) : qcj st v n = qcj st' v n := by
 cases v with
 | one c =>
  cases c <;> try rfl
  all_goals (simp only [V.noK, C.noK, Bool.not_eq_true'] at hv)
  all_goals (simp only [qcj, hs _ (qbn hv)])
 | _ => rfl
theorem qKq (K : List Nat) (v : Value) : (qMk v).noK K = true := by
 unfold qMk
 split <;> rfl
theorem qgp (K : List Nat) (v : Value) : (qlk v).noK K = true := by
 unfold qlk
 split
 .rename_i cs
  split
  .rename_i l hl
   have key : ∀ (vs : List Value) (l : List C), qRg vs = some l -> l.all (C.noK K) = true := by
    intro vs
    induction vs with
    | nil => intro l h; simp [qRg] at h; subst h; rfl
    | cons v r ih =>
     intro l h;simp only [qRg] at h
     split at h
     .rename_i c cs' hc hr
      simp only [Option.some.injEq] at h; subst h;have := qKq K v;rw [hc] at this;simp only [List.all_cons, Bool.and_eq_true];exact ⟨this, ih _ hr⟩
     .cases h
   exact key _ _ hl
  .rfl
 .exact qKq K v
theorem qRw {K : List Nat} {ops : Array Oper} (hr : ∀ t ∈ qOd ops o, (st.get t).noK K = true) : ∀ x ∈ o.op.operands, (st.eval cx x).noK K = true := by
 intro x hx
 cases x with
 | tmp t => exact hr t (List.mem_append_left _ (qkf (by simpa using hx)))
 | const v => exact qgp K v
 | global g => simp only [St.eval]; split <;> rfl
 | func f => rfl
theorem qvx {K : List Nat} (cx : Cx) (op : Op) (st st' : St) (h : still op = true) (he : ∀ x ∈ op.operands, st.eval cx x = st'.eval cx x) (hn : ∀ x ∈ op.operands, (st'.eval cx x).noK K = true) (hs : Like K st st') :
    (evI cx op .no st).out = (evI cx op .no st').out := by
 unfold still at h
 split at h <;> first | (cases h; done) | skip
 all_goals (simp only [Op.operands] at he hn)
 case _ x => rw [show evI cx (.move x) .no st = ok st (st.eval cx x) from rfl, show evI cx (.move x) .no st' = ok st' (st'.eval cx x) from rfl, he x (by simp)]; rfl
 case _ x => rw [show evI cx (.assign x) .no st = ok st (st.eval cx x) from rfl, show evI cx (.assign x) .no st' = ok st' (st'.eval cx x) from rfl, he x (by simp)]; rfl
 case _ c x y => simp only [evI, he c (by simp), he x (by simp), he y (by simp)]; (repeat' split) <;> rfl
 case _ x => simp only [evI, he x (by simp)]; (repeat' split) <;> rfl
 case _ x y _ => simp only [evI, he x (by simp), he y (by simp)]; rfl
 case _ x => simp only [evI, he x (by simp)]; rfl
 case _ src dst x =>
  simp only [evI, he x (by simp), Bool.cond_eq_ite];have hx := hn x (by simp);generalize St.eval cx st' x = v at hx;generalize (cx.T dst).d = d;cases (cx.T src).d.known
  .rfl
  .simp only [Bool.not_true, Bool.false_eq_true, if_false]
   cases v with
   | one c =>
    cases c <;> cases d <;> try rfl
    all_goals (dsimp only)
    all_goals (first | (rw [qVm hs (.int .u8) hx]; (repeat' split) <;> rfl) | ((repeat' split) <;> rfl))
   | _ => cases d <;> rfl
 case _ f first caps =>
  have e1 : caps.toList.map (st.eval cx) = caps.toList.map (st'.eval cx) := List.map_congr_left fun x hx => he x (by simp at hx ⊢; exact .inr hx)
  cases f <;> first | rfl | skip
  simp only [evI, e1]; (repeat' split) <;> rfl
 case _ x i => simp only [evI, he x (by simp)]; (repeat' split) <;> rfl
 case _ t x f => simp only [evI, he x (by simp), Bool.cond_eq_ite]; (repeat' split) <;> rfl
 case _ t x i => simp only [evI, he x (by simp), he i (by simp)]; (repeat' split) <;> rfl
 case _ t x lo hi =>
  have e1 : lo.map (st.eval cx) = lo.map (st'.eval cx) := by
   cases lo with
   | none => rfl
   | some y => simp only [Option.map_some]; rw [he y (by simp)]
  have e2 : hi.map (st.eval cx) = hi.map (st'.eval cx) := by
   cases hi with
   | none => rfl
   | some y => simp only [Option.map_some]; rw [he y (by simp)]
  have hx := hn x (by simp);have h4 : ∀ k o, st'.eval cx x = .one (.ref k o) -> st.slot k = st'.slot k := fun k o hk => by
   rw [hk] at hx;simp only [V.noK, C.noK, Bool.not_eq_true'] at hx;exact hs k (qbn hx)
  simp only [evI, he x (by simp), e1, e2, Bool.cond_eq_ite]
  split
  . (repeat' split) <;> rfl
  . (repeat' split) <;> rfl
  . (repeat' split) <;> rfl
  . (repeat' split) <;> rfl
  .rename_i hk
   rw [h4 _ _ hk]
   (repeat' split) <;> rfl
  .rfl
 case _ t x i =>
  simp only [evI, he x (by simp), he i (by simp), Bool.cond_eq_ite];have hx := hn x (by simp);generalize st'.eval cx x = v at hx;cases v with
  | one c =>
   generalize (cx.T t).d = d;generalize St.eval cx st' i = vi;cases c
   case rs k =>
    simp only [V.noK, C.noK, Bool.not_eq_true'] at hx;have e := hs k (qbn hx);cases d <;> try rfl
    cases vi <;> try rfl
    rename_i c2;cases c2 <;> try rfl
    simp only [e]
    (repeat' split) <;> rfl
   case ref k o =>
    simp only [V.noK, C.noK, Bool.not_eq_true'] at hx;have e := hs k (qbn hx);cases d <;> try rfl
    cases vi <;> try rfl
    rename_i c2;cases c2 <;> try rfl
    simp only [e]
    (repeat' split) <;> rfl
   all_goals (cases d <;> try rfl)
   all_goals (cases vi <;> try rfl)
   all_goals (rename_i c2; cases c2 <;> try rfl)
   all_goals (dsimp only)
   all_goals (first | rfl | ((repeat' split) <;> rfl))
  | _ =>
   generalize (cx.T t).d = d;cases d <;> rfl
 case _ t x f => simp only [evI, he x (by simp), Bool.cond_eq_ite]; (repeat' split) <;> rfl
 case _ t x =>
  have e := qct (st := st) (st' := st') hs (cx.T t).size (hn x (by simp));simp only [evI, he x (by simp), e, Bool.cond_eq_ite]; (repeat' split) <;> rfl
 case _ t parts =>
  have e1 : (parts.toList.map fun p => (p.1, st.eval cx p.2)) = parts.toList.map fun p => (p.1, st'.eval cx p.2) := List.map_congr_left fun p hp => by
   rw [he p.2 (by simp; exact ⟨p.1, by simpa using hp⟩)]
  simp only [evI, e1]; (repeat' split) <;> rfl
 case _ t n parts =>
  have e1 : (parts.toList.map fun p => (p.1, st.eval cx p.2)) = parts.toList.map fun p => (p.1, st'.eval cx p.2) := List.map_congr_left fun p hp => by
   rw [he p.2 (by simp; exact ⟨p.1, by simpa using hp⟩)]
  simp only [evI, e1, Bool.cond_eq_ite]; (repeat' split) <;> rfl
theorem qPs {K : List Nat} {st st' : St} (cx : Cx) (t u : Nat) (x y : V) (hy : y.noK K = true) (hs : Like K st st') : (qOh cx t u x y st).out = (qOh cx t u x y st').out := by
 have h1 := fun ty => qVm (st := st) (st' := st') hs ty hy
 unfold qOh
 simp only [h1]
 (repeat' split) <;> first | rfl | contradiction
theorem qXv {K : List Nat} {op : Op} {an : Ann} {st st' : St} (h : PI op an) (cx : Cx) (he : ∀ x ∈ op.operands, st.eval cx x = st'.eval cx x) (hn : ∀ x ∈ op.operands, (st'.eval cx x).noK K = true) (hs : Like K st st') :
    (evI cx op an st).out = (evI cx op an st').out := by
 rcases h with ⟨h, rfl⟩ | ⟨t, n, ps, rfl, rfl⟩
 .exact qvx (K := K) cx op st st' h he hn hs
 .simp only [evI]
  (repeat' split) <;> first | rfl | contradiction | simp_all [fail, ok]
theorem qZw {K : List Nat} {st st' : St} (cx : Cx) (b : Builtin) {an : Ann} (hb : PB b an) (tys : List Nat) (xs : List V) (hx : ∀ x ∈ xs, x.noK K = true) (hs : Like K st st') :
    (evB cx b tys xs an st).out = (evB cx b tys xs an st').out := by
 rcases hb with ⟨rfl, rfl⟩ | ⟨rfl, rfl⟩ | ⟨rfl, rfl⟩
 .rcases tys with _ | ⟨t, tys⟩ <;> rcases xs with _ | ⟨x, _ | ⟨y, xs⟩⟩ <;> try rfl
  have h1 := hx x (by simp);cases x with
  | one c =>
   simp only [evB];generalize (cx.T t).d = d;cases c
   case rs k =>
    simp only [V.noK, C.noK, Bool.not_eq_true'] at h1;have e := hs k (qbn h1);cases d <;> try rfl
    simp only [e]
    (repeat' split) <;> rfl
   case rm k =>
    simp only [V.noK, C.noK, Bool.not_eq_true'] at h1;have e := hs k (qbn h1);cases d <;> try rfl
    simp only [e]
    (repeat' split) <;> rfl
   all_goals (cases d <;> rfl)
  | _ =>
   simp only [evB];generalize (cx.T t).d = d;cases d <;> rfl
 .unfold evB
  simp only [qCs]
  (repeat' split) <;> first | rfl | contradiction
 .unfold evB
  (repeat' split) <;> first | rfl | contradiction | exact qPs (K := K) cx _ _ _ _ (hx _ (by simp)) hs
theorem qsv (st : St) (c : C) : C.brw st [] c = c := by cases c <;> rfl
theorem Run.like {K : List Nat} {Φ : Con} {an : Ann} {st st' : St} {v : V} (hp : qsc o an = true) (he : ∀ x ∈ o.op.operands, st.eval cx x = st'.eval cx x) (hn : ∀ x ∈ o.op.operands, (st.eval cx x).noK K = true) (hs : Like K st st')
    (h : Run cx Φ o an st v) : Run cx Φ o an st' v := by
 unfold Run at *
 have out : ∀ {r r' : Res}, r.out = r'.out -> r.side = r'.side /\ r.val = r'.val := fun h => ⟨congrArg Prod.fst h, congrArg Prod.snd h⟩
 have hn' : ∀ x ∈ o.op.operands, (st'.eval cx x).noK K = true := fun x hx => by rw [<- he x hx]; exact hn x hx
 rcases qij hp with ⟨c, f, rt, ho, hc, fx, rfl⟩ | ⟨c, b, ho, hc, hb⟩ | ⟨ho, hst⟩
 .obtain ⟨g, caps, x, h1, h2, h3, _⟩ := (qjg ho hc).1 h
  have hops : ∀ y, y = f ∨ y ∈ c.args.toList -> st.eval cx y = st'.eval cx y := by
   intro y hy;refine he y ?_;rw [ho];simp only [Op.operands, Call.operands, hc];rcases hy with rfl | hy
   .simp
   .simp; exact .inr (by simpa using hy)
  refine (qjg ho hc).2 ⟨g, caps, x, by rw [<- hops f (.inl rfl)]; exact h1, ?_, h3, rfl⟩;rw [<- List.map_congr_left fun y hy => hops y (.inr hy)];have hb : C.brw st [] = C.brw st' [] := by funext c; rw [qsv, qsv]
  rw [<- hb]; exact h2
 .have hargs : c.args.toList.map (st.eval cx) = c.args.toList.map (st'.eval cx) := List.map_congr_left fun y hy => he y (by
   rw [ho]; simp only [Op.operands, Call.operands, hc]; simpa using hy)
  rw [qUg ho hc] at h ⊢;rw [<- hargs];obtain ⟨h1, h2, _⟩ := Side.and_iff h;obtain ⟨e1, e2⟩ := out (qZw (K := K) cx b hb c.argTypes.toList (c.args.toList.map (st.eval cx)) (fun x hx => by
   obtain ⟨y, hy, rfl⟩ := List.mem_map.1 hx;exact hn y (by rw [ho]; simp only [Op.operands, Call.operands, hc]; simpa using hy)) hs)
  rw [e1] at h1;rw [e2] at h2;refine Side.mk_and h1 ⟨h2, ?_⟩;exact qfv hb ..
 .rw [qWc ho] at h ⊢
  obtain ⟨h1, h2, _⟩ := Side.and_iff h;obtain ⟨e1, e2⟩ := out (qXv (K := K) hst cx he hn' hs);rw [e1] at h1;rw [e2] at h2;exact Side.mk_and h1 ⟨h2, qpw hst cx st'⟩
theorem qnc.like {K : List Nat} {Φ : Con} {ops : Array Oper} {an : Ann} {st st' : St} {v : V} (hp : qsc o an = true) (hr : ∀ t ∈ qOd ops o, st.get t = st'.get t) (hn : ∀ t ∈ qOd ops o, (st.get t).noK K = true) (hs : Like K st st')
    (h : qnc cx Φ ops o an st v) : qnc cx Φ ops o an st' v := by
 have he : ∀ x ∈ o.op.operands, st.eval cx x = st'.eval cx x := by
  intro x hx;cases x with
  | tmp t => exact hr t (List.mem_append_left _ (qkf (by simpa using hx)))
  | _ => rfl
 have hne := qRw (cx := cx) hn
 unfold qnc at *
 split at h
 .exact h.like hp he hne hs
 .rename_i j want hg
  obtain ⟨t, ht, h⟩ := h;have hget : st.get t = st'.get t := hr t (List.mem_append_right _ (by unfold qpt; rw [hg]; simp [ht]));refine ⟨t, ht, ?_⟩;rw [<- hget];rcases h with ⟨h1, h2⟩ | h
  .exact .inl ⟨h1, h2.like hp he hne hs⟩
  .exact .inr h
theorem Rel.ext (h : Rel cx F st β a w) {st' : St} (hr : ∀ t, st'.get t = st.get t) (hs : ∀ k, st'.slot k = st.slot k) : Rel cx F st' β a w := by
 have hX : XX F st' β = XX F st β := by funext b; simp only [XX, hs]
 refine ⟨h.defers, h.size, ?_, ?_, ?_, ?_, h.frame, ?_, h.sizes, h.outer, ?_, h.same⟩
 .intro t v ht
  have : st'.get t = v := by unfold St.get; rw [ht]
  rw [hX, <- this, hr t]; exact h.get t
 .intro k s hk; rw [hX]; rw [hs] at hk; exact h.slots k s hk
 .intro i j s s' b h1 h2; rw [hs] at h1 h2; exact h.inj i j s s' b h1 h2
 .intro g t x hg; rw [hX]; exact h.glob g t x hg
 .intro k s b hk; rw [hs] at hk; exact h.owned k s b hk
 .intro k v hk; exact ⟨(h.fix k v hk).1, fun s he => by rw [hs] at he; exact (h.fix k v hk).2 s he⟩
def qZt (cx : Cx) (o : Oper) (an : Ann) (k : Nat) (s : Slot) : Prop := o.guard = none /\ (∀ st : St, evI cx o.op an st = ok (st.new k s) (.one (.ref k 0))) /\ (∀ K, s.noK K = true) /\ ∀ c, o.op ≠ .call c
theorem qtu {c : C} {v : Value} (K : List Nat) (h : qol c v = true) : c.noK K = true := by
 unfold qol at h
 split at h <;> first | rfl | cases h
theorem qyr (K : List Nat) : ∀ {cs : List C} {vs : List Value}, All2 (fun c v => qol c v = true) cs vs -> cs.all (C.noK K) = true
 | [], [], _ => rfl
 | c :: cs, v :: vs, ⟨h1, h2⟩ => by simp [qtu K h1, qyr K h2]
theorem qgv (T : TOk P cx) {Φ : Con} {as : List Ghost × Ann} {k : Nat} {κ : V -> St -> Prop} (ha : qyk o as = some k) (h : wpOp cx Φ o as.2 st κ) : as.1 = [] /\ ∃ s, qZt cx o as.2 k s /\ κ (.one (.ref k 0)) (st.new k s) := by
 obtain ⟨gs, an⟩ := as
 unfold qyk at ha
 split at ha
 .rename_i t k' h1 h2 h3 h4
  simp only [Option.some.injEq] at ha; subst ha;simp only at h1 h3; subst h1; subst h3;have hc : ∀ c, o.op ≠ .call c := fun c e => by rw [h2] at e; cases e
  rw [qWc hc, h2] at h;simp only [evI] at h;cases hk : (cx.T t).d.known
  .rw [hk] at h; exact h.elim
  .rw [hk] at h
   obtain ⟨_, hκ⟩ := Side.and_iff h;obtain ⟨ti, z, hi, hs, hb, hz, hza, _⟩ := (T t hk).info;exact ⟨rfl, .box (cx.T t).zero, ⟨h4, fun st => by rw [h2]; simp only [evI, hk, cond_true], fun K => qyr K hza, hc⟩, hκ⟩
 .rename_i t k' ty h1 h2 h3 h4
  simp only [Option.some.injEq] at ha; subst ha;simp only at h1 h3; subst h1; subst h3;have hc : ∀ c, o.op ≠ .call c := fun c e => by rw [h2] at e; cases e
  rw [qWc hc, h2] at h;simp only [evI] at h;cases hk : ((cx.T t).d.known && (cx.T t).zt)
  .rw [hk] at h; exact h.elim
  .rw [hk] at h
   simp only [cond_true] at h;cases hty : (cx.T t).ty with
   | none => rw [hty] at h; exact h.elim
   | some ty' =>
    rw [hty] at h;simp only at h
    by_cases he : ty' = ty
    .rw [if_pos he] at h
     obtain ⟨_, hκ⟩ := Side.and_iff h;exact ⟨rfl, .tb ty ty.dflt, ⟨h4, fun st => by rw [h2]; simp only [evI, hk, cond_true, hty, if_pos he], fun K => rfl, hc⟩, hκ⟩
    .rw [if_neg he] at h; exact h.elim
 .cases ha
theorem qZt.wp {Φ : Con} {an : Ann} {k : Nat} {s : Slot} (h : qZt cx o an k s) (st : St) {κ : V -> St -> Prop} (hk : κ (.one (.ref k 0)) (st.new k s)) : wpOp cx Φ o an st κ := by
 rw [qWc h.2.2.2, h.2.1 st]; exact hk
end
end Go.AM
set_option linter.unusedSimpArgs false
set_option linter.unusedVariables false
namespace Go.AM
open Go
section
variable {P : Program} {cx : Cx} {F : Fm} {st : St} {β : Nat -> Value} {a : Act} {w : World} {o : Oper}
theorem qyj : ∀ (os : List Oper) (as : List (List Ghost × Ann)), qbf os as <= os.length /\ qbf os as <= as.length /\ qQh (os.take (qbf os as)) (as.take (qbf os as)) = true
 | [], as => by simp [qbf, qQh]
 | o :: os, [] => by simp [qbf, qQh]
 | o :: os, (gs, x) :: as => by
  obtain ⟨h1, h2, h3⟩ := qyj os as;simp only [qbf];cases hb : ((match gs with | [] => true | _ => false) && qsc o x)
  .simp [qQh]
  .simp only [cond_true]
   refine ⟨by simpa using h1, by simpa using h2, ?_⟩;simp only [Bool.and_eq_true] at hb;simp only [List.take_succ_cons, qQh, Bool.and_eq_true];exact ⟨hb.1, hb.2, h3⟩
theorem qTs {Φ : Con} {ops : Array Oper} {Q : Exit -> St -> Prop} : ∀ (p : Nat) (os : List Oper) (as : List (List Ghost × Ann)) (st : St), p <= os.length -> p <= as.length ->
    (qE cx Φ ops Q os as st ↔ qE cx Φ ops (fun e st' => match e with | .normal => qE cx Φ ops Q (os.drop p) (as.drop p) st' | e => Q e st') (os.take p) (as.take p) st) := by
 intro p
 induction p with
 | zero => intro os as st _ _; simp [qE]
 | succ p ih =>
  intro os as st h1 h2;cases os with
  | nil => simp at h1
  | cons o os =>
   cases as with
   | nil => simp at h2
   | cons x as =>
    have ih' := fun st => ih os as st (by simpa using h1) (by simpa using h2)
    simp only [List.take_succ_cons, List.drop_succ_cons, qE, ih']
theorem C.noK_sub {K K' : List Nat} (hs : ∀ j, j ∈ K' -> j ∈ K) {c : C} (h : c.noK K = true) : c.noK K' = true := by
 have key : ∀ j, mem j K = false -> mem j K' = false := by
  intro j hj;cases hm : mem j K'
  .rfl
  .have := hs j ((qvb j K').1 hm)
   rw [(qvb j K).2 this] at hj; cases hj
 cases c <;> first | rfl | skip
 all_goals (simp only [C.noK, Bool.not_eq_true'] at h ⊢)
 all_goals (first | exact key _ h | skip)
 rw [List.all_eq_true] at h ⊢
 intro x hx
 have := h x hx
 simp only [Bool.not_eq_true'] at this ⊢
 exact key x this
mutual
theorem V.noK_sub {K K' : List Nat} (hs : ∀ j, j ∈ K' -> j ∈ K) : ∀ {v : V}, v.noK K = true -> v.noK K' = true
 | .one c, h => C.noK_sub hs h
 | .agg cs, h => by
  simp only [V.noK, List.all_eq_true] at h ⊢;exact fun c hc => C.noK_sub hs (h c hc)
 | .tup vs, h => V.noKs_sub hs h
 | .undef, _ => rfl
 | .top, _ => rfl
theorem V.noKs_sub {K K' : List Nat} (hs : ∀ j, j ∈ K' -> j ∈ K) : ∀ {vs : List V}, V.noKs K vs = true -> V.noKs K' vs = true
 | [], _ => rfl
 | v :: r, h => by
  simp only [V.noKs, Bool.and_eq_true] at h ⊢;exact ⟨V.noK_sub hs h.1, V.noKs_sub hs h.2⟩
end
theorem Slot.noK_sub {K K' : List Nat} (hs : ∀ j, j ∈ K' -> j ∈ K) : ∀ {s : Slot}, s.noK K = true -> s.noK K' = true
 | .box cs, h => by
  simp only [Slot.noK, List.all_eq_true] at h ⊢;exact fun c hc => C.noK_sub hs (h c hc)
 | .bd t c, h => C.noK_sub hs h
 | .mp _ _ _ _, _ => rfl
 | .lst _ _ _, _ => rfl
 | .brow _ _, _ => rfl
 | .tb _ _, _ => rfl
theorem qls {k : Nat} {s : Slot} (hn : ∀ t, (st.get t).noK [k] = true) (t : Nat) : (st.new k s).get t = st.get t := by
 have h1 : look t (st.new k s).regs = (look t st.regs).map (V.map (C.ren (qaf k))) := by
  show look t (st.kill k).regs = _
  exact St.look_map st _ t
 have h2 := hn t
 unfold St.get at h2 ⊢
 rw [h1]
 cases hl : look t st.regs with
 | none => rfl
 | some v =>
  rw [hl] at h2;exact V.ren_noK (List.mem_cons_self ..) h2
theorem qKp {k : Nat} {s : Slot} (hn : ∀ j s, st.slot j = some s -> s.noK [k] = true) (j : Nat) : (st.new k s).slot j = if j = k then some s else st.slot j := by
 rw [St.slot_new]
 split
 .rfl
 .cases hj : st.slot j with
  | none => rfl
  | some s0 => simp [Slot.ren_noK (List.mem_cons_self ..) (hn j s0 hj)]
theorem qzd (st : St) (d : Option Nat) (v : V) (k : Nat) : (st.put d v).slot k = st.slot k := by cases d <;> rfl
structure Made (st : St) (K : List Nat) (ss : List Slot) (ds : List (Option Nat)) (st' : St) : Prop where
 old : ∀ t, (∀ i : Nat, ds[i]? ≠ some (some t)) -> st'.get t = st.get t
 new : ∀ (i : Nat) t k, ds[i]? = some (some t) -> K[i]? = some k -> st'.get t = .one (.ref k 0)
 olds : ∀ k, k ∉ K -> st'.slot k = st.slot k
 news : ∀ (i : Nat) k s, K[i]? = some k -> ss[i]? = some s -> st'.slot k = some s
theorem qPk (T : TOk P cx) {Φ : Con} {ops : Array Oper} {Q : Exit -> St -> Prop} : ∀ (R : List Oper) (as : List (List Ghost × Ann)) (st : St), qHf (qK R as) = true ->
    (∀ (i j : Nat) p q t, i ≠ j -> R[i]? = some p -> R[j]? = some q -> p.dst = some t -> q.dst ≠ some t) ->
    (∀ t, (st.get t).noK (qK R as) = true) -> (∀ k s, st.slot k = some s -> s.noK (qK R as) = true /\ k ∉ qK R as) -> qE cx Φ ops Q R as st ->
    ∃ ss st', ss.length = (qK R as).length /\ (qK R as).length <= R.length /\ (qK R as).length <= as.length /\
     (∀ (i : Nat) k s, (qK R as)[i]? = some k -> ss[i]? = some s -> ∃ o x, R[i]? = some o /\ as[i]? = some x /\ qZt cx o x.2 k s) /\
     Made st (qK R as) ss ((R.take (qK R as).length).map (·.dst)) st' /\ qE cx Φ ops Q (R.drop (qK R as).length) (as.drop (qK R as).length) st'
 | [], as, st, _, _, _, _, h => by
  have : qK [] as = [] := by cases as <;> rfl
  rw [this];exact ⟨[], st, rfl, Nat.zero_le _, Nat.zero_le _, fun i k s h => by simp at h, ⟨fun _ _ => rfl, fun i t k h => by simp at h, fun _ _ => rfl, fun i k s h => by simp at h⟩, h⟩
 | o :: R, [], st, _, _, _, _, h => h.elim
 | o :: R, x :: as, st, hnd, hds, hr, hs, h => by
  simp only [qK] at hnd hr hs ⊢;cases hal : qyk o x with
  | none =>
   simp only [hal];exact ⟨[], st, rfl, Nat.zero_le _, Nat.zero_le _, fun i k s h => by simp at h, ⟨fun _ _ => rfl, fun i t k h => by simp at h, fun _ _ => rfl, fun i k s h => by simp at h⟩, h⟩
  | some k =>
   simp only [hal] at hnd hr hs ⊢;simp only [qHf] at hnd;have hkn : mem k (qK R as) = false := by
    cases hm : mem k (qK R as)
    .rfl
    .rw [hm] at hnd; cases hnd
   rw [hkn] at hnd;simp only [cond_false] at hnd;have hsub1 : ∀ j, j ∈ [k] -> j ∈ k :: qK R as := fun j hj => by simp at hj; subst hj; exact List.mem_cons_self ..
   have hsub2 : ∀ j, j ∈ qK R as -> j ∈ k :: qK R as := fun j hj => List.mem_cons_of_mem _ hj
   have hg1 : x.1 = [] := by
    unfold qyk at hal
    split at hal
    .rename_i h1 _ _ _; exact h1
    .rename_i h1 _ _ _; exact h1
    .cases hal
   have hgd : o.guard = none := by
    unfold qyk at hal
    split at hal
    .rename_i _ _ _ h1; exact h1
    .rename_i _ _ _ h1; exact h1
    .cases hal
   simp only [qE, hg1, que, hgd] at h;obtain ⟨_, s, hA, hk⟩ := qgv T hal h;have hget := qls (st := st) (k := k) (s := s) fun t => V.noK_sub hsub1 (hr t)
   have hslot := qKp (st := st) (k := k) (s := s) fun j s hj => Slot.noK_sub hsub1 (hs j s hj).1
   obtain ⟨ss, st', h1, h1b, h1c, h2, h3, h4⟩ := qPk T R as ((st.new k s).put o.dst (.one (.ref k 0))) hnd
    (fun i j p q t hne hp hq => hds (i + 1) (j + 1) p q t (by omega) (by simpa using hp) (by simpa using hq))
    (fun t => by
     rw [qU]
     split
     .simp only [V.noK, C.noK, hkn, Bool.not_false]
     .rw [hget]; exact V.noK_sub hsub2 (hr t))
    (fun j s' hj => by
     rw [qzd, hslot] at hj
     split at hj
     .rename_i e
      subst e;simp only [Option.some.injEq] at hj; subst hj;exact ⟨hA.2.2.1 _, fun hm => by rw [(qvb j _).2 hm] at hkn; cases hkn⟩
     .obtain ⟨g1, g2⟩ := hs j s' hj
      exact ⟨Slot.noK_sub hsub2 g1, fun hm => g2 (List.mem_cons_of_mem _ hm)⟩) hk
   refine ⟨s :: ss, st', by simp [h1], by simpa using h1b, by simpa using h1c, ?_, ?_, ?_⟩
   .intro i k' s' hi hs'
    cases i with
    | zero =>
     simp at hi hs'; subst hi; subst hs';exact ⟨o, x, rfl, rfl, hA⟩
    | succ i => simpa using h2 i k' s' (by simpa using hi) (by simpa using hs')
   .refine ⟨?_, ?_, ?_, ?_⟩
    .intro t ht
     rw [h3.old t fun i hi => ht (i + 1) (by simpa using hi), qU, if_neg (fun e => ht 0 (by simp [e])), hget]
    .intro i t k' hi hk'
     cases i with
     | zero =>
      simp at hi hk';subst hk';rw [h3.old t ?_, qU, if_pos hi];intro j hj;simp only [List.getElem?_map] at hj;obtain ⟨q, hq, hqd⟩ := Option.map_eq_some_iff.1 hj;rw [List.getElem?_take] at hq
      split at hq
      .exact hds 0 (j + 1) o q t (by omega) rfl (by simpa using hq) hi hqd
      .cases hq
     | succ i => exact h3.new i t k' (by simpa using hi) (by simpa using hk')
    .intro j hj
     rw [h3.olds j fun hm => hj (List.mem_cons_of_mem _ hm), qzd, hslot, if_neg fun e => hj (by rw [e]; exact List.mem_cons_self ..)]
    .intro i k' s' hi hs'
     cases i with
     | zero =>
      simp at hi hs'; subst hi; subst hs';rw [h3.olds k (fun hm => by rw [(qvb k _).2 hm] at hkn; cases hkn), qzd, hslot, if_pos rfl]
     | succ i => exact h3.news i k' s' (by simpa using hi) (by simpa using hs')
   .simpa using h4
theorem qIf : ∀ (os : List Oper) (acc : List (List Nat)), (qxd os acc).length = acc.length + os.length /\ (∀ i, i < acc.length -> (qxd os acc)[i]? = acc[i]?) /\
    ∀ (i : Nat) o, os[i]? = some o -> (qxd os acc)[acc.length + i]? = some (qYt o ((qxd os acc).take (acc.length + i)))
 | [], acc => ⟨rfl, fun _ _ => rfl, fun i o h => by simp at h⟩
 | o :: os, acc => by
  obtain ⟨h1, h2, h3⟩ := qIf os (acc ++ [qYt o acc]);simp only [List.length_append, List.length_cons, List.length_nil] at h1 h2 h3;simp only [qxd];refine ⟨by rw [h1]; simp; omega, fun i hi => ?_, fun i p hi => ?_⟩
  .rw [h2 i (by omega), List.getElem?_append_left hi]
  .cases i with
   | zero =>
    simp at hi; subst hi;rw [Nat.add_zero, h2 acc.length (by omega)];rw [List.getElem?_append_right (Nat.le_refl _)];simp only [Nat.sub_self, List.getElem?_cons_zero, Option.some.injEq];congr 1
    apply List.ext_getElem?
    intro q;rw [List.getElem?_take]
    split
    .rw [h2 q (by omega), List.getElem?_append_left (by assumption)]
    .rw [List.getElem?_eq_none (by omega)]
   | succ i =>
    have := h3 i p (by simpa using hi);rw [show acc.length + (i + 1) = acc.length + 1 + i by omega]; exact this
theorem qPe {ops : Array Oper} (hback : ∀ (i : Nat) o, ops[i]? = some o -> ∀ e ∈ o.after, Region.binds .any e = true -> e.on < i) {L : Nat -> Prop}
    (hcl : ∀ i o, L i -> ops[i]? = some o -> ∀ e ∈ o.after, Region.binds .any e = true -> L e.on) :
    ∀ (j : Nat) o, ops[j]? = some o -> (∀ e ∈ o.after, Region.binds .any e = true -> L e.on) -> ∀ i ∈ (qxd ops.toList []).getD j [], L i := by
 intro j
 induction j using Nat.strongRecOn with
 | _ j ih =>
  intro o ho hr i hi;obtain ⟨_, _, h3⟩ := qIf ops.toList [];have hj := h3 j o (by simpa using ho);simp only [List.length_nil, Nat.zero_add] at hj;rw [List.getD, hj] at hi;simp only [Option.getD_some, qYt, List.mem_flatMap] at hi;obtain ⟨e, he, hi⟩ := hi;have he' : e ∈ o.after := by simpa using he
  cases hb : Region.binds .any e
  .rw [hb] at hi; simp at hi
  .rw [hb] at hi
   simp only [cond_true, List.mem_cons] at hi;have hlt := hback j o ho e he' hb;have hLe := hr e he' hb;rcases hi with rfl | hi
   .exact hLe
   .cases hoe : ops[e.on]? with
    | none =>
     have h2 : (qxd ops.toList [])[e.on]? = none := by
      have h1 := (qIf ops.toList []).1;rw [List.getElem?_eq_none];rw [h1];have := Array.getElem?_eq_none_iff.1 hoe;simpa using this
     rw [List.getD, List.getElem?_take, if_pos hlt, h2] at hi;simp at hi
    | some oe =>
     refine ih e.on hlt oe hoe (fun e' he2 hb2 => hcl e.on oe hLe hoe e' he2 hb2) i ?_;rw [List.getD, List.getElem?_take, if_pos hlt] at hi;exact hi
structure InvT (ops : Array Oper) (p : Nat) (K : List Nat) (ss : List Slot) (vs : List V) (st0 : St) (listed : Array Bool) (st : St) : Prop where
 size : listed.size = ops.size
 low : ∀ i, listed.getD i false = true -> i < p + K.length
 closed : ∀ (i : Nat) o, listed.getD i false = true -> ops[i]? = some o -> ∀ e ∈ o.after, Region.binds .any e = true -> listed.getD e.on false = true
 gotP : ∀ (i : Nat) o t v, listed.getD i false = true -> ops[i]? = some o -> o.dst = some t -> vs[i]? = some v -> st.get t = v
 gotA : ∀ (i : Nat) o t k, listed.getD (p + i) false = true -> ops[p + i]? = some o -> o.dst = some t -> K[i]? = some k -> st.get t = .one (.ref k 0)
 rest : ∀ t, (∀ (i : Nat) o, listed.getD i false = true -> ops[i]? = some o -> o.dst ≠ some t) -> st.get t = st0.get t
 slotA : ∀ (i : Nat) k s, listed.getD (p + i) false = true -> K[i]? = some k -> ss[i]? = some s -> st.slot k = some s
 slotR : ∀ k, (∀ i : Nat, listed.getD (p + i) false = true -> K[i]? ≠ some k) -> st.slot k = st0.slot k
theorem qqe {listed : Array Bool} {n i : Nat} (hs : listed.size = n) (hi : i < n) : listed.getD i true = false ↔ ¬listed.getD i false = true := by
 have : i < listed.size := by omega
 simp [this]
theorem qRp {listed : Array Bool} {n i : Nat} (hi : i < n) (hu : listed.getD i true = false) : 0 < qwg listed n := by
 unfold qwg
 apply List.length_pos_of_mem (a := i)
 rw [List.mem_filter]
 exact ⟨List.mem_range.2 hi, by rw [hu]; rfl⟩
theorem qOx (T : TOk P cx) {ops : Array Oper} {Q : Exit -> St -> Prop} (hD : Drawn ops) (hd : ∀ o ∈ ops.toList, ∀ t, o.dst = some t -> t < F.n) {as : List (List Ghost × Ann)} {q : Nat}
    (hlast : ∀ j, q <= j -> j < ops.size -> ∀ i, i < j -> i ∈ (qxd ops.toList []).getD j []) (hAn : ∀ p ∈ as, qZq F p) :
    ∀ (fuel j : Nat) (listed : Array Bool) (st : St) (β : Nat -> Value) (a : Act) (w : World), q <= j -> j <= ops.size -> listed.size = ops.size -> (∀ i, listed.getD i false = true ↔ i < j) -> qwg listed ops.size <= fuel -> Rel cx F st β a w ->
     qE cx (Phi P cx) ops Q (ops.toList.drop j) (as.drop j) st -> wpAny P .any ops (QC cx F Q) fuel listed a w := by
 intro fuel
 induction fuel with
 | zero =>
  intro j listed st β a w hqj hjn hsz hl hf h hw;have hj : j = ops.size := by
   rcases Nat.lt_or_ge j ops.size with hlt | hge
   .have := qRp hlt ((qqe hsz hlt).2 fun hh => by have := (hl j).1 hh; omega)
    omega
   .omega
  subst hj;have hnil : ops.toList.drop ops.size = [] := by simp
  rw [hnil] at hw;simp only [qE] at hw;refine ⟨?_, st, β, hw, h⟩;rw [List.eq_nil_iff_forall_not_mem];intro i hi;obtain ⟨h1, o, ho, _⟩ := mem_ready.1 hi;have hlt := (Array.getElem?_eq_some_iff.1 ho).1;exact (qqe hsz hlt).1 h1 ((hl i).2 hlt)
 | succ fuel ih =>
  intro j listed st β a w hqj hjn hsz hl hf h hw;have only : ∀ i, i ∈ Region.ready .any ops listed -> i = j := by
   intro i hi;obtain ⟨h1, o, ho, hr⟩ := mem_ready.1 hi;have hlt := (Array.getElem?_eq_some_iff.1 ho).1;have hun := (qqe hsz hlt).1 h1;rcases Nat.lt_trichotomy i j with h2 | h2 | h2
   .exact absurd ((hl i).2 h2) hun
   .exact h2
   .have hb := qPe (ops := ops) hD.back (L := fun i => listed.getD i false = true) (fun i o hi ho e he hb => by
        have := hD.back i o ho e he hb;exact (hl e.on).2 (Nat.lt_trans this ((hl i).1 hi))) i o ho hr j (hlast i (by omega) hlt j h2)
    have := (hl j).1 hb;omega
  rcases Nat.lt_or_ge j ops.size with hlt | hge
  .have ho : ops[j]? = some ops[j] := Array.getElem?_eq_getElem hlt
   generalize ops[j] = o at ho;have hjr : j ∈ Region.ready .any ops listed := mem_ready.2 ⟨(qqe hsz hlt).2 fun hh => by have := (hl j).1 hh; omega, o, ho, fun e he hb => (hl e.on).2 (hD.back j o ho e he hb)⟩;refine ⟨(fun hnil => by rw [hnil] at hjr; cases hjr), fun i hi => ?_⟩;have := only i hi;subst this;have hun := (mem_ready.1 hi).1;have hdrop : ops.toList.drop i = o :: ops.toList.drop (i + 1) := by
    have h1 : i < ops.toList.length := by simpa using hlt
    rw [List.drop_eq_getElem_cons h1];congr 1;have : ops.toList[i]? = some o := by simpa using ho
    rw [List.getElem?_eq_getElem h1] at this;simpa using this
   rw [hdrop] at hw;have hopen : qwg (listed.setIfInBounds i true) ops.size <= fuel := by
    have := qqi hsz hlt hun; omega
   have hl' : ∀ k, (listed.setIfInBounds i true).getD k false = true ↔ k < i + 1 := by
    intro k;rw [qf (by omega), hl k]; omega
   have hdst := hd o (by rw [Array.mem_toList_iff]; exact Array.mem_of_getElem? ho);cases has : as.drop i with
   | nil => rw [has] at hw; exact hw.elim
   | cons x as' =>
    obtain ⟨gs, an⟩ := x;rw [has] at hw;have has' : as.drop (i + 1) = as' := by rw [<- List.drop_drop, has]; rfl
    have hok : qZq F (gs, an) := hAn _ (List.mem_of_mem_drop (by rw [has]; exact List.mem_cons_self ..));simp only [qE] at hw
    split at hw
    .exact hw.elim
    .rename_i st1 hg
     obtain ⟨β1, h1⟩ := qEf gs h hok.1 hg;have run : ∀ (st2 : St), Rel cx F st2 β1 a w -> AM.wpOp cx (Phi P cx) o an st2 (fun v st' => qE cx (Phi P cx) ops Q (ops.toList.drop (i + 1)) as' (st'.put o.dst v)) ->
         o.wp P a w (wpAny P .any ops (QC cx F Q) fuel (listed.setIfInBounds i true)) (QC cx F Q) := by
      intro st2 h2 hw;exact qwf T h2 hok.2 hw fun v st' β' w' u hk hr hv => ih (i + 1) _ _ β' _ w' (by omega) (by omega) (by simp [hsz]) hl' hopen (hr.put hdst hv) (by rw [has']; exact hk)
     have skip : ∀ (st2 : St), Rel cx F st2 β1 a w -> qE cx (Phi P cx) ops Q (ops.toList.drop (i + 1)) as' (st2.put o.dst .undef) ->
         wpAny P .any ops (QC cx F Q) fuel (listed.setIfInBounds i true) (a.put o.dst Go.undef) w := by
      intro st2 h2 hw;exact ih (i + 1) _ _ β1 _ w (by omega) (by omega) (by simp [hsz]) hl' hopen (h2.put hdst (show RepV β1 _ w .undef Go.undef from rfl)) (by rw [has']; exact hw)
     unfold Go.wpOp;simp only [ho]
     split at hw
     .rename_i hgd
      have : Region.wanted o (yielded ops a.tmps) = true := by simp [Region.wanted, hgd]
      rw [if_pos this];exact .inl (run st1 h1 hw)
     .rename_i j' want hgd
      split at hw
      .exact hw.elim
      .rename_i t ht
       have htn : t < F.n := by
        cases hoj : ops[j']? with
        | none => rw [hoj] at ht; cases ht
        | some oj =>
         rw [hoj] at ht;exact hd oj (by rw [Array.mem_toList_iff]; exact Array.mem_of_getElem? hoj) t ht
       split at hw
       .rename_i b hb
        have hy := qIb h1 ht htn hb;have hk1 : ∀ c, c = b -> Rel cx F (st1.put (some t) (.one (.bool c))) β1 a w := by
         rintro c rfl;refine h1.know ?_;have := h1.get t;rw [hb] at this; exact this
        cases want
        .cases b
         .have : Region.wanted o (yielded ops a.tmps) = true := by simp [Region.wanted, hgd, hy]
          rw [if_pos this];exact .inl (run _ (hk1 false rfl) hw)
         .have : ¬ Region.wanted o (yielded ops a.tmps) = true := by simp [Region.wanted, hgd, hy]
          rw [if_neg this];exact skip _ (hk1 true rfl) hw
        .cases b
         .have : ¬ Region.wanted o (yielded ops a.tmps) = true := by simp [Region.wanted, hgd, hy]
          rw [if_neg this];exact skip _ (hk1 false rfl) hw
         .have : Region.wanted o (yielded ops a.tmps) = true := by simp [Region.wanted, hgd, hy]
          rw [if_pos this];exact .inl (run _ (hk1 true rfl) hw)
       .rename_i hb
        have hy := qEd h1 ht htn hb;have : ¬ Region.wanted o (yielded ops a.tmps) = true := by simp [Region.wanted, hgd, hy]
        rw [if_neg this];exact skip _ h1 hw
       .exact hw.elim
  .have hj : j = ops.size := by omega
   have hnil : ops.toList.drop j = [] := by rw [hj]; simp
   rw [hnil] at hw;simp only [qE] at hw;refine ⟨fun _ => ⟨st, β, hw, h⟩, fun i hi => ?_⟩;have := only i hi;obtain ⟨_, o, ho, _⟩ := mem_ready.1 hi;have hlt := (Array.getElem?_eq_some_iff.1 ho).1;omega
theorem qDd {l : List Nat} (h : qHf l = true) {i j k : Nat} (hi : l[i]? = some k) (hj : l[j]? = some k) : i = j := by
 have e1 := qtg (n := 0) h (show nth l i = some k by rw [qpe]; exact hi)
 have e2 := qtg (n := 0) h (show nth l j = some k by rw [qpe]; exact hj)
 rw [e1] at e2; simpa using e2
theorem qPi : ∀ {l m : List Nat}, qdr l m = true -> ∀ x ∈ l, x ∉ m
 | [], m, _, x, hx => by cases hx
 | a :: l, m, h, x, hx => by
  simp only [qdr, Bool.and_eq_true, Bool.not_eq_true'] at h;rcases List.mem_cons.1 hx with rfl | hx
  .exact fun hm => by rw [(qvb x m).2 hm] at h; cases h.1
  .exact qPi h.2 x hx
set_option maxHeartbeats 2000000 in
theorem qau (T : TOk P cx) {ops : Array Oper} {Q : Exit -> St -> Prop} (hD : Drawn ops) (hd : ∀ o ∈ ops.toList, ∀ t, o.dst = some t -> t < F.n) {as : List (List Ghost × Ann)} {p : Nat} {K : List Nat}
    (hp : qbf ops.toList as = p) (hK : qK (ops.toList.drop p) (as.drop p) = K) (htail : qJt ops.toList as = true) (hAn : ∀ p ∈ as, qZq F p) {st0 : St} (hn0 : st0.noK K = true)
    (hw : qE cx (Phi P cx) ops (fun e st' => match e with | .normal => (st'.noK K = true /\ qE cx (Phi P cx) ops Q (ops.toList.drop p) (as.drop p) st') | e => Q e st') (ops.toList.take p) (as.take p) st0) :
    ∀ (β : Nat -> Value) (a : Act) (w : World), Rel cx F st0 β a w -> wpAny P .any ops (QC cx F Q) ops.size (Array.replicate ops.size false) a w := by
 obtain ⟨hp1, hp2, hp3⟩ := qyj ops.toList as
 rw [hp] at hp1 hp2 hp3
 have hsize : ops.toList.length = ops.size := by simp
 unfold qJt at htail
 simp only [hp, hK, Bool.and_eq_true] at htail
 obtain ⟨hlast, hnd, hdisj⟩ := htail
 have hget : ∀ (i : Nat) (o : Oper), ops.toList[i]? = some o ↔ ops[i]? = some o := fun i o => by simp
 obtain ⟨vs, stP0, hT, hnP0, hwR0⟩ := qnh (ops.toList.take p) (as.take p) st0 hp3 hw
 have hapartP : ∀ (i j : Nat) x y t, i ≠ j -> (ops.toList.take p)[i]? = some x -> (ops.toList.take p)[j]? = some y -> x.dst = some t -> y.dst ≠ some t := by
  intro i j x y t hne hx hy;rw [List.getElem?_take] at hx hy
  split at hx
  .split at hy
   .exact hD.apart i j x y t hne ((hget i x).1 hx) ((hget j y).1 hy)
   .cases hy
  .cases hx
 obtain ⟨hvl, hsl, hfacts⟩ := qyh (ops.toList.take p) ((as.take p).map (·.2)) st0 stP0 vs hapartP hT
 have hPl : (ops.toList.take p).length = p := by rw [List.length_take]; omega
 rw [hPl] at hvl hfacts
 have htk : ∀ (i : Nat) (o : Oper), i < p -> ops[i]? = some o -> (ops.toList.take p)[i]? = some o := by
  intro i o hi ho;rw [List.getElem?_take, if_pos hi]; exact (hget i o).2 ho
 have htk' : ∀ (i : Nat) (o : Oper), (ops.toList.take p)[i]? = some o -> i < p /\ ops[i]? = some o := by
  intro i o ho;rw [List.getElem?_take] at ho
  split at ho
  .exact ⟨by assumption, (hget i o).1 ho⟩
  .cases ho
 obtain ⟨stp, p1, p2, p3, _, p5⟩ := hfacts p (Nat.le_refl _)
 have hgetP : ∀ (m : Nat) x u t, m < p -> ops[m]? = some x -> x.dst = some t -> vs[m]? = some u -> stP0.get t = u := by
  intro m x u t hm hx hxd hu;rw [<- p5 rfl t]; exact p3 m x u t hm (htk m x hm hx) hxd hu
 have hgetP0 : ∀ t, (∀ m x, m < p -> ops[m]? = some x -> x.dst ≠ some t) -> stP0.get t = st0.get t := by
  intro t ht;rw [<- p5 rfl t]; exact p2 t fun m x hm hx => ht m x hm (htk' m x hx).2
 have hvK : ∀ (m : Nat) x u t, m < p -> ops[m]? = some x -> x.dst = some t -> vs[m]? = some u -> u.noK K = true := by
  intro m x u t hm hx hxd hu;rw [<- hgetP m x u t hm hx hxd hu]; exact St.noK_get hnP0 t
 have hRget : ∀ (i : Nat) (o : Oper), (ops.toList.drop p)[i]? = some o ↔ ops[p + i]? = some o := fun i o => by rw [List.getElem?_drop]; exact hget _ _
 obtain ⟨ss, stA, hssl, hKR, hKas, hAl, hMade, hwS⟩ := qPk T (ops.toList.drop p) (as.drop p) stP0 (by rw [hK]; exact hnd)
  (fun i j x y t hne hx hy => hD.apart (p + i) (p + j) x y t (by omega) ((hRget i x).1 hx) ((hRget j y).1 hy))
  (fun t => by rw [hK]; exact St.noK_get hnP0 t) (fun k s hk => by rw [hK]; exact St.noK_slot hnP0 hk) hwR0
 rw [hK] at hssl hKR hKas hAl hMade hwS
 rw [List.drop_drop, List.drop_drop] at hwS
 have hqn : p + K.length <= ops.size := by
  rw [List.length_drop] at hKR; omega
 have hlast' : ∀ j, p + K.length <= j -> j < ops.size -> ∀ i, i < j -> i ∈ (qxd ops.toList []).getD j [] := by
  intro j hj1 hj2 i hi;unfold qrt at hlast;have hl := (qIf ops.toList []).1;simp only [List.length_nil, Nat.zero_add] at hl;have h1 := List.all_eq_true.1 hlast j (List.mem_range.2 (by rw [hl]; omega));simp only [Bool.or_eq_true] at h1;rcases h1 with h1 | h1
  .have := qmq h1; omega
  .exact (qvb i _).1 (List.all_eq_true.1 h1 i (List.mem_range.2 hi))
 have hAdst : ∀ (i : Nat) o t, i < K.length -> ops[p + i]? = some o -> ((((ops.toList.drop p).take K.length).map (·.dst))[i]? = some (some t) ↔ o.dst = some t) := by
  intro i o t hi ho;rw [List.getElem?_map, List.getElem?_take, if_pos hi, (hRget i o).2 ho];simp
 have hAslot : ∀ k s, stA.slot k = some s -> k ∈ K -> ∃ i : Nat, K[i]? = some k /\ ss[i]? = some s := by
  intro k s hs hk;obtain ⟨i, hi⟩ := List.mem_iff_getElem?.1 hk;have hlt := (List.getElem?_eq_some_iff.1 hi).1;have hi2 : ss[i]? = some ss[i] := List.getElem?_eq_getElem (by omega);have := hMade.news i k _ hi hi2;rw [hs] at this;simp only [Option.some.injEq] at this;exact ⟨i, hi, by rw [hi2, this]⟩
 have fin : ∀ (fuel : Nat) (listed : Array Bool) (st : St) (β : Nat -> Value) (a : Act) (w : World), qwg listed ops.size <= fuel -> InvT ops p K ss vs st0 listed st -> Rel cx F st β a w ->
     (∀ i, i < p + K.length -> listed.getD i false = true) -> wpAny P .any ops (QC cx F Q) fuel listed a w := by
  intro fuel listed st β a w hf I h hallq;have hl : ∀ i, listed.getD i false = true ↔ i < p + K.length := fun i => ⟨I.low i, hallq i⟩
  have hnot : ∀ t (m : Nat) x, (ops[m]? = some x -> x.dst = some t -> ∀ i, p + i ≠ m -> (((ops.toList.drop p).take K.length).map (·.dst))[i]? ≠ some (some t)) := by
   intro t m x hx hxd i hne hi;rw [List.getElem?_map] at hi;obtain ⟨y, hy, hyd⟩ := Option.map_eq_some_iff.1 hi;rw [List.getElem?_take] at hy
   split at hy
   .exact hD.apart m (p + i) x y t (fun e => hne e.symm) hx ((hRget i y).1 hy) hxd hyd
   .cases hy
  have hgetA : ∀ t, stA.get t = st.get t := by
   intro t
   by_cases hex : ∃ (m : Nat) (x : Oper), m < p + K.length /\ ops[m]? = some x /\ x.dst = some t
   .obtain ⟨m, x, hm, hx, hxd⟩ := hex
    rcases Nat.lt_or_ge m p with h1 | h1
    .have hu : vs[m]? = some vs[m] := List.getElem?_eq_getElem (by omega)
     rw [hMade.old t (fun i => hnot t m x hx hxd i (by omega)), hgetP m x _ t h1 hx hxd hu, I.gotP m x t _ (hallq m hm) hx hxd hu]
    .obtain ⟨i, rfl⟩ : ∃ i, m = p + i := ⟨m - p, by omega⟩
     have hk : K[i]? = some K[i] := List.getElem?_eq_getElem (by omega);rw [hMade.new i t _ ((hAdst i x t (by omega) hx).2 hxd) hk, I.gotA i x t _ (hallq _ hm) hx hxd hk]
   .rw [hMade.old t ?_, hgetP0 t (fun m x hm hx hxd => hex ⟨m, x, by omega, hx, hxd⟩), I.rest t (fun m x hm hx hxd => hex ⟨m, x, I.low m hm, hx, hxd⟩)]
    intro i hi;rw [List.getElem?_map] at hi;obtain ⟨y, hy, hyd⟩ := Option.map_eq_some_iff.1 hi;rw [List.getElem?_take] at hy
    split at hy
    .exact hex ⟨p + i, y, by omega, (hRget i y).1 hy, hyd⟩
    .cases hy
  have hslotA : ∀ k, stA.slot k = st.slot k := by
   intro k
   by_cases hk : k ∈ K
   .obtain ⟨i, hi⟩ := List.mem_iff_getElem?.1 hk
    have hlt := (List.getElem?_eq_some_iff.1 hi).1;have hi2 : ss[i]? = some ss[i] := List.getElem?_eq_getElem (by omega);rw [hMade.news i k _ hi hi2, I.slotA i k _ (hallq _ (by omega)) hi hi2]
   .rw [hMade.olds k hk, qlg hsl k, I.slotR k fun i _ hi => hk (List.mem_of_getElem? hi)]
  exact qOx T hD hd hlast' hAn fuel (p + K.length) listed stA β a w (Nat.le_refl _) hqn I.size hl hf (h.ext hgetA hslotA) hwS
 suffices main : ∀ (fuel : Nat) (listed : Array Bool) (st : St) (β : Nat -> Value) (a : Act) (w : World), qwg listed ops.size <= fuel -> InvT ops p K ss vs st0 listed st -> Rel cx F st β a w ->
     wpAny P .any ops (QC cx F Q) fuel listed a w by
  intro β a w h;have hno : ∀ i, ¬(Array.replicate ops.size false).getD i false = true := by
   intro i hi
   by_cases hlt : i < ops.size <;> simp [hlt] at hi
  refine main ops.size _ st0 β a w ?_ ?_ h
  .unfold qwg
   refine Nat.le_trans (List.length_filter_le _ _) ?_;simp
  .exact ⟨by simp, fun i hi => absurd hi (hno i), fun i o hi => absurd hi (hno i), fun i o t v hi => absurd hi (hno i), fun i o t k hi => absurd hi (hno _), fun _ _ => rfl, fun i k s hi => absurd hi (hno _), fun _ _ => rfl⟩
 intro fuel
 induction fuel with
 | zero =>
  intro listed st β a w hf I h;have hall : ∀ i, i < ops.size -> listed.getD i false = true := by
   intro i hi;cases hl : listed.getD i true
   .have := qRp hi hl; omega
   .have : i < listed.size := by rw [I.size]; exact hi
    simpa [this] using hl
  have hq : p + K.length = ops.size := by
   rcases Nat.lt_or_ge (p + K.length) ops.size with hlt | hge
   .have := I.low _ (hall _ hlt); omega
   .omega
  exact fin 0 listed st β a w hf I h (fun i hi => hall i (by omega))
 | succ fuel ih =>
  intro listed st β a w hf I h
  by_cases hallq : ∀ i, i < p + K.length -> listed.getD i false = true
  .exact fin (fuel + 1) listed st β a w hf I h hallq
  refine ⟨fun hr => absurd (fun i hi => qEi hD I.size hr i (by omega)) hallq, fun i hi => ?_⟩;obtain ⟨hun, o, ho, hready⟩ := mem_ready.1 hi;have hlt := (Array.getElem?_eq_some_iff.1 ho).1;have hunf := (qqe I.size hlt).1 hun;have hiq : i < p + K.length := by
   rcases Nat.lt_or_ge i (p + K.length) with h1 | h1
   .exact h1
   .refine absurd (fun k hk => ?_) hallq
    exact qPe (ops := ops) hD.back (L := fun i => listed.getD i false = true) I.closed i o ho hready k (hlast' i h1 hlt k (by omega))
  have hopen : qwg (listed.setIfInBounds i true) ops.size <= fuel := by
   have := qqi I.size hlt hun; omega
  have hlti : i < listed.size := by rw [I.size]; exact hlt
  have hdst := hd o (by rw [Array.mem_toList_iff]; exact Array.mem_of_getElem? ho);have closed' : ∀ (k : Nat) x, (listed.setIfInBounds i true).getD k false = true -> ops[k]? = some x -> ∀ e ∈ x.after, Region.binds .any e = true -> (listed.setIfInBounds i true).getD e.on false = true := by
   intro k x hk hx e he hb;rw [qf hlti] at hk ⊢;rcases hk with rfl | hk
   .rw [ho] at hx; simp only [Option.some.injEq] at hx; subst hx
    exact .inr (hready e he hb)
   .exact .inr (I.closed k x hk hx e he hb)
  have low' : ∀ k, (listed.setIfInBounds i true).getD k false = true -> k < p + K.length := by
   intro k hk;rw [qf hlti] at hk;rcases hk with rfl | hk
   .exact hiq
   .exact I.low k hk
  unfold Go.wpOp;simp only [ho];rcases Nat.lt_or_ge i p with hip | hip
  . -- a plain operation
   have hv : vs[i]? = some vs[i] := List.getElem?_eq_getElem (by omega);generalize vs[i] = v at hv;obtain ⟨stk, e1, e2, e3, e4, _⟩ := hfacts i (Nat.le_of_lt hip);obtain ⟨an, han, hpl, hstep⟩ := e4 o v (htk i o hip ho) hv;have hread : ∀ t ∈ qOd ops o, stk.get t = st.get t /\ (stk.get t).noK K = true := by
    intro t ht
    by_cases hex : ∃ (m : Nat) (x : Oper), ops[m]? = some x /\ x.dst = some t
    .obtain ⟨m, x, hx, hxd⟩ := hex
     have only : ∀ m' x', ops[m']? = some x' -> x'.dst = some t -> m' = m := fun m' x' hx' hd' => by
      refine Decidable.byContradiction fun hne => ?_
      exact hD.apart m' m x' x t hne hx' hx hd' hxd
     have h2 : m < i ∨ i <= m := Nat.lt_or_ge m i;rcases h2 with hlt' | hge'
     .have hu : vs[m]? = some vs[m] := List.getElem?_eq_getElem (by omega)
      obtain ⟨e, he, hb, hon⟩ := hD.after1 m i x o t hlt' hx ho hxd ht;have hl := hready e he hb;rw [hon] at hl;have h3 := e3 m x _ t hlt' (htk m x (by omega) hx) hxd hu;exact ⟨by rw [h3, I.gotP m x t _ hl hx hxd hu], by rw [h3]; exact hvK m x _ t (by omega) hx hxd hu⟩
     .have h3 := e2 t fun m' x' hm' hx' hd' => by have := only m' x' (htk' m' x' hx').2 hd'; omega
      have h4 := I.rest t fun m' x' hl hx' hd' => by
       have := only m' x' hx' hd';subst this;rcases Nat.eq_or_lt_of_le hge' with heq | hgt
       .subst heq; exact hunf hl
       .obtain ⟨e, he, hb, hon⟩ := hD.after2 i m' o x' t hgt ho hx' hd' ht
        have := I.closed _ x' hl hx' e he hb;rw [hon] at this;exact hunf this
      exact ⟨by rw [h3, h4], by rw [h3]; exact St.noK_get hn0 t⟩
    .have h3 := e2 t fun m x _ hx hxd => hex ⟨m, x, (htk' m x hx).2, hxd⟩
     have h4 := I.rest t fun m x _ hx hxd => hex ⟨m, x, hx, hxd⟩
     exact ⟨by rw [h3, h4], by rw [h3]; exact St.noK_get hn0 t⟩
   have hlike : Like K stk st := by
    intro k hk;rw [qlg e1 k, I.slotR k fun i _ hi => hk (List.mem_of_getElem? hi)]
   have hstep' := hstep.like (K := K) hpl (fun t ht => (hread t ht).1) (fun t ht => (hread t ht).2) hlike;have I' : InvT ops p K ss vs st0 (listed.setIfInBounds i true) (st.put o.dst v) := by
    refine ⟨by simp [I.size], low', closed', ?_, ?_, ?_, ?_, ?_⟩
    .intro m x t u hm hx hxd hu
     rw [qf hlti] at hm;rw [qU]
     by_cases hmi : m = i
     .subst hmi
      rw [ho] at hx; simp only [Option.some.injEq] at hx; subst hx;rw [hv] at hu; simp only [Option.some.injEq] at hu; subst hu;rw [if_pos hxd]
     .rw [if_neg (hD.apart m i x o t hmi hx ho hxd)]
      exact I.gotP m x t u (hm.resolve_left hmi) hx hxd hu
    .intro m x t k hm hx hxd hk
     rw [qf hlti] at hm;have hmi : p + m ≠ i := by omega
     rw [qU, if_neg (hD.apart (p + m) i x o t hmi hx ho hxd)];exact I.gotA m x t k (hm.resolve_left hmi) hx hxd hk
    .intro t ht
     rw [qU, if_neg (ht i o (by rw [qf hlti]; exact .inl rfl) ho)];exact I.rest t fun m x hm hx => ht m x (by rw [qf hlti]; exact .inr hm) hx
    .intro m k s hm hk hs
     rw [qf hlti] at hm;rw [qzd];exact I.slotA m k s (hm.resolve_left (by omega)) hk hs
    .intro k hk
     rw [qzd];exact I.slotR k fun m hm => hk m (by rw [qf hlti]; exact .inr hm)
   have hfix : qef F an := by
    have h5 := List.mem_of_getElem? han;obtain ⟨q, hq, rfl⟩ := List.mem_map.1 h5;exact (hAn q (List.mem_of_mem_take hq)).2
   have run : Run cx (Phi P cx) o an st v -> o.wp P a w (wpAny P .any ops (QC cx F Q) fuel (listed.setIfInBounds i true)) (QC cx F Q) := by
    intro hrun;refine qwf T h hfix hrun ?_;rintro v' st' β' w' u ⟨rfl, rfl⟩ hr hu;exact ih _ _ β' _ w' hopen I' (hr.put hdst hu)
   unfold qnc at hstep'
   split at hstep'
   .rename_i hg
    have hw : Region.wanted o (yielded ops a.tmps) = true := by simp [Region.wanted, hg]
    rw [if_pos hw];exact .inl (run hstep')
   .rename_i j want hg
    obtain ⟨t, ht, hc⟩ := hstep';have htn : t < F.n := by
     cases hoj : ops[j]? with
     | none => rw [hoj] at ht; cases ht
     | some oj =>
      rw [hoj] at ht;exact hd oj (by rw [Array.mem_toList_iff]; exact Array.mem_of_getElem? hoj) t ht
    rcases hc with ⟨hb, hrun⟩ | ⟨rfl, hb | hb⟩
    .have hy := qIb h ht htn hb
     have hw : Region.wanted o (yielded ops a.tmps) = true := by simp [Region.wanted, hg, hy]
     rw [if_pos hw];exact .inl (run hrun)
    .have hy := qIb h ht htn hb
     have hw : ¬ Region.wanted o (yielded ops a.tmps) = true := by simp [Region.wanted, hg, hy]
     rw [if_neg hw];exact ih _ _ β _ w hopen I' (h.put hdst (show RepV β _ w .undef Go.undef from rfl))
    .have hy := qEd h ht htn hb
     have hw : ¬ Region.wanted o (yielded ops a.tmps) = true := by simp [Region.wanted, hg, hy]
     rw [if_neg hw];exact ih _ _ β _ w hopen I' (h.put hdst (show RepV β _ w .undef Go.undef from rfl))
  . -- a new box
   obtain ⟨i', rfl⟩ : ∃ i', i = p + i' := ⟨i - p, by omega⟩;have hk : K[i']? = some K[i'] := List.getElem?_eq_getElem (by omega);generalize K[i'] = k at hk;have hs : ss[i']? = some ss[i'] := List.getElem?_eq_getElem (by omega);generalize ss[i'] = s at hs;obtain ⟨o', x, ho', hx, hA⟩ := hAl i' k s hk hs;rw [hRget, ho] at ho';simp only [Option.some.injEq] at ho'; subst ho';have hkm : ∀ j, j ∈ [k] -> j ∈ K := fun j hj => by simp at hj; subst hj; exact List.mem_of_getElem? hk
   have hK1 : ∀ t, (st.get t).noK [k] = true := by
    intro t
    by_cases hex : ∃ (m : Nat) (y : Oper), listed.getD m false = true /\ ops[m]? = some y /\ y.dst = some t
    .obtain ⟨m, y, hm, hy, hyd⟩ := hex
     rcases Nat.lt_or_ge m p with h1 | h1
     .have hu : vs[m]? = some vs[m] := List.getElem?_eq_getElem (by omega)
      rw [I.gotP m y t _ hm hy hyd hu];exact V.noK_sub hkm (hvK m y _ t h1 hy hyd hu)
     .obtain ⟨m', rfl⟩ : ∃ m', m = p + m' := ⟨m - p, by omega⟩
      have hmq := I.low _ hm;have hk2 : K[m']? = some K[m'] := List.getElem?_eq_getElem (by omega);rw [I.gotA m' y t _ hm hy hyd hk2];have hne : K[m'] ≠ k := fun e => by
       rw [e] at hk2;have := qDd hnd hk2 hk;subst this;exact hunf hm
      simp only [V.noK, C.noK, Bool.not_eq_true'];cases hmm : mem K[m'] [k]
      .rfl
      .have := (qvb _ _).1 hmm
       simp at this;exact absurd this hne
    .rw [I.rest t fun m y hm hy hyd => hex ⟨m, y, hm, hy, hyd⟩]
     exact V.noK_sub hkm (St.noK_get hn0 t)
   have hK2 : ∀ j s', st.slot j = some s' -> s'.noK [k] = true := by
    intro j s' hj
    by_cases hex : ∃ m : Nat, listed.getD (p + m) false = true /\ K[m]? = some j
    .obtain ⟨m, hm, hmk⟩ := hex
     have hlt2 := (List.getElem?_eq_some_iff.1 hmk).1;have hs2 : ss[m]? = some ss[m] := List.getElem?_eq_getElem (by omega);rw [I.slotA m j _ hm hmk hs2] at hj;simp only [Option.some.injEq] at hj; subst hj;obtain ⟨_, _, _, _, hA2⟩ := hAl m j _ hmk hs2;exact hA2.2.2.1 _
    .rw [I.slotR j fun m hm hmk => hex ⟨m, hm, hmk⟩] at hj
     exact Slot.noK_sub hkm (St.noK_slot hn0 hj).1
   have hng := qls (st := st) (k := k) (s := s) hK1;have hns := qKp (st := st) (k := k) (s := s) hK2;have I' : InvT ops p K ss vs st0 (listed.setIfInBounds (p + i') true) ((st.new k s).put o.dst (.one (.ref k 0))) := by
    refine ⟨by simp [I.size], low', closed', ?_, ?_, ?_, ?_, ?_⟩
    .intro m y t u hm hy hyd hu
     rw [qf hlti] at hm;have hmp : m < p := by have := (List.getElem?_eq_some_iff.1 hu).1; omega
     have hmi : m ≠ p + i' := by omega
     rw [qU, if_neg (hD.apart m (p + i') y o t hmi hy ho hyd), hng];exact I.gotP m y t u (hm.resolve_left hmi) hy hyd hu
    .intro m y t k2 hm hy hyd hk2
     rw [qf hlti] at hm;rw [qU]
     by_cases hmi : p + m = p + i'
     .have : m = i' := by omega
      subst this;rw [ho] at hy; simp only [Option.some.injEq] at hy; subst hy;rw [hk] at hk2; simp only [Option.some.injEq] at hk2; subst hk2;rw [if_pos hyd]
     .rw [if_neg (hD.apart (p + m) (p + i') y o t hmi hy ho hyd), hng]
      exact I.gotA m y t k2 (hm.resolve_left hmi) hy hyd hk2
    .intro t ht
     rw [qU, if_neg (ht (p + i') o (by rw [qf hlti]; exact .inl rfl) ho), hng];exact I.rest t fun m y hm hy => ht m y (by rw [qf hlti]; exact .inr hm) hy
    .intro m k2 s2 hm hk2 hs2
     rw [qf hlti] at hm;rw [qzd, hns]
     by_cases hmi : m = i'
     .subst hmi
      rw [hk] at hk2; simp only [Option.some.injEq] at hk2; subst hk2;rw [hs] at hs2; simp only [Option.some.injEq] at hs2; subst hs2;rw [if_pos rfl]
     .have hne : k2 ≠ k := fun e => by
       rw [e] at hk2;exact hmi (qDd hnd hk2 hk)
      rw [if_neg hne];exact I.slotA m k2 s2 (hm.resolve_left (by omega)) hk2 hs2
    .intro k2 hk2
     have hne : k2 ≠ k := fun e => by
      subst e;exact hk2 i' (by rw [qf hlti]; exact .inl rfl) hk
     rw [qzd, hns, if_neg hne];exact I.slotR k2 fun m hm => hk2 m (by rw [qf hlti]; exact .inr hm)
   have hfix : qef F x.2 := (hAn x (List.mem_of_mem_drop (List.mem_of_getElem? hx))).2;have hwd : Region.wanted o (yielded ops a.tmps) = true := by simp [Region.wanted, hA.1]
   rw [if_pos hwd];refine .inl (qwf T h hfix (hA.wp (Φ := Phi P cx) st (κ := fun v st' => v = .one (.ref k 0) /\ st' = st.new k s) ⟨rfl, rfl⟩) ?_);rintro v' st' β' w' u ⟨rfl, rfl⟩ hr hu;exact ih _ _ β' _ w' hopen I' (hr.put hdst hu)
end
end Go.AM
set_option linter.unusedSimpArgs false
set_option linter.unusedVariables false
namespace Go.AM
open Go
section
variable {P : Program} {cx : Cx} {F : Fm} {st : St} {β : Nat -> Value} {a : Act} {w : World} {o : Oper}
theorem qJq {K : List Nat} : ∀ (cs : List C) (n : Nat) (vs : List C), cs.all (C.noK K) = true -> vs.all (C.noK K) = true -> (putAt cs n vs).all (C.noK K) = true
 | cs, 0, vs, h1, h2 => by
  simp only [putAt, List.all_append, Bool.and_eq_true];refine ⟨h2, ?_⟩;rw [List.all_eq_true] at h1 ⊢;exact fun c hc => h1 c (List.mem_of_mem_drop hc)
 | [], n + 1, vs, _, _ => rfl
 | c :: cs, n + 1, vs, h1, h2 => by
  simp only [List.all_cons, Bool.and_eq_true] at h1;simp only [putAt, List.all_cons, Bool.and_eq_true];exact ⟨h1.1, qJq cs n vs h1.2 h2⟩
def qDt (cx : Cx) (o : Oper) (r k : Nat) (s s' : Slot) (x : Operand) (vx : V) : Prop :=
 o.guard = none /\ o.dst = none /\ (∀ c, o.op ≠ .call c) /\ (∃ t, o.op = .store t (.tmp r) x) /\
  (∀ st : St, st.get r = .one (.ref k 0) -> st.eval cx x = vx -> st.slot k = some s -> evI cx o.op .no st = ok (st.set k s') .undef) /\
  (∀ K, s.noK K = true -> vx.noK K = true -> s'.noK K = true)
theorem qIv {Φ : Con} {as : List Ghost × Ann} {r k : Nat} {s : Slot} {κ : V -> St -> Prop} (hi : qmr o as = some r) (hr : st.get r = .one (.ref k 0)) (hs : st.slot k = some s) (h : wpOp cx Φ o as.2 st κ) :
    as.1 = [] /\ as.2 = .no /\ ∃ s' x, qDt cx o r k s s' x (st.eval cx x) /\ κ .undef (st.set k s') := by
 unfold qmr at hi
 split at hi
 .rename_i t r' x h1 h2 h3 h4 h5
  simp only [Option.some.injEq] at hi;subst hi;refine ⟨h1, h3, ?_⟩;unfold AM.wpOp at h;rw [h2] at h;simp only [] at h;have hev : st.eval cx (.tmp r') = .one (.ref k 0) := hr;simp only [evI, hev, hs] at h;generalize hvx : st.eval cx x = vx at h;cases hcs : vx.cells? with
  | none => rw [hcs] at h; exact h.elim
  | some vs =>
   rw [hcs] at h;have hnv : ∀ K, vx.noK K = true -> vs.all (C.noK K) = true := by
    intro K hK;cases vx <;> simp [V.cells?] at hcs
    .subst hcs; simpa [V.noK] using hK
    .subst hcs; simpa [V.noK] using hK
   cases hk : ((cx.T t).d.known && (Nat.ble 1 (cx.T t).size && len? vs (cx.T t).size)) with
   | false => simp only [hk] at h; exact h.elim
   | true =>
    simp only [hk, cond_true] at h;have mk : ∀ s', (∀ st : St, st.get r' = .one (.ref k 0) -> st.eval cx x = vx -> st.slot k = some s -> evI cx o.op .no st = ok (st.set k s') .undef) -> (∀ K, s.noK K = true -> vx.noK K = true -> s'.noK K = true) ->
        κ .undef (st.set k s') -> ∃ s' x, qDt cx o r' k s s' x (st.eval cx x) /\ κ .undef (st.set k s') := by
     intro s' g1 g2 g3;exact ⟨s', x, ⟨h4, h5, fun c hc => (by rw [h2] at hc; cases hc), ⟨t, h2⟩, by rw [hvx]; exact g1, by rw [hvx]; exact g2⟩, g3⟩
    have base : ∀ st : St, st.get r' = .one (.ref k 0) -> st.eval cx x = vx -> st.eval cx (.tmp r') = .one (.ref k 0) := fun st h _ => h
    cases s with
    | box cs =>
     simp only [] at h;cases hl : len? (cut cs 0 (cx.T t).size) (cx.T t).size with
     | false => simp only [hl] at h; exact h.elim
     | true =>
      simp only [hl, cond_true] at h;refine mk (.box (putAt cs 0 vs)) ?_ ?_ h
      .intro st' g1 g2 g3
       rw [h2];simp only [evI, base st' g1 g2, g2, hcs, hk, cond_true, g3, hl]
      .intro K g1 g2; exact qJq cs 0 vs g1 (hnv K g2)
    | tb ty z =>
     simp only [] at h;cases hz : qSu ty z 0 vs with
     | none => simp only [hz] at h; exact h.elim
     | some y =>
      simp only [hz] at h;refine mk (.tb ty y) ?_ (fun _ _ _ => rfl) h;intro st' g1 g2 g3;rw [h2];simp only [evI, base st' g1 g2, g2, hcs, hk, cond_true, g3, hz]
    | bd bt c => simp only [Nat.beq] at h; exact h.elim
    | mp k v ag es => exact h.elim
    | lst fx e xs => exact h.elim
    | brow T xs => exact h.elim
 .cases hi
theorem qZo : ∀ (os : List Oper) (as : List (List Ghost × Ann)), (qcf os as).length <= os.length
 | [], as => by simp [qcf]
 | o :: os, [] => by simp [qcf]
 | o :: os, x :: as => by
  simp only [qcf]
  split
  .simpa using qZo os as
  .simp
theorem qjp {Φ : Con} {ops : Array Oper} {Q : Exit -> St -> Prop} : ∀ (os : List Oper) (as : List (List Ghost × Ann)) (st : St) (Ks : List Nat), Ks.length = (qcf os as).length ->
    (∀ (i j k : Nat), Ks[i]? = some k -> Ks[j]? = some k -> i = j) ->
    (∀ (m r k : Nat), (qcf os as)[m]? = some r -> Ks[m]? = some k -> st.get r = .one (.ref k 0) /\ ∃ s, st.slot k = some s) -> qE cx Φ ops Q os as st ->
    ∃ (sts : List Slot) (st' : St), sts.length = Ks.length /\ (∀ t, st'.get t = st.get t) /\ (∀ k, k ∉ Ks -> st'.slot k = st.slot k) /\
     (∀ (m k : Nat) s', Ks[m]? = some k -> sts[m]? = some s' -> st'.slot k = some s') /\
     (∀ (m r k : Nat) s s', (qcf os as)[m]? = some r -> Ks[m]? = some k -> sts[m]? = some s' -> st.slot k = some s -> ∃ o x, os[m]? = some o /\ as[m]? = some ([], .no) /\ qDt cx o r k s s' x (st.eval cx x)) /\
     qE cx Φ ops Q (os.drop (qcf os as).length) (as.drop (qcf os as).length) st'
 | [], as, st, Ks, hl, _, _, h => by
  have : qcf [] as = [] := by cases as <;> rfl
  rw [this] at hl ⊢;exact ⟨[], st, by simpa using hl.symm, fun _ => rfl, fun _ _ => rfl, fun m k s' _ h => by simp at h, fun m r k s s' h => by simp at h, h⟩
 | o :: os, [], st, Ks, hl, _, _, h => h.elim
 | o :: os, x :: as, st, Ks, hl, hn, hg, h => by
  cases hi : qmr o x with
  | none =>
   have : qcf (o :: os) (x :: as) = [] := by simp [qcf, hi]
   rw [this] at hl ⊢;exact ⟨[], st, by simpa using hl.symm, fun _ => rfl, fun _ _ => rfl, fun m k s' _ h => by simp at h, fun m r k s s' h => by simp at h, h⟩
  | some r =>
   have hR : qcf (o :: os) (x :: as) = r :: qcf os as := by simp [qcf, hi]
   rw [hR] at hl hg ⊢;cases Ks with
   | nil => simp at hl
   | cons k Ks =>
    simp only [List.length_cons, Nat.add_right_cancel_iff] at hl;obtain ⟨hr, s, hs⟩ := hg 0 r k rfl rfl;have hgd : o.guard = none /\ o.dst = none /\ x.1 = [] := by
     unfold qmr at hi
     split at hi
     .rename_i h1 _ _ h4 h5; exact ⟨h4, h5, h1⟩
     .cases hi
    simp only [qE, hgd.2.2, que, hgd.1] at h;obtain ⟨_, hno, s', xx, hS, hk⟩ := qIv hi hr hs h;have hput : ((st.set k s').put o.dst .undef) = st.set k s' := by rw [hgd.2.1]; rfl
    rw [hput] at hk;have hkn : k ∉ Ks := fun hm => by
     obtain ⟨j, hj⟩ := List.mem_iff_getElem?.1 hm;have := hn 0 (j + 1) k rfl (by simpa using hj);omega
    obtain ⟨sts, st', g1, g2, g3, g4, g5, g6⟩ := qjp os as (st.set k s') Ks hl
     (fun i j k' h1 h2 => by have := hn (i + 1) (j + 1) k' (by simpa using h1) (by simpa using h2); omega)
     (fun m r' k' h1 h2 => by
      obtain ⟨e1, s2, e2⟩ := hg (m + 1) r' k' (by simpa using h1) (by simpa using h2);have hne : k' ≠ k := fun e => by
       subst e;have := hn 0 (m + 1) k' rfl (by simpa using h2);omega
      exact ⟨e1, s2, by rw [St.slot_set, if_neg hne]; exact e2⟩) hk
    refine ⟨s' :: sts, st', by simp [g1], g2, ?_, ?_, ?_, ?_⟩
    .intro k' hk'
     rw [g3 k' (fun hm => hk' (List.mem_cons_of_mem _ hm)), St.slot_set, if_neg (fun e => hk' (by rw [e]; exact List.mem_cons_self ..))]
    .intro m k' s2 h1 h2
     cases m with
     | zero =>
      simp at h1 h2; subst h1; subst h2;rw [g3 k hkn, St.slot_set, if_pos rfl]
     | succ m => exact g4 m k' s2 (by simpa using h1) (by simpa using h2)
    .intro m r' k' s2 s3 h1 h2 h3 h4
     cases m with
     | zero =>
      simp at h1 h2 h3; subst h1; subst h2; subst h3;rw [hs] at h4; simp only [Option.some.injEq] at h4; subst h4;refine ⟨o, xx, rfl, ?_, hS⟩;obtain ⟨x1, x2⟩ := x;simp only at hgd hno;rw [hgd.2.2, hno]; rfl
     | succ m =>
      have h2' : Ks[m]? = some k' := by simpa using h2
      have hne : k' ≠ k := fun e => by
       subst e;have := hn 0 (m + 1) k' rfl h2;omega
      obtain ⟨o2, x2, e1, e2, e3⟩ := g5 m r' k' s2 s3 (by simpa using h1) h2' (by simpa using h3) (by rw [St.slot_set, if_neg hne]; exact h4);refine ⟨o2, x2, by simpa using e1, by simpa using e2, ?_⟩;have : (st.set k s').eval cx x2 = st.eval cx x2 := by cases x2 <;> rfl
      rw [this] at e3; exact e3
    .simpa using g6
structure InvS (ops : Array Oper) (p : Nat) (K : List Nat) (ss : List Slot) (is : List Nat) (sts : List Slot) (vs : List V) (st0 : St) (listed : Array Bool) (st : St) : Prop where
 size : listed.size = ops.size
 low : ∀ i, listed.getD i false = true -> i < p + K.length + is.length
 closed : ∀ (i : Nat) o, listed.getD i false = true -> ops[i]? = some o -> ∀ e ∈ o.after, Region.binds .any e = true -> listed.getD e.on false = true
 gotP : ∀ (i : Nat) o t v, listed.getD i false = true -> ops[i]? = some o -> o.dst = some t -> vs[i]? = some v -> st.get t = v
 gotA : ∀ (i : Nat) o t k, listed.getD (p + i) false = true -> ops[p + i]? = some o -> o.dst = some t -> K[i]? = some k -> st.get t = .one (.ref k 0)
 rest : ∀ t, (∀ (i : Nat) o, listed.getD i false = true -> ops[i]? = some o -> o.dst ≠ some t) -> st.get t = st0.get t
 slotA : ∀ (i : Nat) k s, listed.getD (p + i) false = true -> K[i]? = some k -> ss[i]? = some s -> (∀ m : Nat, is[m]? = some i -> ¬listed.getD (p + K.length + m) false = true) -> st.slot k = some s
 slotS : ∀ (m i : Nat) k s, is[m]? = some i -> K[i]? = some k -> sts[m]? = some s -> listed.getD (p + K.length + m) false = true -> st.slot k = some s
 slotR : ∀ k, (∀ i : Nat, listed.getD (p + i) false = true -> K[i]? ≠ some k) -> st.slot k = st0.slot k
theorem qLx {α : Type} (R : Nat -> α -> Prop) (n : Nat) (h : ∀ i, i < n -> ∃ a, R i a) : ∃ l : List α, l.length = n /\ ∀ i a, l[i]? = some a -> R i a := by
 induction n with
 | zero => exact ⟨[], rfl, fun i a h => by simp at h⟩
 | succ n ih =>
  obtain ⟨l, hl, hr⟩ := ih (fun i hi => h i (by omega));obtain ⟨a, ha⟩ := h n (by omega);refine ⟨l ++ [a], by simp [hl], fun i b hb => ?_⟩
  by_cases hi : i < n
  .rw [List.getElem?_append_left (by omega)] at hb; exact hr i b hb
  .have hin : i = n := by
    have := (List.getElem?_eq_some_iff.1 hb).1;simp at this; omega
   subst hin;rw [List.getElem?_append_right (by omega), hl] at hb;simp at hb;subst hb; exact ha
theorem qQk : ∀ {l : List Oper} {t : Nat}, t ∈ qsd l -> ∃ (i : Nat) (o : Oper), l[i]? = some o /\ o.dst = some t
 | [], t, h => by simp [qsd] at h
 | o :: l, t, h => by
  simp only [qsd] at h
  split at h
  .rename_i u hu
   rcases List.mem_cons.1 h with rfl | h
   .exact ⟨0, o, rfl, hu⟩
   .obtain ⟨i, x, h1, h2⟩ := qQk h
    exact ⟨i + 1, x, by simpa using h1, h2⟩
  .obtain ⟨i, x, h1, h2⟩ := qQk h
   exact ⟨i + 1, x, by simpa using h1, h2⟩
theorem qep : ∀ {l : List Oper} {i : Nat} {o : Oper} {t : Nat}, l[i]? = some o -> o.dst = some t -> t ∈ qsd l
 | [], i, o, t, h, _ => by simp at h
 | x :: l, 0, o, t, h, hd => by
  simp at h; subst h;simp [qsd, hd]
 | x :: l, i + 1, o, t, h, hd => by
  have := qep (l := l) (i := i) (by simpa using h) hd;simp only [qsd]
  split
  .exact List.mem_cons_of_mem _ this
  .exact this
theorem qwp : ∀ {l : List Oper} {m : Nat} {o : Oper} {t : Nat} {a : Operand} {u : Nat}, l[m]? = some o -> o.op = .store t a (.tmp u) -> u ∈ qzp l
 | [], m, o, t, a, u, h, _ => by simp at h
 | x :: l, 0, o, t, a, u, h, hd => by
  simp at h; subst h;simp [qzp, hd]
 | x :: l, m + 1, o, t, a, u, h, hd => by
  have := qwp (l := l) (m := m) (by simpa using h) hd;simp only [qzp]
  split
  .exact List.mem_cons_of_mem _ this
  .exact this
set_option maxHeartbeats 2000000 in
theorem qps (T : TOk P cx) {ops : Array Oper} {Q : Exit -> St -> Prop} (hD : Drawn ops) (hd : ∀ o ∈ ops.toList, ∀ t, o.dst = some t -> t < F.n) {as : List (List Ghost × Ann)} {p : Nat} {K : List Nat}
    (hp : qbf ops.toList as = p) (hK : qK (ops.toList.drop p) (as.drop p) = K) (htail : qJp ops.toList as = true) (hAn : ∀ p ∈ as, qZq F p) {st0 : St} (hn0 : st0.noK K = true)
    (hw : qE cx (Phi P cx) ops (fun e st' => match e with | .normal => (st'.noK K = true /\ qE cx (Phi P cx) ops Q (ops.toList.drop p) (as.drop p) st') | e => Q e st') (ops.toList.take p) (as.take p) st0) :
    ∀ (β : Nat -> Value) (a : Act) (w : World), Rel cx F st0 β a w -> wpAny P .any ops (QC cx F Q) ops.size (Array.replicate ops.size false) a w := by
 obtain ⟨hp1, hp2, hp3⟩ := qyj ops.toList as
 rw [hp] at hp1 hp2 hp3
 have hsize : ops.toList.length = ops.size := by simp
 unfold qJp at htail
 simp only [hp, hK, Bool.and_eq_true] at htail
 obtain ⟨hlast, hnd, hdisj, hRm, hRn, hxr⟩ := htail
 have hget : ∀ (i : Nat) (o : Oper), ops.toList[i]? = some o ↔ ops[i]? = some o := fun i o => by simp
 obtain ⟨vs, stP0, hT, hnP0, hwR0⟩ := qnh (ops.toList.take p) (as.take p) st0 hp3 hw
 have hapartP : ∀ (i j : Nat) x y t, i ≠ j -> (ops.toList.take p)[i]? = some x -> (ops.toList.take p)[j]? = some y -> x.dst = some t -> y.dst ≠ some t := by
  intro i j x y t hne hx hy;rw [List.getElem?_take] at hx hy
  split at hx
  .split at hy
   .exact hD.apart i j x y t hne ((hget i x).1 hx) ((hget j y).1 hy)
   .cases hy
  .cases hx
 obtain ⟨hvl, hsl, hfacts⟩ := qyh (ops.toList.take p) ((as.take p).map (·.2)) st0 stP0 vs hapartP hT
 have hPl : (ops.toList.take p).length = p := by rw [List.length_take]; omega
 rw [hPl] at hvl hfacts
 have htk : ∀ (i : Nat) (o : Oper), i < p -> ops[i]? = some o -> (ops.toList.take p)[i]? = some o := by
  intro i o hi ho;rw [List.getElem?_take, if_pos hi]; exact (hget i o).2 ho
 have htk' : ∀ (i : Nat) (o : Oper), (ops.toList.take p)[i]? = some o -> i < p /\ ops[i]? = some o := by
  intro i o ho;rw [List.getElem?_take] at ho
  split at ho
  .exact ⟨by assumption, (hget i o).1 ho⟩
  .cases ho
 obtain ⟨stp, p1, p2, p3, _, p5⟩ := hfacts p (Nat.le_refl _)
 have hgetP : ∀ (m : Nat) x u t, m < p -> ops[m]? = some x -> x.dst = some t -> vs[m]? = some u -> stP0.get t = u := by
  intro m x u t hm hx hxd hu;rw [<- p5 rfl t]; exact p3 m x u t hm (htk m x hm hx) hxd hu
 have hgetP0 : ∀ t, (∀ m x, m < p -> ops[m]? = some x -> x.dst ≠ some t) -> stP0.get t = st0.get t := by
  intro t ht;rw [<- p5 rfl t]; exact p2 t fun m x hm hx => ht m x hm (htk' m x hx).2
 have hvK : ∀ (m : Nat) x u t, m < p -> ops[m]? = some x -> x.dst = some t -> vs[m]? = some u -> u.noK K = true := by
  intro m x u t hm hx hxd hu;rw [<- hgetP m x u t hm hx hxd hu]; exact St.noK_get hnP0 t
 have hRget : ∀ (i : Nat) (o : Oper), (ops.toList.drop p)[i]? = some o ↔ ops[p + i]? = some o := fun i o => by rw [List.getElem?_drop]; exact hget _ _
 obtain ⟨ss, stA, hssl, hKR, hKas, hAl, hMade, hwS⟩ := qPk T (ops.toList.drop p) (as.drop p) stP0 (by rw [hK]; exact hnd)
  (fun i j x y t hne hx hy => hD.apart (p + i) (p + j) x y t (by omega) ((hRget i x).1 hx) ((hRget j y).1 hy))
  (fun t => by rw [hK]; exact St.noK_get hnP0 t) (fun k s hk => by rw [hK]; exact St.noK_slot hnP0 hk) hwR0
 rw [hK] at hssl hKR hKas hAl hMade hwS
 rw [List.drop_drop, List.drop_drop] at hwS
 have hqn : p + K.length <= ops.size := by
  rw [List.length_drop] at hKR; omega
 have hAdst : ∀ (i : Nat) o t, i < K.length -> ops[p + i]? = some o -> ((((ops.toList.drop p).take K.length).map (·.dst))[i]? = some (some t) ↔ o.dst = some t) := by
  intro i o t hi ho;rw [List.getElem?_map, List.getElem?_take, if_pos hi, (hRget i o).2 ho];simp
 generalize hR : qcf (ops.toList.drop (p + K.length)) (as.drop (p + K.length)) = R at hlast hRm hRn hxr
 obtain ⟨is, hisl, his⟩ := qLx (fun m i => ∀ r, R[m]? = some r -> i < K.length /\ ∃ x, ops[p + i]? = some x /\ x.dst = some r) R.length (fun m hm => by
  have hr : R[m]? = some R[m] := List.getElem?_eq_getElem hm;have h1 := (qvb _ _).1 (List.all_eq_true.1 hRm R[m] (List.getElem_mem hm));obtain ⟨i, x, h2, h3⟩ := qQk h1;rw [List.getElem?_drop, List.getElem?_take] at h2
  split at h2
  .rename_i hlt
   refine ⟨i, fun r' hr' => ?_⟩;rw [hr] at hr'; simp only [Option.some.injEq] at hr'; subst hr';exact ⟨by omega, x, (hget _ _).1 h2, h3⟩
  .cases h2)
 have hisI : ∀ (m1 m2 i : Nat), is[m1]? = some i -> is[m2]? = some i -> m1 = m2 := by
  intro m1 m2 i h1 h2;have l1 := (List.getElem?_eq_some_iff.1 h1).1;have l2 := (List.getElem?_eq_some_iff.1 h2).1;have r1 : R[m1]? = some (R[m1]'(by omega)) := List.getElem?_eq_getElem _;have r2 : R[m2]? = some (R[m2]'(by omega)) := List.getElem?_eq_getElem _;obtain ⟨_, x1, e1, d1⟩ := his m1 i h1 _ r1;obtain ⟨_, x2, e2, d2⟩ := his m2 i h2 _ r2;rw [e1] at e2; simp only [Option.some.injEq] at e2; subst e2;rw [d1] at d2; simp only [Option.some.injEq] at d2;rw [<- d2] at r2;exact qDd hRn r1 r2
 obtain ⟨Ks, hKsl, hKs⟩ := qLx (fun m k => ∀ i, is[m]? = some i -> K[i]? = some k) is.length (fun m hm => by
  have h1 : is[m]? = some is[m] := List.getElem?_eq_getElem hm;have hr : R[m]? = some (R[m]'(by omega)) := List.getElem?_eq_getElem _;obtain ⟨h2, _⟩ := his m _ h1 _ hr;refine ⟨K[is[m]], fun i hi => ?_⟩;rw [h1] at hi; simp only [Option.some.injEq] at hi; subst hi;exact List.getElem?_eq_getElem h2)
 have hKsI : ∀ (i j k : Nat), Ks[i]? = some k -> Ks[j]? = some k -> i = j := by
  intro i j k h1 h2;have l1 := (List.getElem?_eq_some_iff.1 h1).1;have l2 := (List.getElem?_eq_some_iff.1 h2).1;have i1 : is[i]? = some (is[i]'(by omega)) := List.getElem?_eq_getElem _;have i2 : is[j]? = some (is[j]'(by omega)) := List.getElem?_eq_getElem _;have := qDd hnd (hKs i k h1 _ i1) (hKs j k h2 _ i2);rw [<- this] at i2;exact hisI i j _ i1 i2
 obtain ⟨sts, stB, hstl, hBget, hBold, hBnew, hBst, hwB⟩ := qjp (ops.toList.drop (p + K.length)) (as.drop (p + K.length)) stA Ks (by rw [hR]; omega) hKsI
  (fun m r k h1 h2 => by
   rw [hR] at h1;have l2 := (List.getElem?_eq_some_iff.1 h2).1;have i1 : is[m]? = some (is[m]'(by omega)) := List.getElem?_eq_getElem _;obtain ⟨g1, x, g2, g3⟩ := his m _ i1 r h1;have hk := hKs m k h2 _ i1;exact ⟨hMade.new _ r k ((hAdst _ x r g1 g2).2 g3) hk, _, hMade.news _ k _ hk (List.getElem?_eq_getElem (by omega))⟩) hwS
 rw [hR] at hBst hwB
 rw [List.drop_drop, List.drop_drop] at hwB
 rw [show R.length = is.length by omega] at hwB
 have hRl : R.length <= (ops.toList.drop (p + K.length)).length := by rw [<- hR]; exact qZo _ _
 have hqn2 : p + K.length + is.length <= ops.size := by
  rw [List.length_drop] at hRl; omega
 have hStore : ∀ (m i k : Nat) (s' : Slot), is[m]? = some i -> K[i]? = some k -> sts[m]? = some s' -> ∃ o x r s, ops[p + K.length + m]? = some o /\ as[p + K.length + m]? = some ([], .no) /\ ss[i]? = some s /\ qDt cx o r k s s' x (stA.eval cx x) /\ (∃ y, ops[p + i]? = some y /\ y.dst = some r) := by
  intro m i k s' h1 h2 h3;have l1 := (List.getElem?_eq_some_iff.1 h1).1;have lk := (List.getElem?_eq_some_iff.1 h2).1;have hr : R[m]? = some (R[m]'(by omega)) := List.getElem?_eq_getElem _;have hk : Ks[m]? = some (Ks[m]'(by omega)) := List.getElem?_eq_getElem _;have hk2 := hKs m _ hk i h1;rw [h2] at hk2; simp only [Option.some.injEq] at hk2;rw [<- hk2] at hk;have hs : ss[i]? = some (ss[i]'(by omega)) := List.getElem?_eq_getElem _;obtain ⟨o, x, e1, e2, e3⟩ := hBst m _ k _ s' hr hk h3 (hMade.news i k _ h2 hs);rw [List.getElem?_drop] at e1 e2;obtain ⟨_, y, e4, e5⟩ := his m i h1 _ hr;exact ⟨o, x, _, _, (hget _ _).1 e1, e2, hs, e3, y, e4, e5⟩
 have hlast' : ∀ j, p + K.length + is.length <= j -> j < ops.size -> ∀ i, i < j -> i ∈ (qxd ops.toList []).getD j [] := by
  intro j hj1 hj2 i hi;unfold qrt at hlast;have hl := (qIf ops.toList []).1;simp only [List.length_nil, Nat.zero_add] at hl;have h1 := List.all_eq_true.1 hlast j (List.mem_range.2 (by rw [hl]; omega));simp only [Bool.or_eq_true] at h1;rcases h1 with h1 | h1
  .have := qmq h1; omega
  .exact (qvb i _).1 (List.all_eq_true.1 h1 i (List.mem_range.2 hi))
 have hAslot : ∀ k s, stA.slot k = some s -> k ∈ K -> ∃ i : Nat, K[i]? = some k /\ ss[i]? = some s := by
  intro k s hs hk;obtain ⟨i, hi⟩ := List.mem_iff_getElem?.1 hk;have hlt := (List.getElem?_eq_some_iff.1 hi).1;have hi2 : ss[i]? = some ss[i] := List.getElem?_eq_getElem (by omega);have := hMade.news i k _ hi hi2;rw [hs] at this;simp only [Option.some.injEq] at this;exact ⟨i, hi, by rw [hi2, this]⟩
 have hxst : ∀ (m : Nat) o x r, m < is.length -> ops[p + K.length + m]? = some o -> (∃ t, o.op = .store t (.tmp r) x) -> ∀ u, x = .tmp u -> u ∈ qOd ops o /\ (∀ (i : Nat) y, i < K.length -> ops[p + i]? = some y -> y.dst ≠ some u) := by
  rintro m o x r hm ho ⟨t, ht⟩ u rfl;refine ⟨by simp [qOd, ht, Op.operands, quk], fun i y hi hy hyd => ?_⟩;have h1 : u ∈ qsd ((ops.toList.take (p + K.length)).drop p) := qep (i := i) (by rw [List.getElem?_drop, List.getElem?_take, if_pos (by omega)]; exact (hget _ _).2 hy) hyd;refine qPi hxr u h1 (qwp (m := m) (o := o) ?_ ht);rw [List.getElem?_take, if_pos (by omega), List.getElem?_drop];exact (hget _ _).2 ho
 have hxget : ∀ (u : Nat), (∀ (i : Nat) y, i < K.length -> ops[p + i]? = some y -> y.dst ≠ some u) -> stA.get u = stP0.get u := by
  intro u hu;refine hMade.old u fun i hi => ?_
  rw [List.getElem?_map] at hi;obtain ⟨y, hy, hyd⟩ := Option.map_eq_some_iff.1 hi;rw [List.getElem?_take] at hy
  split at hy
  .rename_i hlt; exact hu i y hlt ((hRget i y).1 hy) hyd
  .cases hy
 have hxK : ∀ (m : Nat) o x r, m < is.length -> ops[p + K.length + m]? = some o -> (∃ t, o.op = .store t (.tmp r) x) -> (stA.eval cx x).noK K = true := by
  intro m o x r hm ho ht;cases x with
  | tmp u =>
   have := (hxst m o _ r hm ho ht u rfl).2
   show (stA.get u).noK K = true
   rw [hxget u this]; exact St.noK_get hnP0 u
  | const v => exact qgp K v
  | global g =>
   show (match cx.G g with | some ⟨t, x⟩ => V.one (.pp t x 0) | none => V.top).noK K = true
   cases cx.G g <;> rfl
  | func f => rfl
 have hSdst : ∀ (m : Nat) x, m < is.length -> ops[p + K.length + m]? = some x -> x.dst = none := by
  intro m x hm hx;have h1 : is[m]? = some is[m] := List.getElem?_eq_getElem hm;have hr : R[m]? = some (R[m]'(by omega)) := List.getElem?_eq_getElem _;obtain ⟨g1, _⟩ := his m _ h1 _ hr;obtain ⟨o, _, _, _, e1, _, _, e2, _⟩ := hStore m _ _ (sts[m]'(by omega)) h1 (List.getElem?_eq_getElem g1) (List.getElem?_eq_getElem _);rw [hx] at e1; simp only [Option.some.injEq] at e1; subst e1;exact e2.2.1
 have fin : ∀ (fuel : Nat) (listed : Array Bool) (st : St) (β : Nat -> Value) (a : Act) (w : World), qwg listed ops.size <= fuel -> InvS ops p K ss is sts vs st0 listed st -> Rel cx F st β a w ->
     (∀ i, i < p + K.length + is.length -> listed.getD i false = true) -> wpAny P .any ops (QC cx F Q) fuel listed a w := by
  intro fuel listed st β a w hf I h hallq;have hl : ∀ i, listed.getD i false = true ↔ i < p + K.length + is.length := fun i => ⟨I.low i, hallq i⟩
  have hnot : ∀ t (m : Nat) x, (ops[m]? = some x -> x.dst = some t -> ∀ i, p + i ≠ m -> (((ops.toList.drop p).take K.length).map (·.dst))[i]? ≠ some (some t)) := by
   intro t m x hx hxd i hne hi;rw [List.getElem?_map] at hi;obtain ⟨y, hy, hyd⟩ := Option.map_eq_some_iff.1 hi;rw [List.getElem?_take] at hy
   split at hy
   .exact hD.apart m (p + i) x y t (fun e => hne e.symm) hx ((hRget i y).1 hy) hxd hyd
   .cases hy
  have hgetA : ∀ t, stB.get t = st.get t := by
   intro t;rw [hBget t]
   by_cases hex : ∃ (m : Nat) (x : Oper), m < p + K.length /\ ops[m]? = some x /\ x.dst = some t
   .obtain ⟨m, x, hm, hx, hxd⟩ := hex
    rcases Nat.lt_or_ge m p with h1 | h1
    .have hu : vs[m]? = some vs[m] := List.getElem?_eq_getElem (by omega)
     rw [hMade.old t (fun i => hnot t m x hx hxd i (by omega)), hgetP m x _ t h1 hx hxd hu, I.gotP m x t _ (hallq m (by omega)) hx hxd hu]
    .obtain ⟨i, rfl⟩ : ∃ i, m = p + i := ⟨m - p, by omega⟩
     have hk : K[i]? = some K[i] := List.getElem?_eq_getElem (by omega);rw [hMade.new i t _ ((hAdst i x t (by omega) hx).2 hxd) hk, I.gotA i x t _ (hallq _ (by omega)) hx hxd hk]
   .rw [hMade.old t ?_, hgetP0 t (fun m x hm hx hxd => hex ⟨m, x, by omega, hx, hxd⟩), I.rest t (fun m x hm hx hxd => by
     have hlm := I.low m hm;rcases Nat.lt_or_ge m (p + K.length) with h1 | h1
     .exact hex ⟨m, x, h1, hx, hxd⟩
     .obtain ⟨m', rfl⟩ : ∃ m', m = p + K.length + m' := ⟨m - (p + K.length), by omega⟩
      rw [hSdst m' x (by omega) hx] at hxd; cases hxd)]
    intro i hi;rw [List.getElem?_map] at hi;obtain ⟨y, hy, hyd⟩ := Option.map_eq_some_iff.1 hi;rw [List.getElem?_take] at hy
    split at hy
    .exact hex ⟨p + i, y, by omega, (hRget i y).1 hy, hyd⟩
    .cases hy
  have hslotA : ∀ k, stB.slot k = st.slot k := by
   intro k
   by_cases hkS : k ∈ Ks
   .obtain ⟨m, hm⟩ := List.mem_iff_getElem?.1 hkS
    have l1 := (List.getElem?_eq_some_iff.1 hm).1;have h1 : is[m]? = some (is[m]'(by omega)) := List.getElem?_eq_getElem _;have h2 : sts[m]? = some (sts[m]'(by omega)) := List.getElem?_eq_getElem _;rw [hBnew m k _ hm h2, I.slotS m _ k _ h1 (hKs m k hm _ h1) h2 (hallq _ (by omega))]
   rw [hBold k hkS]
   by_cases hk : k ∈ K
   .obtain ⟨i, hi⟩ := List.mem_iff_getElem?.1 hk
    have hlt := (List.getElem?_eq_some_iff.1 hi).1;have hi2 : ss[i]? = some ss[i] := List.getElem?_eq_getElem (by omega);rw [hMade.news i k _ hi hi2, I.slotA i k _ (hallq _ (by omega)) hi hi2 (fun m hm => by
     refine absurd ?_ hkS;have l1 := (List.getElem?_eq_some_iff.1 hm).1;have h1 : Ks[m]? = some (Ks[m]'(by omega)) := List.getElem?_eq_getElem _;have h2 := hKs m _ h1 i hm;rw [hi] at h2; simp only [Option.some.injEq] at h2;rw [h2]; exact List.getElem_mem _)]
   .rw [hMade.olds k hk, qlg hsl k, I.slotR k fun i _ hi => hk (List.mem_of_getElem? hi)]
  exact qOx T hD hd hlast' hAn fuel (p + K.length + is.length) listed stB β a w (Nat.le_refl _) hqn2 I.size hl hf (h.ext hgetA hslotA) hwB
 suffices main : ∀ (fuel : Nat) (listed : Array Bool) (st : St) (β : Nat -> Value) (a : Act) (w : World), qwg listed ops.size <= fuel -> InvS ops p K ss is sts vs st0 listed st -> Rel cx F st β a w ->
     wpAny P .any ops (QC cx F Q) fuel listed a w by
  intro β a w h;have hno : ∀ i, ¬(Array.replicate ops.size false).getD i false = true := by
   intro i hi
   by_cases hlt : i < ops.size <;> simp [hlt] at hi
  refine main ops.size _ st0 β a w ?_ ?_ h
  .unfold qwg
   refine Nat.le_trans (List.length_filter_le _ _) ?_;simp
  .exact ⟨by simp, fun i hi => absurd hi (hno i), fun i o hi => absurd hi (hno i), fun i o t v hi => absurd hi (hno i), fun i o t k hi => absurd hi (hno _), fun _ _ => rfl, fun i k s hi => absurd hi (hno _), fun m i k s _ _ _ hi => absurd hi (hno _), fun _ _ => rfl⟩
 intro fuel
 induction fuel with
 | zero =>
  intro listed st β a w hf I h;have hall : ∀ i, i < ops.size -> listed.getD i false = true := by
   intro i hi;cases hl : listed.getD i true
   .have := qRp hi hl; omega
   .have : i < listed.size := by rw [I.size]; exact hi
    simpa [this] using hl
  have hq : p + K.length + is.length = ops.size := by
   rcases Nat.lt_or_ge (p + K.length + is.length) ops.size with hlt | hge
   .have := I.low _ (hall _ hlt); omega
   .omega
  exact fin 0 listed st β a w hf I h (fun i hi => hall i (by omega))
 | succ fuel ih =>
  intro listed st β a w hf I h
  by_cases hallq : ∀ i, i < p + K.length + is.length -> listed.getD i false = true
  .exact fin (fuel + 1) listed st β a w hf I h hallq
  refine ⟨fun hr => absurd (fun i hi => qEi hD I.size hr i (by omega)) hallq, fun i hi => ?_⟩;obtain ⟨hun, o, ho, hready⟩ := mem_ready.1 hi;have hlt := (Array.getElem?_eq_some_iff.1 ho).1;have hunf := (qqe I.size hlt).1 hun;have hiq : i < p + K.length + is.length := by
   rcases Nat.lt_or_ge i (p + K.length + is.length) with h1 | h1
   .exact h1
   .refine absurd (fun k hk => ?_) hallq
    exact qPe (ops := ops) hD.back (L := fun i => listed.getD i false = true) I.closed i o ho hready k (hlast' i h1 hlt k (by omega))
  have hopen : qwg (listed.setIfInBounds i true) ops.size <= fuel := by
   have := qqi I.size hlt hun; omega
  have hlti : i < listed.size := by rw [I.size]; exact hlt
  have hdst := hd o (by rw [Array.mem_toList_iff]; exact Array.mem_of_getElem? ho);have closed' : ∀ (k : Nat) x, (listed.setIfInBounds i true).getD k false = true -> ops[k]? = some x -> ∀ e ∈ x.after, Region.binds .any e = true -> (listed.setIfInBounds i true).getD e.on false = true := by
   intro k x hk hx e he hb;rw [qf hlti] at hk ⊢;rcases hk with rfl | hk
   .rw [ho] at hx; simp only [Option.some.injEq] at hx; subst hx
    exact .inr (hready e he hb)
   .exact .inr (I.closed k x hk hx e he hb)
  have low' : ∀ k, (listed.setIfInBounds i true).getD k false = true -> k < p + K.length + is.length := by
   intro k hk;rw [qf hlti] at hk;rcases hk with rfl | hk
   .exact hiq
   .exact I.low k hk
  unfold Go.wpOp;simp only [ho];rcases Nat.lt_or_ge i p with hip | hip
  . -- a plain operation
   have hv : vs[i]? = some vs[i] := List.getElem?_eq_getElem (by omega);generalize vs[i] = v at hv;obtain ⟨stk, e1, e2, e3, e4, _⟩ := hfacts i (Nat.le_of_lt hip);obtain ⟨an, han, hpl, hstep⟩ := e4 o v (htk i o hip ho) hv;have hread : ∀ t ∈ qOd ops o, stk.get t = st.get t /\ (stk.get t).noK K = true := by
    intro t ht
    by_cases hex : ∃ (m : Nat) (x : Oper), ops[m]? = some x /\ x.dst = some t
    .obtain ⟨m, x, hx, hxd⟩ := hex
     have only : ∀ m' x', ops[m']? = some x' -> x'.dst = some t -> m' = m := fun m' x' hx' hd' => by
      refine Decidable.byContradiction fun hne => ?_
      exact hD.apart m' m x' x t hne hx' hx hd' hxd
     have h2 : m < i ∨ i <= m := Nat.lt_or_ge m i;rcases h2 with hlt' | hge'
     .have hu : vs[m]? = some vs[m] := List.getElem?_eq_getElem (by omega)
      obtain ⟨e, he, hb, hon⟩ := hD.after1 m i x o t hlt' hx ho hxd ht;have hl := hready e he hb;rw [hon] at hl;have h3 := e3 m x _ t hlt' (htk m x (by omega) hx) hxd hu;exact ⟨by rw [h3, I.gotP m x t _ hl hx hxd hu], by rw [h3]; exact hvK m x _ t (by omega) hx hxd hu⟩
     .have h3 := e2 t fun m' x' hm' hx' hd' => by have := only m' x' (htk' m' x' hx').2 hd'; omega
      have h4 := I.rest t fun m' x' hl hx' hd' => by
       have := only m' x' hx' hd';subst this;rcases Nat.eq_or_lt_of_le hge' with heq | hgt
       .subst heq; exact hunf hl
       .obtain ⟨e, he, hb, hon⟩ := hD.after2 i m' o x' t hgt ho hx' hd' ht
        have := I.closed _ x' hl hx' e he hb;rw [hon] at this;exact hunf this
      exact ⟨by rw [h3, h4], by rw [h3]; exact St.noK_get hn0 t⟩
    .have h3 := e2 t fun m x _ hx hxd => hex ⟨m, x, (htk' m x hx).2, hxd⟩
     have h4 := I.rest t fun m x _ hx hxd => hex ⟨m, x, hx, hxd⟩
     exact ⟨by rw [h3, h4], by rw [h3]; exact St.noK_get hn0 t⟩
   have hlike : Like K stk st := by
    intro k hk;rw [qlg e1 k, I.slotR k fun i _ hi => hk (List.mem_of_getElem? hi)]
   have hstep' := hstep.like (K := K) hpl (fun t ht => (hread t ht).1) (fun t ht => (hread t ht).2) hlike;have I' : InvS ops p K ss is sts vs st0 (listed.setIfInBounds i true) (st.put o.dst v) := by
    refine ⟨by simp [I.size], low', closed', ?_, ?_, ?_, ?_, ?_, ?_⟩
    .intro m x t u hm hx hxd hu
     rw [qf hlti] at hm;rw [qU]
     by_cases hmi : m = i
     .subst hmi
      rw [ho] at hx; simp only [Option.some.injEq] at hx; subst hx;rw [hv] at hu; simp only [Option.some.injEq] at hu; subst hu;rw [if_pos hxd]
     .rw [if_neg (hD.apart m i x o t hmi hx ho hxd)]
      exact I.gotP m x t u (hm.resolve_left hmi) hx hxd hu
    .intro m x t k hm hx hxd hk
     rw [qf hlti] at hm;have hmi : p + m ≠ i := by omega
     rw [qU, if_neg (hD.apart (p + m) i x o t hmi hx ho hxd)];exact I.gotA m x t k (hm.resolve_left hmi) hx hxd hk
    .intro t ht
     rw [qU, if_neg (ht i o (by rw [qf hlti]; exact .inl rfl) ho)];exact I.rest t fun m x hm hx => ht m x (by rw [qf hlti]; exact .inr hm) hx
    .intro m k s hm hk hs hno
     rw [qf hlti] at hm;rw [qzd];exact I.slotA m k s (hm.resolve_left (by omega)) hk hs (fun m' hm' hl => hno m' hm' (by rw [qf hlti]; exact .inr hl))
    .intro m i' k s h1 h2 h3 h4
     rw [qf hlti] at h4;rw [qzd];exact I.slotS m i' k s h1 h2 h3 (h4.resolve_left (by omega))
    .intro k hk
     rw [qzd];exact I.slotR k fun m hm => hk m (by rw [qf hlti]; exact .inr hm)
   have hfix : qef F an := by
    have h5 := List.mem_of_getElem? han;obtain ⟨q, hq, rfl⟩ := List.mem_map.1 h5;exact (hAn q (List.mem_of_mem_take hq)).2
   have run : Run cx (Phi P cx) o an st v -> o.wp P a w (wpAny P .any ops (QC cx F Q) fuel (listed.setIfInBounds i true)) (QC cx F Q) := by
    intro hrun;refine qwf T h hfix hrun ?_;rintro v' st' β' w' u ⟨rfl, rfl⟩ hr hu;exact ih _ _ β' _ w' hopen I' (hr.put hdst hu)
   unfold qnc at hstep'
   split at hstep'
   .rename_i hg
    have hw : Region.wanted o (yielded ops a.tmps) = true := by simp [Region.wanted, hg]
    rw [if_pos hw];exact .inl (run hstep')
   .rename_i j want hg
    obtain ⟨t, ht, hc⟩ := hstep';have htn : t < F.n := by
     cases hoj : ops[j]? with
     | none => rw [hoj] at ht; cases ht
     | some oj =>
      rw [hoj] at ht;exact hd oj (by rw [Array.mem_toList_iff]; exact Array.mem_of_getElem? hoj) t ht
    rcases hc with ⟨hb, hrun⟩ | ⟨rfl, hb | hb⟩
    .have hy := qIb h ht htn hb
     have hw : Region.wanted o (yielded ops a.tmps) = true := by simp [Region.wanted, hg, hy]
     rw [if_pos hw];exact .inl (run hrun)
    .have hy := qIb h ht htn hb
     have hw : ¬ Region.wanted o (yielded ops a.tmps) = true := by simp [Region.wanted, hg, hy]
     rw [if_neg hw];exact ih _ _ β _ w hopen I' (h.put hdst (show RepV β _ w .undef Go.undef from rfl))
    .have hy := qEd h ht htn hb
     have hw : ¬ Region.wanted o (yielded ops a.tmps) = true := by simp [Region.wanted, hg, hy]
     rw [if_neg hw];exact ih _ _ β _ w hopen I' (h.put hdst (show RepV β _ w .undef Go.undef from rfl))
  rcases Nat.lt_or_ge i (p + K.length) with hiA | hiA
  . -- a new box
   obtain ⟨i', rfl⟩ : ∃ i', i = p + i' := ⟨i - p, by omega⟩;have hk : K[i']? = some K[i'] := List.getElem?_eq_getElem (by omega);generalize K[i'] = k at hk;have hs : ss[i']? = some ss[i'] := List.getElem?_eq_getElem (by omega);generalize ss[i'] = s at hs;obtain ⟨o', x, ho', hx, hA⟩ := hAl i' k s hk hs;rw [hRget, ho] at ho';simp only [Option.some.injEq] at ho'; subst ho';have hkm : ∀ j, j ∈ [k] -> j ∈ K := fun j hj => by simp at hj; subst hj; exact List.mem_of_getElem? hk
   have hK1 : ∀ t, (st.get t).noK [k] = true := by
    intro t
    by_cases hex : ∃ (m : Nat) (y : Oper), listed.getD m false = true /\ ops[m]? = some y /\ y.dst = some t
    .obtain ⟨m, y, hm, hy, hyd⟩ := hex
     rcases Nat.lt_or_ge m p with h1 | h1
     .have hu : vs[m]? = some vs[m] := List.getElem?_eq_getElem (by omega)
      rw [I.gotP m y t _ hm hy hyd hu];exact V.noK_sub hkm (hvK m y _ t h1 hy hyd hu)
     .obtain ⟨m', rfl⟩ : ∃ m', m = p + m' := ⟨m - p, by omega⟩
      have hmq := I.low _ hm;rcases Nat.lt_or_ge m' K.length with hmK | hmK
      case inr =>
       obtain ⟨m2, rfl⟩ : ∃ m2, m' = K.length + m2 := ⟨m' - K.length, by omega⟩;rw [<- Nat.add_assoc] at hy;rw [hSdst m2 y (by omega) hy] at hyd; cases hyd
      have hk2 : K[m']? = some K[m'] := List.getElem?_eq_getElem (by omega);rw [I.gotA m' y t _ hm hy hyd hk2];have hne : K[m'] ≠ k := fun e => by
       rw [e] at hk2;have := qDd hnd hk2 hk;subst this;exact hunf hm
      simp only [V.noK, C.noK, Bool.not_eq_true'];cases hmm : mem K[m'] [k]
      .rfl
      .have := (qvb _ _).1 hmm
       simp at this;exact absurd this hne
    .rw [I.rest t fun m y hm hy hyd => hex ⟨m, y, hm, hy, hyd⟩]
     exact V.noK_sub hkm (St.noK_get hn0 t)
   have hK2 : ∀ j s', st.slot j = some s' -> s'.noK [k] = true := by
    intro j s' hj
    by_cases hex : ∃ m : Nat, listed.getD (p + m) false = true /\ K[m]? = some j
    .obtain ⟨m, hm, hmk⟩ := hex
     have hlt2 := (List.getElem?_eq_some_iff.1 hmk).1;have hs2 : ss[m]? = some ss[m] := List.getElem?_eq_getElem (by omega);obtain ⟨_, _, _, _, hA2⟩ := hAl m j _ hmk hs2
     by_cases hst : ∃ m' : Nat, is[m']? = some m /\ listed.getD (p + K.length + m') false = true
     .obtain ⟨m', g1, g2⟩ := hst
      have l1 := (List.getElem?_eq_some_iff.1 g1).1;have g3 : sts[m']? = some (sts[m']'(by omega)) := List.getElem?_eq_getElem _;rw [I.slotS m' m j _ g1 hmk g3 g2] at hj;simp only [Option.some.injEq] at hj; subst hj;obtain ⟨o2, x2, r2, s2, q1, q2, q3, q4, q5⟩ := hStore m' m j _ g1 hmk g3;rw [hs2] at q3; simp only [Option.some.injEq] at q3; subst q3;exact Slot.noK_sub hkm (q4.2.2.2.2.2 K (hA2.2.2.1 _) (hxK m' o2 x2 r2 (by omega) q1 q4.2.2.2.1))
     .rw [I.slotA m j _ hm hmk hs2 (fun m' g1 g2 => hst ⟨m', g1, g2⟩)] at hj
      simp only [Option.some.injEq] at hj; subst hj;exact hA2.2.2.1 _
    .rw [I.slotR j fun m hm hmk => hex ⟨m, hm, hmk⟩] at hj
     exact Slot.noK_sub hkm (St.noK_slot hn0 hj).1
   have hng := qls (st := st) (k := k) (s := s) hK1;have hns := qKp (st := st) (k := k) (s := s) hK2;have I' : InvS ops p K ss is sts vs st0 (listed.setIfInBounds (p + i') true) ((st.new k s).put o.dst (.one (.ref k 0))) := by
    refine ⟨by simp [I.size], low', closed', ?_, ?_, ?_, ?_, ?_, ?_⟩
    .intro m y t u hm hy hyd hu
     rw [qf hlti] at hm;have hmp : m < p := by have := (List.getElem?_eq_some_iff.1 hu).1; omega
     have hmi : m ≠ p + i' := by omega
     rw [qU, if_neg (hD.apart m (p + i') y o t hmi hy ho hyd), hng];exact I.gotP m y t u (hm.resolve_left hmi) hy hyd hu
    .intro m y t k2 hm hy hyd hk2
     rw [qf hlti] at hm;rw [qU]
     by_cases hmi : p + m = p + i'
     .have : m = i' := by omega
      subst this;rw [ho] at hy; simp only [Option.some.injEq] at hy; subst hy;rw [hk] at hk2; simp only [Option.some.injEq] at hk2; subst hk2;rw [if_pos hyd]
     .rw [if_neg (hD.apart (p + m) (p + i') y o t hmi hy ho hyd), hng]
      exact I.gotA m y t k2 (hm.resolve_left hmi) hy hyd hk2
    .intro t ht
     rw [qU, if_neg (ht (p + i') o (by rw [qf hlti]; exact .inl rfl) ho), hng];exact I.rest t fun m y hm hy => ht m y (by rw [qf hlti]; exact .inr hm) hy
    .intro m k2 s2 hm hk2 hs2 hno
     rw [qf hlti] at hm;rw [qzd, hns]
     by_cases hmi : m = i'
     .subst hmi
      rw [hk] at hk2; simp only [Option.some.injEq] at hk2; subst hk2;rw [hs] at hs2; simp only [Option.some.injEq] at hs2; subst hs2;rw [if_pos rfl]
     .have hne : k2 ≠ k := fun e => by
       rw [e] at hk2;exact hmi (qDd hnd hk2 hk)
      rw [if_neg hne];exact I.slotA m k2 s2 (hm.resolve_left (by omega)) hk2 hs2 (fun m' hm' hl => hno m' hm' (by rw [qf hlti]; exact .inr hl))
    .intro m i2 k2 s2 h1 h2 h3 h4
     rw [qf hlti] at h4;have h4 := h4.resolve_left (by omega);have l1 := (List.getElem?_eq_some_iff.1 h1).1;obtain ⟨o2, x2, r2, s0, q1, q2, q3, q4, y, q5, q6⟩ := hStore m i2 k2 s2 h1 h2 h3;have lk := (List.getElem?_eq_some_iff.1 h2).1;have hli : listed.getD (p + i2) false = true := by
      obtain ⟨t2, ht2⟩ := q4.2.2.2.1;obtain ⟨e, he, hb, hon⟩ := hD.after1 (p + i2) (p + K.length + m) y o2 r2 (by omega) q5 q1 q6 (by simp [qOd, ht2, Op.operands, quk]);have := I.closed _ o2 h4 q1 e he hb;rw [hon] at this; exact this
     have hne : k2 ≠ k := fun e => by
      rw [e] at h2;have := qDd hnd h2 hk;subst this;exact hunf hli
     rw [qzd, hns, if_neg hne];exact I.slotS m i2 k2 s2 h1 h2 h3 h4
    .intro k2 hk2
     have hne : k2 ≠ k := fun e => by
      subst e;exact hk2 i' (by rw [qf hlti]; exact .inl rfl) hk
     rw [qzd, hns, if_neg hne];exact I.slotR k2 fun m hm => hk2 m (by rw [qf hlti]; exact .inr hm)
   have hfix : qef F x.2 := (hAn x (List.mem_of_mem_drop (List.mem_of_getElem? hx))).2;have hwd : Region.wanted o (yielded ops a.tmps) = true := by simp [Region.wanted, hA.1]
   rw [if_pos hwd];refine .inl (qwf T h hfix (hA.wp (Φ := Phi P cx) st (κ := fun v st' => v = .one (.ref k 0) /\ st' = st.new k s) ⟨rfl, rfl⟩) ?_);rintro v' st' β' w' u ⟨rfl, rfl⟩ hr hu;exact ih _ _ β' _ w' hopen I' (hr.put hdst hu)
  . -- a new box is laid
   obtain ⟨m, rfl⟩ : ∃ m, i = p + K.length + m := ⟨i - (p + K.length), by omega⟩;have him : is[m]? = some (is[m]'(by omega)) := List.getElem?_eq_getElem _;generalize is[m]'(by omega) = i0 at him;have hr : R[m]? = some (R[m]'(by omega)) := List.getElem?_eq_getElem _;obtain ⟨hi0, _⟩ := his m i0 him _ hr;have hk : K[i0]? = some K[i0] := List.getElem?_eq_getElem hi0;generalize K[i0] = k at hk;have hs' : sts[m]? = some (sts[m]'(by omega)) := List.getElem?_eq_getElem _;generalize sts[m]'(by omega) = s' at hs';obtain ⟨o2, x, r, s, q1, q2, q3, q4, y, q5, q6⟩ := hStore m i0 k s' him hk hs';rw [ho] at q1; simp only [Option.some.injEq] at q1; subst q1;obtain ⟨hgd, hdn, hnc, hop, hev, _⟩ := q4;have hli : listed.getD (p + i0) false = true := by
    obtain ⟨t2, ht2⟩ := hop;obtain ⟨e, he, hb, hon⟩ := hD.after1 (p + i0) (p + K.length + m) y o r (by omega) q5 ho q6 (by simp [qOd, ht2, Op.operands, quk]);have := hready e he hb;rw [hon] at this; exact this
   have hgr : st.get r = .one (.ref k 0) := I.gotA i0 y r k hli q5 q6 hk;have hgs : st.slot k = some s := I.slotA i0 k s hli hk q3 (fun m' hm' hl => by
    have := hisI m' m i0 hm' him;subst this;exact hunf hl)
   have hgx : st.eval cx x = stA.eval cx x := by
    cases x with
    | tmp u =>
     obtain ⟨hu1, hu2⟩ := hxst m o _ r (by omega) ho hop u rfl
     show st.get u = stA.get u
     rw [hxget u hu2]
     by_cases hex : ∃ (m' : Nat) (y : Oper), m' < p /\ ops[m']? = some y /\ y.dst = some u
     .obtain ⟨m', y', hm', hy', hyd'⟩ := hex
      have hu : vs[m']? = some vs[m'] := List.getElem?_eq_getElem (by omega);obtain ⟨e, he, hb, hon⟩ := hD.after1 m' (p + K.length + m) y' o u (by omega) hy' ho hyd' hu1;have hl := hready e he hb;rw [hon] at hl;rw [I.gotP m' y' u _ hl hy' hyd' hu, hgetP m' y' _ u hm' hy' hyd' hu]
     .rw [hgetP0 u (fun m' y' hm' hy' hyd' => hex ⟨m', y', hm', hy', hyd'⟩)]
      refine I.rest u fun m' y' hl hy' hyd' => ?_
      have hlm := I.low m' hl;rcases Nat.lt_or_ge m' p with h1 | h1
      .exact hex ⟨m', y', h1, hy', hyd'⟩
      .rcases Nat.lt_or_ge m' (p + K.length) with h2 | h2
       .obtain ⟨m2, rfl⟩ : ∃ m2, m' = p + m2 := ⟨m' - p, by omega⟩
        exact hu2 m2 y' (by omega) hy' hyd'
       .obtain ⟨m2, rfl⟩ : ∃ m2, m' = p + K.length + m2 := ⟨m' - (p + K.length), by omega⟩
        rw [hSdst m2 y' (by omega) hy'] at hyd'; cases hyd'
    | const v => rfl
    | global g => rfl
    | func f => rfl
   have I' : InvS ops p K ss is sts vs st0 (listed.setIfInBounds (p + K.length + m) true) (st.set k s') := by
    refine ⟨by simp [I.size], low', closed', ?_, ?_, ?_, ?_, ?_, ?_⟩
    .intro m' x' t u hm hx hxd hu
     rw [qf hlti] at hm;have hmp : m' < p := by have := (List.getElem?_eq_some_iff.1 hu).1; omega
     exact I.gotP m' x' t u (hm.resolve_left (by omega)) hx hxd hu
    .intro m' x' t k' hm hx hxd hk'
     rw [qf hlti] at hm;have hlk := (List.getElem?_eq_some_iff.1 hk').1;exact I.gotA m' x' t k' (hm.resolve_left (by omega)) hx hxd hk'
    .intro t ht
     exact I.rest t fun m' x' hm hx => ht m' x' (by rw [qf hlti]; exact .inr hm) hx
    .intro m' k' s2 hm hk' hs2 hno
     rw [qf hlti] at hm;have hlk := (List.getElem?_eq_some_iff.1 hk').1;have hne : k' ≠ k := fun e => by
      rw [e] at hk';have := qDd hnd hk' hk;subst this;exact hno m him (by rw [qf hlti]; exact .inl rfl)
     rw [St.slot_set, if_neg hne];exact I.slotA m' k' s2 (hm.resolve_left (by omega)) hk' hs2 (fun m2 hm2 hl => hno m2 hm2 (by rw [qf hlti]; exact .inr hl))
    .intro m' i' k' s2 h1 h2 h3 h4
     rw [qf hlti] at h4;rw [St.slot_set]
     by_cases hmm : m' = m
     .subst hmm
      rw [him] at h1; simp only [Option.some.injEq] at h1; subst h1;rw [hk] at h2; simp only [Option.some.injEq] at h2; subst h2;rw [hs'] at h3; simp only [Option.some.injEq] at h3; subst h3;rw [if_pos rfl]
     .have hne : k' ≠ k := fun e => by
       rw [e] at h2;have := qDd hnd h2 hk;subst this;exact hmm (hisI m' m i' h1 him)
      rw [if_neg hne];exact I.slotS m' i' k' s2 h1 h2 h3 (h4.resolve_left (by omega))
    .intro k' hk'
     have hne : k' ≠ k := fun e => by
      subst e;exact hk' i0 (by rw [qf hlti]; exact .inr hli) hk
     rw [St.slot_set, if_neg hne];exact I.slotR k' fun m' hm => hk' m' (by rw [qf hlti]; exact .inr hm)
   have hwd : Region.wanted o (yielded ops a.tmps) = true := by simp [Region.wanted, hgd]
   rw [if_pos hwd];have hwp : AM.wpOp cx (Phi P cx) o .no st (fun v st' => v = .undef /\ st' = st.set k s') := by
    have he := hev st hgr hgx hgs;unfold AM.wpOp;obtain ⟨t2, ht2⟩ := hop;rw [ht2] at he ⊢;simp only [];rw [he];exact ⟨rfl, rfl⟩
   refine .inl (qwf T h (an := .no) trivial hwp ?_);rintro v' st' β' w' u ⟨rfl, rfl⟩ hr2 hu;have := ih _ _ β' _ w' hopen I' hr2;rw [hdn];exact this
end
end Go.AM
set_option linter.unusedSimpArgs false
set_option linter.unusedVariables false
namespace Go.AM
open Go
section
variable {P : Program} {cx : Cx} {F : Fm} {st : St} {β : Nat -> Value} {a : Act} {w : World} {o : Oper}
theorem qXj {st st' : St} (h : st.slots = st'.slots) (k : Nat) : st.slot k = st'.slot k := by unfold St.slot; rw [h]
def qFn (cx : Cx) (o : Oper) (an : Ann) (st : St) (sl : List (Nat × Slot)) : Prop :=
 qre o = true /\ o.guard = none /\ o.dst = none /\ an = .no /\ (evI cx o.op .no st).side.holds /\ (evI cx o.op .no st).st = ⟨st.regs, sl⟩
theorem qRo (cx : Cx) (t : Nat) (a x : Operand) (st st' : St) (h1 : st.eval cx a = st'.eval cx a) (h2 : st.eval cx x = st'.eval cx x) (hs : st.slots = st'.slots) :
    (evI cx (.store t a x) .no st).side = (evI cx (.store t a x) .no st').side /\ (evI cx (.store t a x) .no st').st = ⟨st'.regs, (evI cx (.store t a x) .no st).st.slots⟩ := by
 have hk := fun k => qXj hs k
 simp only [evI, h1, h2, hk, Bool.cond_eq_ite]
 (repeat' split) <;> simp [ok, fail, St.set, hs]
theorem qAi {o : Oper} (h : qre o = true) : ∃ t a x, o.op = .store t a x := by
 unfold qre at h
 split at h
 .rename_i t a x e; exact ⟨t, a, x, e⟩
 .cases h
theorem qFn.congr {ops : Array Oper} {an : Ann} {st st' : St} {sl : List (Nat × Slot)} (hr : ∀ t ∈ qOd ops o, st.get t = st'.get t) (hs : st.slots = st'.slots) (h : qFn cx o an st sl) : qFn cx o an st' sl := by
 obtain ⟨h1, h2, h3, h4, h5, h6⟩ := h
 obtain ⟨t, a, x, e⟩ := qAi h1
 have he : ∀ y ∈ o.op.operands, st.eval cx y = st'.eval cx y := by
  intro y hy;cases y with
  | tmp t => exact hr t (List.mem_append_left _ (qkf (by simpa using hy)))
  | _ => rfl
 have ha := he a (by rw [e]; simp [Op.operands])
 have hx := he x (by rw [e]; simp [Op.operands])
 obtain ⟨g1, g2⟩ := qRo cx t a x st st' ha hx hs
 rw [e] at h5 h6
 refine ⟨h1, h2, h3, h4, ?_, ?_⟩
 .rw [e, <- g1]; exact h5
 .rw [e, g2, h6]
def qhk (cx : Cx) (Φ : Con) (ops : Array Oper) : List Oper -> List Ann -> St -> List V -> St -> Prop
 | [], _, st, [], stf => (∀ t, st.get t = stf.get t) /\ stf.slots = st.slots
 | o :: l, a :: as, st, v :: vs, stf =>
  (qsc o a = true /\ qnc cx Φ ops o a st v /\ qhk cx Φ ops l as (st.put o.dst v) vs stf) ∨
  (∃ sl, qFn cx o a st sl /\ qhk cx Φ ops l as ⟨st.regs, sl⟩ vs stf)
 | _, _, _, _, _ => False
theorem qhk.congr {Φ : Con} {ops : Array Oper} : ∀ {l : List Oper} {as : List Ann} {st st' stf : St} {vs : List V}, (∀ t, st.get t = st'.get t) -> st.slots = st'.slots ->
    qhk cx Φ ops l as st vs stf -> qhk cx Φ ops l as st' vs stf
 | [], as, st, st', stf, [], hg, hs, h => ⟨fun t => by rw [<- hg]; exact h.1 t, by rw [<- hs]; exact h.2⟩
 | o :: l, a :: as, st, st', stf, v :: vs, hg, hs, h => by
  rcases h with ⟨h1, h2, h3⟩ | ⟨sl, h1, h2⟩
  .exact .inl ⟨h1, h2.congr h1 (fun t _ => hg t) hs, h3.congr (fun t => by rw [qU, qU, hg]) (by rw [qrc, qrc, hs])⟩
  .exact .inr ⟨sl, h1.congr (ops := ops) (fun t _ => hg t) hs, qhk.congr (st := ⟨st.regs, sl⟩) (st' := ⟨st'.regs, sl⟩) (fun t => hg t) rfl h2⟩
 | [], as, _, _, _, _ :: _, _, _, h => h.elim
 | _ :: _, [], _, _, _, _, _, _, h => h.elim
 | _ :: _, _ :: _, _, _, _, [], _, _, h => h.elim
theorem qFx (st : St) (v : V) : st.put none v = st := rfl
theorem qIk {Φ : Con} {ops : Array Oper} {Q : Exit -> St -> Prop} : ∀ (l : List Oper) (as : List (List Ghost × Ann)) (st : St), qfw l as = true -> qE cx Φ ops Q l as st ->
    ∃ vs stf, qhk cx Φ ops l (as.map (·.2)) st vs stf /\ Q .normal stf
 | [], as, st, _, h => ⟨[], st, ⟨fun _ => rfl, rfl⟩, by simpa only [qE] using h⟩
 | o :: l, [], st, hp, _ => by simp [qfw] at hp
 | o :: l, (gs, an) :: as, st, hp, h => by
  simp only [qfw, Bool.and_eq_true, Bool.or_eq_true] at hp;obtain ⟨hpo, hpl⟩ := hp;rcases hpo with hst | ⟨hg, hpo⟩
  .unfold qsr at hst
   split at hst
   .rename_i t a x e1 e2 e3 e4 e5
    simp only at e1 e3;subst e1; subst e3;simp only [qE, que, e4] at h;rw [qWc (by rw [e2]; intro c hc; cases hc)] at h;obtain ⟨h1, h2⟩ := Side.and_iff h;rw [e5, qFx] at h2;obtain ⟨g1, g2⟩ := qRo cx t a x st st rfl rfl rfl;have hev : (evI cx o.op .no st).st = ⟨st.regs, (evI cx o.op .no st).st.slots⟩ := by rw [e2]; exact g2
    obtain ⟨vs, stf, h3, h4⟩ := qIk l as _ hpl h2;refine ⟨.undef :: vs, stf, .inr ⟨(evI cx o.op .no st).st.slots, ⟨by unfold qre; rw [e2], e4, e5, rfl, h1, hev⟩, ?_⟩, h4⟩;rw [hev] at h3;exact h3
   .cases hst
  .have hg : gs = [] := by cases gs with | nil => rfl | cons _ _ => simp at hg
   subst hg;have hw := (qTs (cx := cx) (Φ := Φ) (ops := ops) (Q := Q) 1 (o :: l) (([], an) :: as) st (by simp) (by simp)).1 h;simp only [List.take_succ_cons, List.take_zero, List.drop_succ_cons, List.drop_zero] at hw;obtain ⟨vs, stf, hT, hQ⟩ := qnh [o] [([], an)] st (by simp [qQh, hpo]) hw
   match vs, hT with
   | v :: vs, hT =>
    obtain ⟨h1, h2, h3⟩ := hT;have hvs : vs = [] := by
     cases vs with
     | nil => rfl
     | cons _ _ => exact h3.elim
    subst hvs;obtain ⟨h4, h5⟩ := h3;obtain ⟨vs, stf2, h6, h7⟩ := qIk l as stf hpl hQ;exact ⟨v :: vs, stf2, .inl ⟨h1, h2, h6.congr (fun t => (h4 t).symm) h5⟩, h7⟩
theorem qik {Φ : Con} {ops : Array Oper} : ∀ (l : List Oper) (as : List Ann) (st stf : St) (vs : List V), qhk cx Φ ops l as st vs stf ->
    vs.length = l.length /\ ∃ S : Nat -> St, S 0 = st /\ (∀ t, (S l.length).get t = stf.get t) /\ stf.slots = (S l.length).slots /\
     ∀ (k : Nat) o v, l[k]? = some o -> vs[k]? = some v -> ∃ an, as[k]? = some an /\
      ((qsc o an = true /\ qnc cx Φ ops o an (S k) v /\ S (k + 1) = (S k).put o.dst v) ∨ (∃ sl, qFn cx o an (S k) sl /\ S (k + 1) = ⟨(S k).regs, sl⟩))
 | [], as, st, stf, [], h => ⟨rfl, fun _ => st, rfl, h.1, h.2, fun k o v ho => by simp at ho⟩
 | o :: l, an :: as, st, stf, v :: vs, h => by
  have fin : ∀ st1, qhk cx Φ ops l as st1 vs stf -> ((qsc o an = true /\ qnc cx Φ ops o an st v /\ st1 = st.put o.dst v) ∨ (∃ sl, qFn cx o an st sl /\ st1 = ⟨st.regs, sl⟩)) ->
      (v :: vs).length = (o :: l).length /\ ∃ S : Nat -> St, S 0 = st /\ (∀ t, (S (o :: l).length).get t = stf.get t) /\ stf.slots = (S (o :: l).length).slots /\
      ∀ (k : Nat) p u, (o :: l)[k]? = some p -> (v :: vs)[k]? = some u -> ∃ an', (an :: as)[k]? = some an' /\
       ((qsc p an' = true /\ qnc cx Φ ops p an' (S k) u /\ S (k + 1) = (S k).put p.dst u) ∨ (∃ sl, qFn cx p an' (S k) sl /\ S (k + 1) = ⟨(S k).regs, sl⟩)) := by
   intro st1 h3 hc;obtain ⟨g1, S, g2, g3, g4, g5⟩ := qik l as st1 stf vs h3;refine ⟨by simp [g1], fun k => match k with | 0 => st | k + 1 => S k, rfl, g3, g4, fun k p u hp hu => ?_⟩;cases k with
   | zero =>
    simp at hp hu;subst hp; subst hu;refine ⟨an, rfl, ?_⟩;simp only [g2];exact hc
   | succ k =>
    obtain ⟨an', f1, f2⟩ := g5 k p u (by simpa using hp) (by simpa using hu);exact ⟨an', by simpa using f1, f2⟩
  rcases h with ⟨h1, h2, h3⟩ | ⟨sl, h1, h3⟩
  .exact fin _ h3 (.inl ⟨h1, h2, rfl⟩)
  .exact fin _ h3 (.inr ⟨sl, h1, rfl⟩)
 | [], as, st, stf, _ :: _, h => h.elim
 | _ :: _, [], st, stf, _, h => h.elim
 | _ :: _, _ :: _, st, stf, [], h => h.elim
theorem qnc.pure {Φ : Con} {ops : Array Oper} {an : Ann} {st st' : St} {v : V} (hp : qEg o = true) (hpl : qsc o an = true) (hr : ∀ t ∈ qOd ops o, st.get t = st'.get t) (h : qnc cx Φ ops o an st v) : qnc cx Φ ops o an st' v := by
 have he : ∀ x ∈ o.op.operands, st.eval cx x = st'.eval cx x := by
  intro x hx;cases x with
  | tmp t => exact hr t (List.mem_append_left _ (qkf (by simpa using hx)))
  | _ => rfl
 unfold qEg at hp
 have key : ∀ (x : Operand), (o.op = .move x ∨ o.op = .assign x) -> o.guard = none -> qnc cx Φ ops o an st' v := by
  intro x hox hg;have hex := he x (by rcases hox with e | e <;> rw [e] <;> simp [Op.operands]);unfold qnc at h ⊢;rw [hg] at h ⊢;simp only at h ⊢;have han : an = .no := by
   unfold qsc at hpl;rcases hox with e | e <;> (rw [e] at hpl; simp only at hpl; split at hpl <;> first | rfl | cases hpl)
  subst han;unfold Run at h ⊢;have hc : ∀ c, o.op ≠ .call c := by rcases hox with e | e <;> (rw [e]; intro c hc; cases hc)
  rw [qWc hc] at h ⊢;have hev : ∀ s : St, evI cx o.op .no s = ok s (s.eval cx x) := fun s => by rcases hox with e | e <;> (rw [e]; rfl)
  rw [hev] at h ⊢;have h' : st.eval cx x = v /\ st = st := h
  show st'.eval cx x = v /\ st' = st'
  exact ⟨by rw [<- hex]; exact h'.1, rfl⟩
 split at hp
 .rename_i x e1 e2; exact key x (.inl e1) e2
 .rename_i x e1 e2; exact key x (.inr e1) e2
 .cases hp
structure InvL (ops : Array Oper) (S : Nat -> St) (vs : List V) (listed : Array Bool) (st : St) : Prop where
 size : listed.size = ops.size
 slots : ∀ k, k <= ops.size -> (∀ (s : Nat) o, ops[s]? = some o -> qre o = true -> (listed.getD s false = true ↔ s < k)) -> st.slots = (S k).slots
 closed : ∀ (i : Nat) o, listed.getD i false = true -> ops[i]? = some o -> ∀ e ∈ o.after, Region.binds .any e = true -> listed.getD e.on false = true
 got : ∀ (i : Nat) o t v, listed.getD i false = true -> ops[i]? = some o -> o.dst = some t -> vs[i]? = some v -> st.get t = v
 rest : ∀ t, (∀ (i : Nat) o, listed.getD i false = true -> ops[i]? = some o -> o.dst ≠ some t) -> st.get t = (S 0).get t
theorem qXu (T : TOk P cx) {ops : Array Oper} {Q : Exit -> St -> Prop} (hD : Drawn ops) (hd : ∀ o ∈ ops.toList, ∀ t, o.dst = some t -> t < F.n) {as : List (List Ghost × Ann)}
    (hL : qEt ops.toList as = true) (hAn : ∀ p ∈ as, qZq F p) {st0 : St} (hw : qE cx (Phi P cx) ops Q ops.toList as st0) :
    ∀ (β : Nat -> Value) (a : Act) (w : World), Rel cx F st0 β a w -> wpAny P .any ops (QC cx F Q) ops.size (Array.replicate ops.size false) a w := by
 unfold qEt at hL
 simp only [Bool.and_eq_true] at hL
 obtain ⟨hL, hord⟩ := hL
 obtain ⟨vs, stf, hT, hQ⟩ := qIk ops.toList as st0 hL hw
 obtain ⟨hvl, S, hS0, hSe1, hSe2, hS⟩ := qik ops.toList _ st0 stf vs hT
 have hsize : ops.toList.length = ops.size := by simp
 rw [hsize] at hvl hSe1 hSe2
 have hget : ∀ (i : Nat) (o : Oper), ops.toList[i]? = some o ↔ ops[i]? = some o := fun i o => by simp
 have hvs : ∀ i, i < ops.size -> ∃ v, vs[i]? = some v := fun i hi => ⟨_, List.getElem?_eq_getElem (by omega)⟩
 have regA : ∀ (k : Nat), k <= ops.size -> ∀ t, (∀ (m : Nat) x, m < k -> ops[m]? = some x -> x.dst ≠ some t) -> (S k).get t = (S 0).get t := by
  intro k
  induction k with
  | zero => intro _ t _; rfl
  | succ k ih =>
   intro hk t ht;have ho : ops[k]? = some ops[k] := Array.getElem?_eq_getElem (by omega);generalize ops[k] = o at ho;obtain ⟨v, hv⟩ := hvs k (by omega);have ih' := ih (by omega) t fun m x hm hx => ht m x (by omega) hx
   have hne := ht k o (by omega) ho;obtain ⟨an, _, h | ⟨sl, h1, h2⟩⟩ := hS k o v ((hget k o).2 ho) hv
   .rw [h.2.2, qU, if_neg hne, ih']
   .rw [h2]; exact ih'
 have regB : ∀ (k : Nat), k <= ops.size -> ∀ (m : Nat) x t u, m < k -> ops[m]? = some x -> x.dst = some t -> vs[m]? = some u -> (S k).get t = u := by
  intro k
  induction k with
  | zero => intro _ m x t u hm; omega
  | succ k ih =>
   intro hk m x t u hm hx hxd hu;have ho : ops[k]? = some ops[k] := Array.getElem?_eq_getElem (by omega);generalize ops[k] = o at ho;obtain ⟨v, hv⟩ := hvs k (by omega);obtain ⟨an, _, h⟩ := hS k o v ((hget k o).2 ho) hv
   by_cases hmk : m = k
   .subst hmk
    rw [ho] at hx; simp only [Option.some.injEq] at hx; subst hx;rw [hv] at hu; simp only [Option.some.injEq] at hu; subst hu;rcases h with h | ⟨sl, h1, h2⟩
    .rw [h.2.2, qU, if_pos hxd]
    .rw [h1.2.2.1] at hxd; cases hxd
   .have ih' := ih (by omega) m x t u (by omega) hx hxd hu
    rcases h with h | ⟨sl, h1, h2⟩
    .rw [h.2.2, qU, if_neg (hD.apart m k x o t hmk hx ho hxd), ih']
    .rw [h2]; exact ih'
 have plainSlots : ∀ (k : Nat) o, ops[k]? = some o -> qre o = false -> (S (k + 1)).slots = (S k).slots := by
  intro k o ho hns;obtain ⟨v, hv⟩ := hvs k (Array.getElem?_eq_some_iff.1 ho).1;obtain ⟨an, _, h | ⟨sl, h1, h2⟩⟩ := hS k o v ((hget k o).2 ho) hv
  .rw [h.2.2, qrc]
  .rw [h1.1] at hns; cases hns
 have between : ∀ (d k : Nat), k + d <= ops.size -> (∀ (s : Nat) o, k <= s -> s < k + d -> ops[s]? = some o -> qre o = false) -> (S (k + d)).slots = (S k).slots := by
  intro d
  induction d with
  | zero => intro k _ _; rfl
  | succ d ih =>
   intro k hk hno;have ho : ops[k + d]? = some ops[k + d] := Array.getElem?_eq_getElem (by omega);rw [show k + (d + 1) = k + d + 1 by omega, plainSlots (k + d) _ ho (hno (k + d) _ (by omega) (by omega) ho)];exact ih k (by omega) fun s o h1 h2 => hno s o h1 (by omega)
 have order : ∀ (s : Nat) o, ops[s]? = some o -> qre o = true -> ∀ (j : Nat) x, ops[j]? = some x -> j ≠ s -> qEg x = false -> (j < s -> j ∈ (qxd ops.toList []).getD s []) /\ (s < j -> s ∈ (qxd ops.toList []).getD j []) := by
  intro s o ho hst j x hx hne hnp;have hs := (Array.getElem?_eq_some_iff.1 ho).1;have hj := (Array.getElem?_eq_some_iff.1 hx).1;have h1 := List.all_eq_true.1 hord s (List.mem_range.2 (by omega));rw [(hget s o).2 ho] at h1;simp only [hst, Bool.not_true, Bool.false_or] at h1;have h2 := List.all_eq_true.1 h1 j (List.mem_range.2 (by omega));rw [(hget j x).2 hx] at h2;simp only [hnp, Bool.false_or, Bool.or_eq_true] at h2;have h2 := h2.resolve_left (fun e => hne (Nat.eq_of_beq_eq_true e));constructor
  .intro hlt
   rw [show Nat.blt j s = true by rw [Nat.blt_eq]; exact hlt, cond_true] at h2;exact (qvb _ _).1 h2
  .intro hlt
   rw [show Nat.blt j s = false by cases hb : Nat.blt j s <;> first | rfl | (have := qmq hb; omega), cond_false] at h2;exact (qvb _ _).1 h2
 have fin : ∀ (listed : Array Bool) (st : St) (β : Nat -> Value) (a : Act) (w : World), InvL ops S vs listed st -> Rel cx F st β a w -> Region.ready .any ops listed = [] -> QC cx F Q .normal a w := by
  intro listed st β a w I h hr;have hall := qEi hD I.size hr;have hst : ∀ t, st.get t = stf.get t := by
   intro t;rw [<- hSe1 t]
   by_cases hex : ∃ (m : Nat) (p : Oper), ops[m]? = some p /\ p.dst = some t
   .obtain ⟨m, p, hp, hpd⟩ := hex
    have hm : m < ops.size := (Array.getElem?_eq_some_iff.1 hp).1;obtain ⟨u, hu⟩ := hvs m hm;rw [I.got m p t _ (hall m hm) hp hpd hu, regB ops.size (Nat.le_refl _) m p t u hm hp hpd hu]
   .rw [I.rest t fun i o _ ho hod => hex ⟨i, o, ho, hod⟩, regA ops.size (Nat.le_refl _) t fun m p _ hp hpd => hex ⟨m, p, hp, hpd⟩]
  have hsl : st.slots = stf.slots := by
   rw [hSe2];exact I.slots ops.size (Nat.le_refl _) fun s o ho _ => by
    have hs := (Array.getElem?_eq_some_iff.1 ho).1;exact ⟨fun _ => hs, fun _ => hall s hs⟩
  refine ⟨stf, β, hQ, h.ext (fun t => (hst t).symm) (fun k => (qXj hsl k).symm)⟩
 intro β a w h0
 have start : InvL ops S vs (Array.replicate ops.size false) st0 := by
  have hno : ∀ i, ¬(Array.replicate ops.size false).getD i false = true := fun i hi => by simp [Array.getElem?_replicate] at hi; split at hi <;> simp at hi
  refine ⟨by simp, fun k hk hag => ?_, fun i o hi => absurd hi (hno i), fun i o t v hi => absurd hi (hno i), fun t _ => by rw [hS0]⟩;rw [<- hS0];have := between k 0 (by omega) fun s o _ h2 ho => by
   cases hst : qre o with
   | false => rfl
   | true => exact absurd ((hag s o ho hst).2 (by omega)) (hno s)
  rw [Nat.zero_add] at this;exact this.symm
 have key : ∀ (fuel : Nat) (listed : Array Bool) (st : St) (β : Nat -> Value) (a : Act) (w : World), qwg listed ops.size <= fuel -> InvL ops S vs listed st -> Rel cx F st β a w ->
     wpAny P .any ops (QC cx F Q) fuel listed a w := by
  intro fuel
  induction fuel with
  | zero =>
   intro listed st β a w hf I h;have hr : Region.ready .any ops listed = [] := by
    have h0 : (List.range ops.size).filter (fun i => !listed.getD i true) = [] := List.eq_nil_of_length_eq_zero (by unfold qwg at hf; omega);unfold Region.ready;rw [List.filter_eq_nil_iff] at h0 ⊢;intro i hi;have := h0 i hi;simp only [Bool.not_eq_true, Bool.not_eq_false'] at this;rw [this]; simp
   exact ⟨hr, fin listed st β a w I h hr⟩
  | succ fuel ih =>
   intro listed st β a w hf I h;refine ⟨fun hr => fin listed st β a w I h hr, fun i hi => ?_⟩;obtain ⟨hun, o, ho, hready'⟩ := mem_ready.1 hi;have hlt := (Array.getElem?_eq_some_iff.1 ho).1;have hunf := (qqe I.size hlt).1 hun;obtain ⟨v, hv⟩ := hvs i hlt;obtain ⟨an, han, hstep⟩ := hS i o v ((hget i o).2 ho) hv;have hread : ∀ t ∈ qOd ops o, (S i).get t = st.get t := by
    intro t ht
    by_cases hex : ∃ (m : Nat) (p : Oper), ops[m]? = some p /\ p.dst = some t
    .obtain ⟨m, p, hp, hpd⟩ := hex
     have hm : m < ops.size := (Array.getElem?_eq_some_iff.1 hp).1;obtain ⟨u, hu⟩ := hvs m hm;have only : ∀ (m' : Nat) p', ops[m']? = some p' -> p'.dst = some t -> m' = m := fun m' p' hp' hd' => by
      refine Decidable.byContradiction fun hne => ?_
      exact hD.apart m' m p' p t hne hp' hp hd' hpd
     rcases Nat.lt_trichotomy m i with hlt' | rfl | hgt
     .obtain ⟨e, he, hb, hon⟩ := hD.after1 m i p o t hlt' hp ho hpd ht
      have hl := hready' e he hb;rw [hon] at hl;rw [regB i (by omega) m p t u hlt' hp hpd hu, I.got m p t _ hl hp hpd hu]
     .rw [regA m (by omega) t fun m' p' hm' hp' hd' => by have := only m' p' hp' hd'; omega,
       I.rest t fun m' p' hl hp' hd' => by have := only m' p' hp' hd'; subst this; exact hunf hl]
     .obtain ⟨e, he, hb, hon⟩ := hD.after2 i m o p t hgt ho hp hpd ht
      rw [regA i (by omega) t fun m' p' hm' hp' hd' => by have := only m' p' hp' hd'; omega,
       I.rest t fun m' p' hl hp' hd' => by
        have := only m' p' hp' hd';subst this;have := I.closed _ p hl hp e he hb;rw [hon] at this;exact hunf this]
    .rw [regA i (by omega) t fun m p _ hp hpd => hex ⟨m, p, hp, hpd⟩, I.rest t fun i o _ ho hod => hex ⟨i, o, ho, hod⟩]
   have ahead : qEg o = false -> ∀ (s : Nat) x, ops[s]? = some x -> qre x = true -> s ≠ i -> (listed.getD s false = true ↔ s < i) := by
    intro hnp s x hx hst hne;have hord' := order s x hx hst i o ho (fun e => hne e.symm) hnp;constructor
    .intro hl
     refine Decidable.byContradiction fun hge => ?_
     have hm := hord'.1 (by omega);exact hunf (qPe (ops := ops) hD.back (L := fun i => listed.getD i false = true) I.closed s x hx (fun e he hb => I.closed s x hl hx e he hb) i hm)
    .intro hlt'
     have hm := hord'.2 hlt';exact qPe (ops := ops) hD.back (L := fun i => listed.getD i false = true) I.closed i o ho hready' s hm
   have hslots : qEg o = false -> (qre o = true -> True) -> st.slots = (S i).slots := by
    intro hnp _;refine I.slots i (by omega) fun s x hx hst => ?_
    by_cases hne : s = i
    .subst hne
     exact ⟨fun hl => absurd hl hunf, fun hlt' => by omega⟩
    .exact ahead hnp s x hx hst hne
   have hdst := hd o (by rw [Array.mem_toList_iff]; exact Array.mem_of_getElem? ho);have hopen : qwg (listed.setIfInBounds i true) ops.size <= fuel := by
    have := qqi I.size hlt hun; omega
   have hli : i < listed.size := by rw [I.size]; exact hlt
   have closed' : ∀ (j : Nat) p, (listed.setIfInBounds i true).getD j false = true -> ops[j]? = some p -> ∀ e ∈ p.after, Region.binds .any e = true -> (listed.setIfInBounds i true).getD e.on false = true := by
    intro j p hj hp e he hb;rw [qf hli] at hj ⊢;rcases hj with rfl | hj
    .rw [ho] at hp; simp only [Option.some.injEq] at hp; subst hp
     exact .inr (hready' e he hb)
    .exact .inr (I.closed j p hj hp e he hb)
   have hfix : qef F an := by
    rw [List.getElem?_map] at han;obtain ⟨x, hx, hxa⟩ := Option.map_eq_some_iff.1 han;rw [<- hxa];exact (hAn x (List.mem_of_getElem? hx)).2
   rcases hstep with ⟨hpl, hstep, _⟩ | ⟨sl, hsto, hSn⟩
   .have hns : qre o = false := by
     cases hst : qre o with
     | false => rfl
     | true =>
      obtain ⟨t, x, y, e⟩ := qAi hst;unfold qsc at hpl;rw [e] at hpl;simp only at hpl
      split at hpl <;> simp [still] at hpl
    have I' : InvL ops S vs (listed.setIfInBounds i true) (st.put o.dst v) := by
     refine ⟨by simp [I.size], fun k hk hag => ?_, closed', ?_, ?_⟩
     .rw [qrc]
      refine I.slots k hk fun s x hx hst => ?_
      rw [<- hag s x hx hst, qf hli];refine ⟨fun hl => .inr hl, fun hl => hl.resolve_left fun e => ?_⟩;subst e;rw [ho] at hx; simp only [Option.some.injEq] at hx; subst hx;rw [hns] at hst; cases hst
     .intro j p t u hj hp hpd hu
      rw [qf hli] at hj;rw [qU]
      by_cases hji : j = i
      .subst hji
       rw [ho] at hp; simp only [Option.some.injEq] at hp; subst hp;rw [hv] at hu; simp only [Option.some.injEq] at hu; subst hu;rw [if_pos hpd]
      .have hne : ¬ o.dst = some t := hD.apart j i p o t hji hp ho hpd
       rw [if_neg hne];exact I.got j p t u (hj.resolve_left hji) hp hpd hu
     .intro t ht
      have h1 : ¬ o.dst = some t := ht i o (by rw [qf hli]; exact .inl rfl) ho;rw [qU, if_neg h1];exact I.rest t fun j p hj hp => ht j p (by rw [qf hli]; exact .inr hj) hp
    have hstep' : qnc cx (Phi P cx) ops o an st v := by
     cases hpr : qEg o with
     | true => exact hstep.pure hpr hpl hread
     | false => exact hstep.congr hpl hread (hslots hpr fun _ => trivial).symm
    have run : Run cx (Phi P cx) o an st v -> o.wp P a w (wpAny P .any ops (QC cx F Q) fuel (listed.setIfInBounds i true)) (QC cx F Q) := by
     intro hrun;refine qwf T h hfix hrun ?_;rintro v' st' β' w' u ⟨rfl, rfl⟩ hr hu;exact ih _ _ β' _ w' hopen I' (hr.put hdst hu)
    unfold Go.wpOp;simp only [ho];unfold qnc at hstep'
    split at hstep'
    .rename_i hg
     have hw : Region.wanted o (yielded ops a.tmps) = true := by simp [Region.wanted, hg]
     rw [if_pos hw];exact .inl (run hstep')
    .rename_i j want hg
     obtain ⟨t, ht, hc⟩ := hstep';have htn : t < F.n := by
      cases hoj : ops[j]? with
      | none => rw [hoj] at ht; cases ht
      | some oj =>
       rw [hoj] at ht;exact hd oj (by rw [Array.mem_toList_iff]; exact Array.mem_of_getElem? hoj) t ht
     rcases hc with ⟨hb, hrun⟩ | ⟨rfl, hb | hb⟩
     .have hy := qIb h ht htn hb
      have hw : Region.wanted o (yielded ops a.tmps) = true := by simp [Region.wanted, hg, hy]
      rw [if_pos hw];exact .inl (run hrun)
     .have hy := qIb h ht htn hb
      have hw : ¬ Region.wanted o (yielded ops a.tmps) = true := by simp [Region.wanted, hg, hy]
      rw [if_neg hw];exact ih _ _ β _ w hopen I' (h.put hdst (show RepV β _ w .undef Go.undef from rfl))
     .have hy := qEd h ht htn hb
      have hw : ¬ Region.wanted o (yielded ops a.tmps) = true := by simp [Region.wanted, hg, hy]
      rw [if_neg hw];exact ih _ _ β _ w hopen I' (h.put hdst (show RepV β _ w .undef Go.undef from rfl))
   .have hnp : qEg o = false := by
     obtain ⟨t, x, y, e⟩ := qAi hsto.1;unfold qEg; rw [e]
    have hsl := hslots hnp fun _ => trivial
    have hsto' := hsto.congr (ops := ops) hread hsl.symm;obtain ⟨g1, g2, g3, g4, g5, g6⟩ := hsto';subst g4;have I' : InvL ops S vs (listed.setIfInBounds i true) ⟨st.regs, sl⟩ := by
     refine ⟨by simp [I.size], fun k hk hag => ?_, closed', ?_, ?_⟩
     .have hik : i < k := (hag i o ho g1).1 (by rw [qf hli]; exact .inl rfl)
      have hb := between (k - (i + 1)) (i + 1) (by omega) fun s x h1 h2 hx => by
       cases hst : qre x with
       | false => rfl
       | true =>
        have h3 := (hag s x hx hst).2 (by omega);rw [qf hli] at h3;have h4 := h3.resolve_left (by omega);have := (ahead hnp s x hx hst (by omega)).1 h4;omega
      rw [show i + 1 + (k - (i + 1)) = k by omega] at hb;rw [hb, hSn]
     .intro j p t u hj hp hpd hu
      rw [qf hli] at hj;have hji : j ≠ i := by
       rintro rfl;rw [ho] at hp; simp only [Option.some.injEq] at hp; subst hp;rw [g3] at hpd; cases hpd
      exact I.got j p t u (hj.resolve_left hji) hp hpd hu
     .intro t ht
      exact I.rest t fun j p hj hp => ht j p (by rw [qf hli]; exact .inr hj) hp
    have hwop : AM.wpOp cx (Phi P cx) o .no st (fun v' st' => st' = ⟨st.regs, sl⟩) := by
     obtain ⟨t, x, y, e⟩ := qAi g1;rw [qWc (by rw [e]; intro c hc; cases hc)];exact Side.mk_and g5 g6
    unfold Go.wpOp;simp only [ho];have hw : Region.wanted o (yielded ops a.tmps) = true := by simp [Region.wanted, g2]
    rw [if_pos hw];refine .inl (qwf T h hfix hwop ?_);rintro v' st' β' w' u rfl hr hu;refine ih _ _ β' _ w' hopen I' ?_;have := hr.put hdst hu;rw [g3] at this ⊢;exact this
 exact key ops.size _ st0 β a w (by
  unfold qwg;refine Nat.le_trans (List.length_filter_le _ _) ?_;simp) start h0
end
end Go.AM
set_option linter.unusedSimpArgs false
set_option linter.unusedVariables false
namespace Go.AM
open Go
section
variable {P : Program} {cx : Cx} {ops : Array Oper} {Q : Exit -> Act -> World -> Prop}
theorem qsp (fr : List Nat) : ∀ (l : List Oper) (j k : Nat), (qql fr j l)[k]? = (l[k]?).map (qNo fr (j + k))
 | [], j, k => by simp [qql]
 | o :: l, j, 0 => by simp [qql]
 | o :: l, j, k + 1 => by
  simp only [qql, List.getElem?_cons_succ];rw [qsp fr l (j + 1) k, show j + 1 + k = j + (k + 1) by omega]
theorem qtk (fr : List Nat) : ∀ (l : List Oper) (j : Nat), (qql fr j l).length = l.length
 | [], _ => rfl
 | _ :: l, j => by simp [qql, qtk fr l]
theorem qti (i : Nat) : (qne ops)[i]? = (ops[i]?).map (qNo (qtc ops.toList) i) := by
 unfold qne
 rw [List.getElem?_toArray, qsp, Nat.zero_add]; simp
theorem qXo : (qne ops).size = ops.size := by
 unfold qne
 rw [List.size_toArray, qtk]; simp
theorem qew {o : Oper} (h : o ∈ (qne ops).toList) : ∃ o' ∈ ops.toList, o.dst = o'.dst := by
 obtain ⟨i, hi⟩ := List.mem_iff_getElem?.1 h
 have hi' : (qne ops)[i]? = some o := by simpa using hi
 rw [qti] at hi'
 obtain ⟨o', h1, rfl⟩ := Option.map_eq_some_iff.1 hi'
 exact ⟨o', by rw [Array.mem_toList_iff]; exact Array.mem_of_getElem? h1, rfl⟩
theorem qoq (tmps : Array Value) (j : Nat) : yielded (qne ops) tmps j = yielded ops tmps j := by
 unfold yielded
 rw [qti]
 cases ops[j]? <;> rfl
theorem qvp (i : Nat) (K : Act -> World -> Prop) (a : Act) (w : World) : Go.wpOp P (qne ops) Q i K a w = Go.wpOp P ops Q i K a w := by
 unfold Go.wpOp
 rw [qti]
 have hy : yielded (qne ops) a.tmps = yielded ops a.tmps := by funext j; exact qoq _ _
 cases ops[i]? with
 | none => rfl
 | some o =>
  simp only [Option.map_some];rw [hy]; rfl
theorem quj {listed : Array Bool} (hl : ∀ i ∈ qtc ops.toList, listed.getD i false = true) : Region.ready .any (qne ops) listed = Region.ready .any ops listed := by
 unfold Region.ready
 rw [qXo]
 refine List.filter_congr fun i _ => ?_
 rw [qti]
 cases ops[i]? with
 | none => rfl
 | some o =>
  simp only [Option.map_some, Option.getD_some];congr 1;unfold qNo;rw [Array.all_append];have : (bif mem i (qtc ops.toList) then #[] else (((qtc ops.toList).filter fun j => Nat.blt j i).map fun j => (⟨j, .data⟩ : Edge)).toArray).all (fun e => !Region.binds .any e || listed.getD e.on false) = true := by
   cases mem i (qtc ops.toList)
   .simp only [cond_false, List.all_toArray, List.all_map]
    rw [List.all_eq_true];intro j hj;have := hl j (List.mem_filter.1 hj).1;have h' : listed[j]?.getD false = true := by simpa using this
    simp [h']
   .simp
  rw [this, Bool.and_true]
theorem qNq : ∀ (fuel : Nat) (listed : Array Bool) (a : Act) (w : World), (∀ i ∈ qtc ops.toList, listed.getD i false = true) -> wpAny P .any (qne ops) Q fuel listed a w -> wpAny P .any ops Q fuel listed a w
 | 0, listed, a, w, hl, h => by
  obtain ⟨h1, h2⟩ := h;exact ⟨by rw [<- quj hl]; exact h1, h2⟩
 | fuel + 1, listed, a, w, hl, h => by
  obtain ⟨h1, h2⟩ := h;refine ⟨fun hr => h1 (by rw [quj hl]; exact hr), fun i hi => ?_⟩;have := h2 i (by rw [quj hl]; exact hi);rw [qvp] at this;exact wpOp_mono (fun a' w' h' => qNq fuel _ a' w' (fun j hj => getD_set_true (hl j hj)) h') this
def mvAt (ops : Array Oper) (i : Nat) (a : Act) : Act := match ops[i]? with
 | some o => (match o.op with | .move x => a.put o.dst (a.eval x) | .assign x => a.put o.dst (a.eval x) | _ => a)
 | none => a
structure FreeAt (ops : Array Oper) (i : Nat) (o : Oper) : Prop where
 at' : ops[i]? = some o
 guard : o.guard = none
 bare : ∀ e ∈ o.after, Region.binds .any e = false
 src : ∃ t, (o.op = .move (.tmp t) ∨ o.op = .assign (.tmp t)) /\ ∀ (j : Nat) oj, ops[j]? = some oj -> oj.dst ≠ some t
theorem qVn : ∀ {l : List Oper} {o : Oper} {t : Nat}, o ∈ l -> o.dst = some t -> t ∈ qsd l
 | [], o, t, h, _ => by cases h
 | x :: l, o, t, h, hd => by
  unfold qsd;rcases List.mem_cons.1 h with rfl | h
  .rw [hd]; exact List.mem_cons_self ..
  .have := qVn h hd
   split
   .exact List.mem_cons_of_mem _ this
   .exact this
theorem qlj {i : Nat} (h : i ∈ qtc ops.toList) : (∃ o, FreeAt ops i o) /\ ops.toList.all qqp = true := by
 unfold qtc at h
 cases hs : ops.toList.all qqp
 .rw [hs] at h; simp at h
 .rw [hs] at h
  simp only [cond_true] at h;obtain ⟨h1, h2⟩ := List.mem_filter.1 h
  split at h2
  .rename_i o ho
   refine ⟨⟨o, ?_⟩, rfl⟩;have ho' : ops[i]? = some o := by simpa using ho
   unfold qTt at h2;simp only [Bool.and_eq_true] at h2;obtain ⟨h3, h4, h5⟩ := h2;have hg : o.guard = none := by
    unfold qEg at h3
    split at h3 <;> first | assumption | cases h3
   refine ⟨ho', hg, fun e he => ?_, ?_⟩
   .have := List.all_eq_true.1 h4 e (by simpa using he)
    simpa using this
   .have nod : ∀ t, (!mem t (qsd ops.toList)) = true -> ∀ (j : Nat) oj, ops[j]? = some oj -> oj.dst ≠ some t := by
     intro t ht j oj hj hd;have := qVn (Array.mem_toList_iff.2 (Array.mem_of_getElem? hj)) hd;rw [(qvb t _).2 this] at ht;cases ht
    split at h5
    .rename_i t e; exact ⟨t, .inl e, nod t h5⟩
    .rename_i t e; exact ⟨t, .inr e, nod t h5⟩
    .cases h5
  .cases h2
theorem qZr {o : Oper} {t : Nat} (h : t ∈ o.looksAt ops) : t ∈ qOd ops o := by
 unfold Oper.looksAt at h
 unfold qOd
 rcases List.mem_append.1 h with h | h
 .refine List.mem_append_left _ ?_
  obtain ⟨x, hx, he⟩ := List.mem_filterMap.1 h;cases x <;> simp at he
  subst he;exact qkf hx
 .refine List.mem_append_right _ ?_
  unfold qpt;cases hg : o.guard with
  | none => rw [hg] at h; simp at h
  | some p =>
   rw [hg] at h;simp only at h ⊢;cases hd : (ops[p.1]?).bind (·.dst) with
   | none => rw [hd] at h; simp at h
   | some u => rw [hd] at h; simpa using h
theorem Free.exec {i : Nat} {o : Oper} (h : FreeAt ops i o) (a : Act) : ∃ v, mvAt ops i a = a.put o.dst v /\ ∀ w, (execOp a.eval o).run P w = .ok (.value v) w := by
 obtain ⟨t, hs, _⟩ := h.src
 unfold mvAt
 rw [h.at']
 simp only
 rcases hs with e | e
 .exact ⟨a.eval (.tmp t), by rw [e], fun w => by simp [execOp, e]⟩
 .exact ⟨a.eval (.tmp t), by rw [e], fun w => by simp [execOp, e]⟩
theorem qDn {o : Oper} (h : o.guard = none) (f : Nat -> Option Bool) : Region.wanted o f = true := by simp [Region.wanted, h]
theorem qru {i : Nat} {o : Oper} (h : FreeAt ops i o) {listed : Array Bool} (hu : listed.getD i true = false) : i ∈ Region.ready .any ops listed :=
 mem_ready.2 ⟨hu, o, h.at', fun e he hb => by rw [h.bare e he] at hb; cases hb⟩
theorem qns {i : Nat} {o : Oper} (h : FreeAt ops i o) (hi : i ∈ qtc ops.toList) {listed : Array Bool} (hu : listed.getD i true = false) : i ∈ Region.ready .any (qne ops) listed := by
 refine mem_ready.2 ⟨hu, qNo (qtc ops.toList) i o, by rw [qti, h.at']; rfl, fun e he hb => ?_⟩
 unfold qNo at he
 rw [(qvb _ _).2 hi] at he
 simp only [cond_true, Array.append_empty] at he
 rw [h.bare e he] at hb; cases hb
theorem qEy (hout : ¬ LetsOut Q) : ∀ (S : List Nat) (fuel : Nat) (listed : Array Bool) (a : Act) (w : World), (∀ i ∈ S, i ∈ qtc ops.toList) -> S.Nodup -> (∀ i ∈ S, listed.getD i true = false) ->
    wpAny P .any (qne ops) Q (fuel + S.length) listed a w -> wpAny P .any (qne ops) Q fuel (S.foldl (fun l i => l.setIfInBounds i true) listed) (S.foldl (fun a i => mvAt ops i a) a) w
 | [], fuel, listed, a, w, _, _, _, h => h
 | i :: S, fuel, listed, a, w, hf, hn, hu, h => by
  obtain ⟨o, ho⟩ := (qlj (hf i (List.mem_cons_self ..))).1;obtain ⟨v, hv, hr⟩ := Free.exec (P := P) ho a;have h1 := h.2 i (qns ho (hf i (List.mem_cons_self ..)) (hu i (List.mem_cons_self ..)));rw [qvp] at h1;unfold Go.wpOp at h1;rw [ho.at'] at h1;simp only [qDn ho.guard, if_true] at h1;have h2 := h1.resolve_right fun h => hout h.2
  unfold Oper.wp at h2;rw [hr w, Oper.upon_value, <- hv] at h2;exact qEy hout S fuel _ _ w (fun j hj => hf j (List.mem_cons_of_mem _ hj)) (List.nodup_cons.1 hn).2 (fun j hj => by
   have hne : i ≠ j := fun e => (List.nodup_cons.1 hn).1 (e ▸ hj)
   rw [getD_set_ne true hne]; exact hu j (List.mem_cons_of_mem _ hj)) h2
theorem qlv (hD : Drawn ops) (hQ : ∀ (c : List PanicEntry) (a : Act) (w : World), ¬ Q (.panic c) a w) : ∀ (S : List Nat) (fuel : Nat) (listed : Array Bool) (a : Act) (w : World), (∀ i ∈ S, i ∈ qtc ops.toList) -> S.Nodup -> (∀ i ∈ S, listed.getD i true = false) ->
    wpAny P .any ops Q fuel (S.foldl (fun l i => l.setIfInBounds i true) listed) (S.foldl (fun a i => mvAt ops i a) a) w -> wpAny P .any ops Q (fuel + S.length) listed a w
 | [], fuel, listed, a, w, _, _, _, h => h
 | i :: S, fuel, listed, a, w, hf, hn, hu, h => by
  obtain ⟨⟨o, ho⟩, hsel⟩ := qlj (hf i (List.mem_cons_self ..));obtain ⟨v, hv, hr⟩ := Free.exec (P := P) ho a;have h1 := qlv hD hQ S fuel (listed.setIfInBounds i true) (mvAt ops i a) w (fun j hj => hf j (List.mem_cons_of_mem _ hj)) (List.nodup_cons.1 hn).2 (fun j hj => by
   have hne : i ≠ j := fun e => (List.nodup_cons.1 hn).1 (e ▸ hj)
   rw [getD_set_ne true hne]; exact hu j (List.mem_cons_of_mem _ hj)) h
  rw [hv] at h1;refine wpAny_first ho.at' (fun j x cs b hj e => ?_) (fun c a w h => absurd h (hQ c _ w)) (fuel + S.length) listed a w (fun j oj hj hne hun hno => ?_) (qru ho (hu i (List.mem_cons_self ..)))
   (.inl ⟨qDn ho.guard _, hr⟩) h1
  .have := List.all_eq_true.1 hsel x (Array.mem_toList_iff.2 (Array.mem_of_getElem? hj))
   unfold qqp at this;rw [e] at this; cases this
  .obtain ⟨t, hs, hnd⟩ := ho.src
   unfold Oper.apart;have hlook : ∀ d, o.dst = some d -> d ∉ oj.looksAt ops := by
    intro d hd hin;have hin := qZr hin;rcases Nat.lt_or_gt_of_ne hne with hlt | hgt
    .obtain ⟨e, he, hb, hon⟩ := hD.after2 j i oj o d hlt hj ho.at' hd hin
     rw [ho.bare e he] at hb; cases hb
    .obtain ⟨e, he, hb, hon⟩ := hD.after1 i j o oj d hgt ho.at' hj hd hin
     exact hno e he hb hon
   have hmine : ∀ d, oj.dst = some d -> d ∉ o.looksAt ops := by
    intro d hd hin;unfold Oper.looksAt at hin;rw [ho.guard] at hin;rcases hs with e | e
    all_goals
     rw [e] at hin;simp [Op.operands] at hin;subst hin;exact hnd j oj hj hd
   have hdd : ∀ d, o.dst = some d -> oj.dst ≠ some d := fun d hd => hD.apart i j o oj d (Ne.symm hne) ho.at' hj hd
   cases hd1 : o.dst with
   | none =>
    cases hd2 : oj.dst with
    | none => rfl
    | some d2 => simp only [Bool.true_and, Bool.not_eq_true']; simpa using hmine d2 hd2
   | some d1 =>
    have g1 := hlook d1 hd1;have g2 := hdd d1 hd1;cases hd2 : oj.dst with
    | none => simp; exact g1
    | some d2 =>
     have g3 := hmine d2 hd2;rw [hd2] at g2;simp only [Option.some.injEq, ne_eq] at g2;simp [g1, g3]; exact fun e => g2 (by rw [e])
theorem qvn : ∀ (S : List Nat) (listed : Array Bool) (i : Nat), i < listed.size -> i ∈ S ∨ listed.getD i false = true -> (S.foldl (fun l i => l.setIfInBounds i true) listed).getD i false = true
 | [], listed, i, _, h => by rcases h with h | h; cases h; exact h
 | j :: S, listed, i, hi, h => by
  refine qvn S _ i (by simpa using hi) ?_;rcases h with h | h
  .rcases List.mem_cons.1 h with rfl | h
   .right; simp [hi]
   .exact .inl h
  .exact .inr (getD_set_true h)
theorem qxs (hD : Drawn ops) (hQ : ∀ (c : List PanicEntry) (a : Act) (w : World), ¬ Q (.panic c) a w) (hout : ¬ LetsOut Q) {a : Act} {w : World}
    (h : wpAny P .any (qne ops) Q (qne ops).size (Array.replicate (qne ops).size false) a w) : wpAny P .any ops Q ops.size (Array.replicate ops.size false) a w := by
 rw [qXo] at h
 have hfl : (qtc ops.toList).length <= ops.size := by
  unfold qtc;cases ops.toList.all qqp
  .simp
  .simp only [cond_true]
   refine Nat.le_trans (List.length_filter_le _ _) ?_;simp
 have hnd : (qtc ops.toList).Nodup := by
  unfold qtc;cases ops.toList.all qqp
  .simp
  .simp only [cond_true]
   exact List.Pairwise.filter _ List.nodup_range
 have hlt : ∀ i ∈ qtc ops.toList, i < ops.size := fun i hi => by
  obtain ⟨o, ho⟩ := (qlj hi).1;exact (Array.getElem?_eq_some_iff.1 ho.at').1
 have hun : ∀ i ∈ qtc ops.toList, (Array.replicate ops.size false).getD i true = false := fun i hi => by
  have := hlt i hi;simp [this]
 have e : ops.size = (ops.size - (qtc ops.toList).length) + (qtc ops.toList).length := by omega
 rw [e] at h ⊢
 rw [<- e] at h ⊢
 have h' : wpAny P .any (qne ops) Q ((ops.size - (qtc ops.toList).length) + (qtc ops.toList).length) (Array.replicate ops.size false) a w := by rw [<- e]; exact h
 have h1 := qEy hout (qtc ops.toList) (ops.size - (qtc ops.toList).length) _ a w (fun i hi => hi) hnd hun h'
 have h2 := qNq _ _ _ w (fun i hi => qvn _ _ i (by simpa using hlt i hi) (.inl hi)) h1
 have h3 := qlv hD hQ (qtc ops.toList) (ops.size - (qtc ops.toList).length) _ a w (fun i hi => hi) hnd hun h2
 rw [<- e] at h3
 exact h3
end
section
variable {cx : Cx} {Φ : Con}
theorem Side.and_mono {s : Side} {k k' : Prop} (h : k -> k') (hs : s.and k) : s.and k' := by
 cases s with
 | t => exact h hs
 | f => exact False.elim hs
 | p q => exact ⟨hs.1, h hs.2⟩
theorem qMo {o : Oper} {an : Ann} {st : St} {κ κ' : V -> St -> Prop} (h : ∀ v st, κ v st -> κ' v st) (hw : AM.wpOp cx Φ o an st κ) : AM.wpOp cx Φ o an st κ' := by
 unfold AM.wpOp at hw ⊢
 split at hw
 .split at hw
  .exact Side.and_mono (h _ _) hw
  .split at hw
   .unfold qrl at hw ⊢
    split at hw
    .obtain ⟨x, y, h1, h2⟩ := hw
     exact ⟨x, y, h1, h _ _ h2⟩
    .exact hw.elim
   .exact hw.elim
  .exact hw.elim
 .exact Side.and_mono (h _ _) hw
theorem qhj {all : Array Oper} {Q Q' : Exit -> St -> Prop} (h : ∀ st, Q .normal st -> Q' .normal st) : ∀ (l : List Oper) (as : List (List Ghost × Ann)) (st : St), qE cx Φ all Q l as st -> qE cx Φ all Q' l as st
 | [], _, st, hw => h st hw
 | _ :: _, [], _, hw => hw.elim
 | o :: os, a :: as, st, hw => by
  have ih := qhj (all := all) h os as;unfold qE at hw ⊢;cases hg : que a.1 st with
  | none => rw [hg] at hw; exact hw.elim
  | some st1 =>
   rw [hg] at hw;simp only at hw ⊢;cases hgu : o.guard with
   | none =>
    rw [hgu] at hw;exact qMo (fun v st' h' => ih _ h') hw
   | some p =>
    rw [hgu] at hw;obtain ⟨j, want⟩ := p;simp only at hw ⊢;cases hb : (all[j]?).bind (·.dst) with
    | none => rw [hb] at hw; exact hw.elim
    | some t =>
     rw [hb] at hw;simp only at hw ⊢;cases hv : st1.get t with
     | one c =>
      rw [hv] at hw;cases c with
      | bool b =>
       simp only at hw ⊢;cases want <;> cases b <;> simp only [cond_true, cond_false] at hw ⊢ <;> first | exact ih _ hw | exact qMo (fun v st' h' => ih _ h') hw
      | _ => exact hw.elim
     | undef => rw [hv] at hw; exact ih _ hw
     | _ => rw [hv] at hw; exact hw.elim
theorem qes {ops : Array Oper} {as : List (List Ghost × Ann)} {Q Q' : Exit -> St -> Prop} (h : ∀ st, Q .normal st -> Q' .normal st) {p : Nat} {K : List Nat} {st : St} (hw : qap cx Φ ops as Q p K st) : qap cx Φ ops as Q' p K st := by
 unfold qap at hw ⊢
 split at hw
 .refine qhj (fun st' h' => ?_) _ _ _ hw
  exact ⟨h'.1, qhj h _ _ _ h'.2⟩
 .exact hw.elim
end
end Go.AM
set_option linter.unusedSimpArgs false
set_option linter.unusedVariables false
namespace Go.AM
open Go Go.MapKept
section
variable {P : Program} {cx : Cx} {F : Fm} {st : St} {β : Nat -> Value} {a : Act} {w : World} {o : Oper}
def qcg (n : Nat) : Code -> Bool
 | .region _ ops _ => qxy n ops.toList
 | .seq a b => qcg n a && qcg n b
 | .cond _ a b => qcg n a && qcg n b
 | .block _ a => qcg n a
 | .loop a => qcg n a
 | _ => true
def wEq (w1 w : World) : Prop := w1.heap = w.heap /\ Same w w1
theorem wEq.refl (w : World) : wEq w w := ⟨rfl, Same.refl w⟩
theorem wEq.trans {a b c : World} (h : wEq a b) (g : wEq b c) : wEq a c := ⟨h.1.trans g.1, g.2.trans h.2⟩
theorem wEq.drew (w : World) : wEq w.drew w := ⟨rfl, rfl, rfl, rfl⟩
theorem qbl (w : World) (o : Obj) : (w.alloc o).heap = w.heap.push o := rfl
theorem qYj {w1 w : World} (he : wEq w1 w) (ob : Obj) {b : Nat} {o : Obj} (h : w.heap[b]? = some o) : (w1.alloc ob).heap[b]? = some o := by
 rw [qbl, he.1, Array.getElem?_push, if_neg (Nat.ne_of_lt (qnb h))]; exact h
theorem Rel.junk (h : Rel cx F st β a w) {ts : List Nat} {a' : Act} {w1 : World} {ob : Obj} (he : wEq w1 w) (hd : a'.defers = a.defers) (hs : a'.tmps.size = a.tmps.size)
    (ht : ∀ t ∈ ts, a'.tmps.getD t Go.undef = a.tmps.getD t Go.undef) : Rel cx F ⟨qO ts st, st.slots⟩ β a' (w1.alloc ob) := by
 have hX : XX F ⟨qO ts st, st.slots⟩ β = XX F st β := rfl
 have hfr : Fr (XX F st β) w (XX F st β) (w1.alloc ob) := fun b o hb hx => ⟨qYj he ob hb, hx⟩
 have hsame : Same w (w1.alloc ob) := he.2
 refine ⟨hd.trans h.defers, hs.trans h.size, ?_, ?_, h.inj, ?_, ?_, h.owned, ?_, h.outer, h.fix, h.same.trans hsame⟩
 .intro t v hv
  have : t ∈ ts /\ v = st.get t := by
   have key : ∀ l : List Nat, look t (l.map fun t => (t, st.get t)) = some v -> t ∈ l /\ v = st.get t := by
    intro l
    induction l with
    | nil => intro h; simp [look] at h
    | cons x l ih =>
     intro h;rw [List.map_cons, qwb] at h
     split at h
     .rename_i e
      have e : t = x := e;simp only [Option.some.injEq] at h;exact ⟨by rw [e]; exact List.mem_cons_self .., by rw [e]; exact h.symm⟩
     .obtain ⟨g1, g2⟩ := ih h
      exact ⟨List.mem_cons_of_mem _ g1, g2⟩
   exact key ts hv
  rw [hX, ht t this.1, this.2];exact RepV.mono hfr (h.get t)
 .intro k s hk
  rw [hX];exact RepS.mono hfr (fun b o _ ho => qYj he ob ho) (h.slots k s hk)
 .intro g t x hg; rw [hX]; exact Rep.mono hfr (.ptr t) (h.glob g t x hg)
 .intro b o hb ho; exact qYj he ob (h.frame b o hb ho)
 .rw [qbl, he.1]; simp; have := h.sizes; omega
theorem qSw (w : World) (o : Obj) {i : Nat} (h : i < w.heap.size) : (w.alloc o).heap[i]? = w.heap[i]? := by
 rw [qbl, Array.getElem?_push, if_neg (Nat.ne_of_lt h)]
theorem qDw (w : World) (ty bm since c0 : Nat) (seen : Array Nat) (es : Array MapEntry) (clock : Nat) (hb : w.heap[bm]? = some (.map es clock)) (hold : ∀ x ∈ es.toList, x.born < since) (hsc : since <= c0) :
    ((leftOf es seen).size = 0 /\ (Instr.next (.pointer (some ⟨w.heap.size, 0, none⟩)) false ty).run P (w.alloc (.mapIter (some bm) since seen c0)) = .ok (.tuple #[.bool false]) (w.alloc (.mapIter (some bm) since seen c0))) ∨
    ∃ e ∈ (leftOf es seen).toList, ∃ w1 : World, wEq w1 w /\ (Instr.next (.pointer (some ⟨w.heap.size, 0, none⟩)) false ty).run P (w.alloc (.mapIter (some bm) since seen c0)) = .ok (.tuple #[.bool true, e.key, e.val]) (w1.alloc (.mapIter (some bm) since (seen.push e.born) clock)) := by
 have hb' : (w.alloc (.mapIter (some bm) since seen c0)).heap[bm]? = some (.map es clock) := by rw [qSw w _ (qnb hb), hb]
 simp only [Instr.next, getObj, Sem.run_bind, Sem.run, heap_alloc_new, hb', Result.andThen, next_test_false seen es since c0 hold hsc, Bool.false_eq_true, if_false]
 unfold leftOf
 have hmem : ∀ x ∈ (Array.filter (fun e => !seen.contains e.born) es).toList, x.born < since := fun x hx => hold x (by simp at hx ⊢; exact hx.1)
 generalize Array.filter (fun e => !seen.contains e.born) es = L at hmem ⊢
 have e1 : L.filter (fun x => decide (x.born < since)) = L := Array.filter_eq_self.2 (fun x hx => by simpa using hmem x (by simpa using hx))
 have e2 : L.filter (fun x => decide (x.born >= since)) = #[] := by
  rw [Array.filter_eq_empty_iff];intro x hx;have := hmem x (by simpa using hx);simp;omega
 simp only [e1, e2, Array.append_empty]
 by_cases h0 : L.size = 0
 .left
  obtain rfl : L = #[] := Array.eq_empty_of_size_eq_zero h0;exact ⟨rfl, by simp [choose, Sem.run, Question.forced]⟩
 .right
  have hne : L.isEmpty = false := by simp [Array.isEmpty, h0]
  simp only [hne, Bool.false_eq_true, if_false, Array.empty_append, Array.size_map];have hch : ∃ (j : Nat) (w1 : World), j < L.size /\ wEq w1 w /\ (choose (Question.mapNext L.size)).run P (w.alloc (.mapIter (some bm) since seen c0)) = .ok j (w1.alloc (.mapIter (some bm) since seen c0)) := by
   by_cases hf : L.size <= 1
   .exact ⟨0, w, by omega, wEq.refl w, by simp [choose, Sem.run, Question.forced, hf]⟩
   .exact ⟨_, w.drew, Nat.mod_lt _ (by omega), wEq.drew w, by
     simp only [choose, Sem.run, Question.forced, decide_eq_true_eq, hf, if_false, Question.cut];rfl⟩
  obtain ⟨j, w1, hj, hal, hrun⟩ := hch;refine ⟨L[j], by simp, w1, hal, ?_⟩;have hset : ∀ (a : Option Nat) (b : Nat) (c : Array Nat) (d : Nat) (o' : Obj), (setObj w.heap.size o').run P (w1.alloc (.mapIter a b c d)) = .ok () (w1.alloc o') := fun a b c d o' => by
   simp only [setObj, Sem.run];rw [<- hal.1, heap_alloc_new]
   show Result.ok () ({ w1.alloc (.mapIter a b c d) with heap := (w1.heap.push (.mapIter a b c d)).setIfInBounds w1.heap.size o' } : World) = _
   have : (w1.heap.push (.mapIter a b c d)).setIfInBounds w1.heap.size o' = w1.heap.push o' := by
    apply Array.toList_inj.1
    simp
   rw [this];rfl
  simp only [hrun, Array.getElem?_map, Array.getElem?_eq_getElem hj, Option.map_some, Sem.run_bind, hset, Result.andThen];rfl
theorem qPw {next : Act -> World -> Prop} {Q : Exit -> Act -> World -> Prop} {v : Value} {w' : World} (hg : (execOp a.eval o).run P w = .ok (.value v) w') (hn : next (a.put o.dst v) w') : o.wp P a w next Q := by
 unfold Oper.wp
 rw [hg]; exact hn
theorem qee {ops : Array Oper} {Q : Exit -> Act -> World -> Prop} {i : Nat} {rest : List Nat} (ho : ops[i]? = some o) (hg : nog o = true) {v : Value} {w' : World} (hr : (execOp a.eval o).run P w = .ok (.value v) w')
    (hn : wpOps P ops Q rest (a.put o.dst v) w') : wpOps P ops Q (i :: rest) a w := by
 simp only [wpOps, ho]
 have : Region.wanted o (yielded ops a.tmps) = true := by
  unfold nog at hg
  split at hg
  .rename_i h; simp [Region.wanted, h]
  .cases hg
 rw [if_pos this]
 exact .inl (qPw hr hn)
theorem qed {a : Act} {t : Nat} (ht : t < a.tmps.size) (u : Value) (j : Nat) : (a.put (some t) u).tmps.getD j Go.undef = if j = t then u else a.tmps.getD j Go.undef := by
 simp only [Act.put]
 by_cases e : j = t
 .subst e; simp [Array.getD, ht]
 .have hne : ¬ t = j := fun e' => e e'.symm
  rw [if_neg e];simp [Array.getElem?_setIfInBounds, hne]
theorem qGb {a : Act} (d : Option Nat) (u : Value) : (a.put d u).tmps.size = a.tmps.size := by cases d <;> simp [Act.put]
theorem qyc {a : Act} (d : Option Nat) (u : Value) : (a.put d u).defers = a.defers := by cases d <;> rfl
theorem quu (h : Rel cx F st β a w) {v : V} (hv : qRr cx st o.op = some v) : ∃ u, (execOp a.eval o).run P w = .ok (.value u) w /\ RepV β (XX F st β) w v u := by
 cases ho : o.op with
 | move x =>
  rw [ho] at hv;simp only [qRr, Option.some.injEq] at hv; subst hv;exact ⟨a.eval x, by simp [execOp, ho], h.eval x⟩
 | assign x =>
  rw [ho] at hv;simp only [qRr, Option.some.injEq] at hv; subst hv;exact ⟨a.eval x, by simp [execOp, ho], h.eval x⟩
 | binOp op t x y u =>
  rw [ho] at hv;simp only [qRr] at hv;have hx := h.eval x;have hy := h.eval y
  split at hv
  .rename_i k p j q hxv hyv
   rw [hxv] at hx; rw [hyv] at hy;have hx' : a.eval x = .int k p := hx;have hy' : a.eval y = .int j q := hy
   split at hv
   .rename_i hkj
    obtain rfl := of_decide_eq_true hkj;cases op <;> simp only [cmpV, Option.some.injEq] at hv <;> first
     | (cases hv; done)
     | (subst hv; exact ⟨_, by simp [execOp, ho, hx', hy', eqGuard_at_int, binOp_eql, binOp_neq, binOp_lss, binOp_leq, binOp_gtr, binOp_geq], rfl⟩)
   .cases hv
  .cases hv
 | _ => rw [ho] at hv; cases hv
theorem qYn (T : TOk P cx) {ops : Array Oper} {Q : Exit -> Act -> World -> Prop} (hd : ∀ o ∈ ops.toList, ∀ t, o.dst = some t -> t < F.n) :
    ∀ (l : List Oper) (i : Nat) (st st' : St) (a : Act), ops.toList.drop i = l -> Rel cx F st β a w -> qmk cx l st = some st' ->
     (∀ a', Rel cx F st' β a' w -> a'.defers = a.defers -> a'.tmps.size = a.tmps.size -> (∀ t, t ∉ qsd l -> a'.tmps.getD t Go.undef = a.tmps.getD t Go.undef) -> Q .normal a' w) -> wpOps P ops Q (List.range' i l.length) a w
 | [], i, st, st', a, _, h, hr, hq => by
  simp only [qmk, Option.some.injEq] at hr;subst hr;exact hq a h rfl rfl fun _ _ => rfl
 | o :: l, i, st, st', a, hdrop, h, hr, hq => by
  have hoi : ops[i]? = some o := by
   have : (ops.toList.drop i)[0]? = some o := by rw [hdrop]; rfl
   simpa using this
  have hmem : o ∈ ops.toList := by
   have : o ∈ ops.toList.drop i := by rw [hdrop]; exact List.mem_cons_self ..
   exact List.mem_of_mem_drop this
  have hdrop' : ops.toList.drop (i + 1) = l := by rw [<- List.drop_drop, hdrop]; rfl
  simp only [qmk] at hr
  split at hr
  .rename_i v hns hv
   obtain ⟨u, hrun, hrep⟩ := quu (P := P) h hv;have hdst := hd o hmem;rw [List.length_cons, List.range'_succ];refine qee hoi hns hrun (qYn T hd l (i + 1) _ st' _ hdrop' (h.put hdst hrep) hr fun a' g1 g2 g3 g4 => hq a' g1 (g2.trans (qyc _ _)) (g3.trans (qGb _ _)) fun t ht => ?_);cases hdo : o.dst with
   | none =>
    rw [g4 t (by simpa [qsd, hdo] using ht), hdo]; rfl
   | some d =>
    have ht' : t ≠ d /\ t ∉ qsd l := by simpa [qsd, hdo] using ht
    rw [g4 t ht'.2, hdo, qed (by rw [h.size]; exact hdst d hdo), if_neg ht'.1]
  .cases hr
theorem qqk {α : Type} {t : α -> Option Bool} : ∀ {l : List α} {b : Bool}, anyC t l = some b -> (∀ x ∈ l, ∃ c, t x = some c) /\ (b = true ↔ ∃ x ∈ l, t x = some true)
 | [], b, h => by simp [anyC] at h; subst h; simp
 | x :: l, b, h => by
  simp only [anyC] at h
  split at h
  .rename_i c d hc hd
   simp only [Option.some.injEq] at h;obtain ⟨h1, h2⟩ := qqk hd;refine ⟨fun y hy => ?_, ?_⟩
   .rcases List.mem_cons.1 hy with rfl | hy
    .exact ⟨c, hc⟩
    .exact h1 y hy
   .subst h
    rw [Bool.or_eq_true, h2];constructor
    .rintro (rfl | ⟨y, hy, hh⟩)
     .exact ⟨x, List.mem_cons_self .., hc⟩
     .exact ⟨y, List.mem_cons_of_mem _ hy, hh⟩
    .rintro ⟨y, hy, hh⟩
     rcases List.mem_cons.1 hy with rfl | hy
     .rw [hc] at hh; left; simpa using hh
     .exact .inr ⟨y, hy, hh⟩
  .cases h
theorem qus {o1 o2 o3 o4 o5 o6 o7 : Oper} {R : Rng} (h : qOv o1 o2 o3 o4 o5 o6 o7 = some R) :
    (o1.op = .move (.tmp R.m) /\ o1.dst = some R.t1 /\ nog o1 = true) /\ (o2.op = .range R.T (.tmp R.t1) /\ o2.dst = some R.it /\ nog o2 = true) /\ (o3.op = .next (.tmp R.it) false /\ o3.dst = some R.n /\ nog o3 = true) /\
    (o4.op = .extract (.tmp R.n) 0 /\ o4.dst = some R.c /\ nog o4 = true) /\ (o5.op = .entry (.tmp R.it) /\ o5.dst = some R.e /\ nog o5 = true) /\ (o6.op = .extract (.tmp R.e) R.q /\ o6.dst = some R.v /\ nog o6 = true) /\
    (o7.op = .assign (.tmp R.v) /\ o7.dst = some R.x /\ nog o7 = true) /\ R.q <= 1 := by
 unfold qOv at h
 split at h
 .rename_i m T t1' it1 n1 it2 e1 q v1 e1' e2' e3' e4' e5' e6' e7'
  split at h
  .rename_i t1 it n c e v x d1 d2 d3 d4 d5 d6 d7
   cases hb : (nog o1 && (nog o2 && (nog o3 && (nog o4 && (nog o5 && (nog o6 && nog o7)))))) && (Nat.beq t1' t1 && (Nat.beq it1 it && (Nat.beq n1 n && (Nat.beq it2 it && (Nat.beq e1 e && (Nat.beq v1 v && Nat.ble q 1))))))
   .rw [hb] at h; cases h
   .rw [hb] at h
    simp only [cond_true, Option.some.injEq] at h;subst h;simp only [Bool.and_eq_true, qk] at hb;obtain ⟨⟨n1', n2', n3', n4', n5', n6', n7'⟩, rfl, rfl, rfl, rfl, rfl, rfl, hq⟩ := hb;exact ⟨⟨e1', d1, n1'⟩, ⟨e2', d2, n2'⟩, ⟨e3', d3, n3'⟩, ⟨e4', d4, n4'⟩, ⟨e5', d5, n5'⟩, ⟨e6', d6, n6'⟩, ⟨e7', d7, n7'⟩, Nat.le_of_ble_eq_true hq⟩
  .cases h
 .cases h
theorem qnq {n : Nat} {R : Rng} {code : Code} (hR : qxf code = some R) (hc : qcg n code = true) : qcg n R.thn = true := by
 unfold qxf at hR
 split at hR
 .split at hR
  .split at hR
   .rename_i R0 hR0
    revert hR
    cases Nat.beq _ R0.c && (Nat.beq _ _ && !Nat.beq _ _)
    .intro h; cases h
    .intro hR
     simp only [cond_true, Option.some.injEq] at hR;subst hR;simp only [qcg, Bool.and_eq_true] at hc;simp only;simp_all
   .cases hR
  .cases hR
 .cases hR
theorem qmw (T : TOk P cx) {R : Rng} {code : Code} (hR : qxf code = some R) (hc : qcg F.n code = true) (h : Rel cx F st β a w) {ts : List Nat} {k : Nat} {kty vty : Ty} {ag : Bool} {es : List (kty.El × vty.El)}
    (hm : st.get R.m = .one (.rm k)) (hs : st.slot k = some (.mp kty vty ag es)) (hok : qGq cx R ts kty vty ag = true) {b : Bool} (hb : anyC (qzg cx ⟨qO ts st, st.slots⟩ R kty vty ag) es = some b) {Q : Exit -> St -> Prop}
    (hthn : b = true -> ∀ a' w', Rel cx F ⟨qO ts st, st.slots⟩ β a' w' -> R.thn.wp P (QC cx F (rngQ R Q)) a' w') (hend : b = false -> Q .normal ⟨qO ts st, st.slots⟩) : code.wp P (QC cx F Q) a w := by
 unfold qxf at hR
 split at hR
 .rename_i i1 r1 b1 i2 r2 cc b1' b2 i3 r3 i4 ops y thn
  split at hR
  .rename_i o1 o2 o3 o4 o5 o6 o7 hr1 hr2 hr3
   split at hR
   .rename_i R0 hR0
    cases hq : Nat.beq cc R0.c && (Nat.beq b1' b1 && !Nat.beq b2 b1)
    .rw [hq] at hR; cases hR
    .rw [hq] at hR
     simp only [cond_true, Option.some.injEq] at hR;subst hR;simp only [Bool.and_eq_true, qk, Bool.not_eq_true'] at hq;obtain ⟨rfl, rfl, hb21⟩ := hq;have hb21 : b2 ≠ b1' := fun e => by rw [(qk b2 b1').2 e] at hb21; cases hb21
     obtain ⟨⟨p1, d1, n1⟩, ⟨p2, d2, n2⟩, ⟨p3, d3, n3⟩, ⟨p4, d4, n4⟩, ⟨p5, d5, n5⟩, ⟨p6, d6, n6⟩, ⟨p7, d7, n7⟩, hq1⟩ := qus hR0;obtain rfl : r1 = #[o1, o2] := by apply Array.ext'; simpa using hr1
     obtain rfl : r2 = #[o3, o4] := by apply Array.ext'; simpa using hr2
     obtain rfl : r3 = #[o5, o6, o7] := by apply Array.ext'; simpa using hr3
     simp only [qcg, Bool.and_eq_true] at hc;obtain ⟨hc1, ⟨hc2, ⟨_, hc3, hc4, _⟩⟩⟩ := hc;have D1 := qte hc1;have D2 := qte hc2;have D3 := qte hc3;have D4 := qte hc4;have l1 := D1 o1 (by simp) _ d1;have l2 := D1 o2 (by simp) _ d2;have l3 := D2 o3 (by simp) _ d3;have l4 := D2 o4 (by simp) _ d4;have l5 := D3 o5 (by simp) _ d5;have l6 := D3 o6 (by simp) _ d6;have l7 := D3 o7 (by simp) _ d7;unfold qGq Rng.scratch at hok;simp only [Bool.and_eq_true] at hok;obtain ⟨hts, hit, hT⟩ := hok;have hts := qPi hts;have hit := qPi hit R0.it (List.mem_cons_self ..);simp only [List.mem_append, List.mem_cons, List.not_mem_nil, or_false, not_or] at hit;obtain ⟨⟨i3', i4', i5', i6', i7'⟩, iops⟩ := hit;have hTm : ∃ kt vt, (cx.T R0.T).d = .map kt vt := by
      split at hT
      .rename_i kt vt hd; exact ⟨kt, vt, hd⟩
      .cases hT
     obtain ⟨kt, vt, hTd⟩ := hTm;obtain ⟨bm, arr, hbm, hheap, hall, hborn⟩ := h.slots _ _ hs;have hmv := h.get R0.m;rw [show st.get R0.m = .one (.rm k) from hm] at hmv;obtain ⟨hmv, _⟩ := hmv;rw [hbm] at hmv;have hnodup : (arr.map (·.born)).Nodup := by
      have : arr.map (·.born) = List.range arr.length := by
       apply List.ext_getElem?
       intro i;rw [List.getElem?_map]
       by_cases hi : i < arr.length
       .rw [List.getElem?_eq_getElem hi, List.getElem?_eq_getElem (by simpa using hi)]
        simp [hborn i _ (List.getElem?_eq_getElem hi)]
       .rw [List.getElem?_eq_none (by omega), List.getElem?_eq_none (by simpa using hi)]; rfl
      rw [this]; exact List.nodup_range
     have hold : ∀ x ∈ (List.toArray arr).toList, x.born < arr.length := by
      intro x hx;obtain ⟨i, hi⟩ := List.mem_iff_getElem?.1 hx;have hi : arr[i]? = some x := hi;rw [hborn i x hi];exact (List.getElem?_eq_some_iff.1 hi).1
     refine wp_seq (wp_region ?_)
     show wpOps P #[o1, o2] _ [0, 1] a w
     refine qee (o := o1) rfl n1 (v := .map (some bm)) (w' := w) (by simp only [execOp, p1]; rw [show a.eval (.tmp R0.m) = .map (some bm) from hmv]; rfl) ?_;have e1 : (a.put o1.dst (.map (some bm))).eval (.tmp R0.t1) = .map (some bm) := by
      show (a.put o1.dst (.map (some bm))).tmps.getD R0.t1 Go.undef = _
      rw [d1, qed (by rw [h.size]; exact l1), if_pos rfl]
     refine qee (o := o2) rfl n2 (v := .pointer (some ⟨w.heap.size, 0, none⟩)) (w' := w.alloc (.mapIter (some bm) arr.length #[] arr.length)) (by
      simp only [execOp, p2, e1, Sem.run_bind, run_range_map w R0.T kt vt bm arr.toArray arr.length (qUh T hTd) hheap, Result.andThen_ok, Sem.run_pure]) ?_
     show Exit.then _ _ .normal _ _
     refine wp_block (wp_loop_ghost (fun n a' w' => ∃ (w1 : World) (seen : Array Nat) (c0 : Nat), wEq w1 w /\ w' = w1.alloc (.mapIter (some bm) arr.length seen c0) /\ arr.length <= c0 /\ a'.defers = a.defers /\ a'.tmps.size = a.tmps.size /\
      (∀ t ∈ ts, a'.tmps.getD t Go.undef = a.tmps.getD t Go.undef) /\ a'.tmps.getD R0.it Go.undef = .pointer (some ⟨w.heap.size, 0, none⟩) /\
      (∀ (i : Nat) p, es[i]? = some p -> seen.contains i = true -> qzg cx ⟨qO ts st, st.slots⟩ { R0 with y := y, b1 := b1', b2 := b2, ops := ops, thn := thn } kty vty ag p = some false) /\ n = (leftOf arr.toArray seen).size) (leftOf arr.toArray #[]).size ?_ ?_)
     .refine ⟨w, #[], arr.length, wEq.refl w, rfl, Nat.le_refl _, ?_, ?_, ?_, ?_, ?_, rfl⟩
      .rw [qyc, qyc]
      .rw [qGb, qGb]
      .intro t ht
       have hn := hts t ht;simp only [List.mem_append, List.mem_cons, List.not_mem_nil, or_false, not_or] at hn;rw [d2, qed (by rw [qGb, h.size]; exact l2), if_neg hn.1.2.1, d1, qed (by rw [h.size]; exact l1), if_neg hn.1.1]
      .rw [d2, qed (by rw [qGb, h.size]; exact l2), if_pos rfl]
      .intro i p _ hc; simp at hc
     .rintro n a' w' ⟨w1, seen, c0, he, rfl, hc0, hdf, hsz, hag, hita, hseen, rfl⟩
      have hsz' : a'.tmps.size = F.n := hsz.trans h.size;have hb1 : w1.heap[bm]? = some (.map arr.toArray arr.length) := by rw [he.1]; exact hheap
      have hpt : a'.eval (.tmp R0.it) = .pointer (some ⟨w1.heap.size, 0, none⟩) := by rw [he.1]; exact hita
      have agree : ∀ (a2 : Act), (∀ t, t ≠ R0.n -> t ≠ R0.c -> t ≠ R0.e -> t ≠ R0.v -> t ≠ R0.x -> t ∉ qsd ops.toList -> a2.tmps.getD t Go.undef = a'.tmps.getD t Go.undef) -> ∀ t ∈ ts, a2.tmps.getD t Go.undef = a.tmps.getD t Go.undef := by
       intro a2 h2 t ht;have hn := hts t ht;simp only [List.mem_append, List.mem_cons, List.not_mem_nil, or_false, not_or] at hn;obtain ⟨⟨_, _, q3, q4, q5, q6, q7⟩, q8⟩ := hn;rw [h2 t q3 q4 q5 q6 q7 q8]; exact hag t ht
      refine wp_seq (wp_region ?_)
      show wpOps P #[o3, o4] _ [0, 1] a' _
      rcases qDw (P := P) w1 o3.type bm arr.length c0 seen arr.toArray arr.length hb1 hold hc0 with ⟨hleft, hrun⟩ | ⟨e, hel, w2, he2, hrun⟩
      . -- nothing is left
       refine qee (o := o3) rfl n3 (v := .tuple #[.bool false]) (w' := w1.alloc (.mapIter (some bm) arr.length seen c0)) (by simp only [execOp, p3, hpt, Sem.run_bind, hrun, Result.andThen_ok, Sem.run_pure]) ?_;have e3 : (a'.put o3.dst (.tuple #[.bool false])).eval (.tmp R0.n) = .tuple #[.bool false] := by
        show (a'.put o3.dst _).tmps.getD R0.n Go.undef = _
        rw [d3, qed (by rw [hsz']; exact l3), if_pos rfl]
       refine qee (o := o4) rfl n4 (v := .bool false) (w' := w1.alloc (.mapIter (some bm) arr.length seen c0)) (by simp [execOp, p4, e3, Instr.extract]) ?_
       show Exit.then _ _ .normal _ _
       refine wp_seq (wp_cond (t := false) ?_ (wp_exit ?_))
       .show ((a'.put o3.dst _).put o4.dst _).tmps.getD R0.c Go.undef = _
        rw [d4, qed (by rw [qGb, hsz']; exact l4), if_pos rfl]
       .show Exit.inBlock b1' _ (.exit b1') _ _
        simp only [Exit.inBlock, if_true];have hbf : b = false := by
         cases b with
         | false => rfl
         | true =>
          obtain ⟨p, hp, ht⟩ := (qqk hb).2.1 rfl;obtain ⟨i, hi⟩ := List.mem_iff_getElem?.1 hp;obtain ⟨e, hei, _⟩ := hall.get hi;have := all_seen arr.toArray seen hleft e (by simpa using List.mem_of_getElem? hei);rw [hborn i e hei] at this;have := hseen i p hi this;rw [this] at ht; cases ht
        refine ⟨_, β, hend hbf, h.junk he ?_ ?_ ?_⟩
        .rw [qyc, qyc, hdf]
        .rw [qGb, qGb, hsz]
        .refine agree _ fun t q3 q4 _ _ _ _ => ?_
         rw [d4, qed (by rw [qGb, hsz']; exact l4), if_neg q4, d3, qed (by rw [hsz']; exact l3), if_neg q3]
      . -- an entry
       have hmem := mem_left hel;obtain ⟨i, hei⟩ := List.mem_iff_getElem?.1 hmem.1;have hei : arr[i]? = some e := hei;have hbi := hborn i e hei;obtain ⟨p, hpi, hkey, vs, hvs, hval⟩ := hall.get' hei;have he' : wEq w2 w := he2.trans he;have hb2 : w2.heap[bm]? = some (.map arr.toArray arr.length) := by rw [he'.1]; exact hheap
       refine qee (o := o3) rfl n3 (v := .tuple #[.bool true, e.key, e.val]) (w' := w2.alloc (.mapIter (some bm) arr.length (seen.push e.born) arr.length)) (by simp only [execOp, p3, hpt, Sem.run_bind, hrun, Result.andThen_ok, Sem.run_pure]) ?_;have e3 : (a'.put o3.dst (.tuple #[.bool true, e.key, e.val])).eval (.tmp R0.n) = .tuple #[.bool true, e.key, e.val] := by
        show (a'.put o3.dst _).tmps.getD R0.n Go.undef = _
        rw [d3, qed (by rw [hsz']; exact l3), if_pos rfl]
       refine qee (o := o4) rfl n4 (v := .bool true) (w' := w2.alloc (.mapIter (some bm) arr.length (seen.push e.born) arr.length)) (by simp [execOp, p4, e3, Instr.extract]) ?_
       show Exit.then _ _ .normal _ _
       generalize ha4 : (a'.put o3.dst (.tuple #[.bool true, e.key, e.val])).put o4.dst (.bool true) = a4;have g4 : ∀ t, t ≠ R0.n -> t ≠ R0.c -> a4.tmps.getD t Go.undef = a'.tmps.getD t Go.undef := by
        intro t q3 q4;rw [<- ha4, d4, qed (by rw [qGb, hsz']; exact l4), if_neg q4, d3, qed (by rw [hsz']; exact l3), if_neg q3]
       have s4 : a4.tmps.size = F.n := by rw [<- ha4, qGb, qGb, hsz']
       have f4 : a4.defers = a.defers := by rw [<- ha4, qyc, qyc, hdf]
       refine wp_seq (wp_cond (t := true) ?_ (wp_skip ?_))
       .show a4.tmps.getD R0.c Go.undef = _
        rw [<- ha4, d4, qed (by rw [qGb, hsz']; exact l4), if_pos rfl]
       .show (Code.block b2 _).wp P _ a4 _
        refine wp_block (wp_seq (wp_region ?_))
        show wpOps P #[o5, o6, o7] _ [0, 1, 2] a4 _
        have hpt4 : a4.eval (.tmp R0.it) = .pointer (some ⟨w2.heap.size, 0, none⟩) := by
         show a4.tmps.getD R0.it Go.undef = _
         rw [g4 _ i3' i4', hita, he'.1]
        refine qee (o := o5) rfl n5 (v := .tuple #[e.key, e.val]) (w' := w2.alloc (.mapIter (some bm) arr.length (seen.push e.born) arr.length)) (by
         simp only [execOp, p5, hpt4, Sem.run_bind, run_entry_map w2 bm arr.length seen arr.toArray arr.length e hb2 hmem.1 hnodup, Result.andThen_ok, Sem.run_pure]) ?_
        have e5 : (a4.put o5.dst (.tuple #[e.key, e.val])).eval (.tmp R0.e) = .tuple #[e.key, e.val] := by
         show (a4.put o5.dst _).tmps.getD R0.e Go.undef = _
         rw [d5, qed (by rw [s4]; exact l5), if_pos rfl]
        have hz : ∃ z, (#[e.key, e.val] : Array Value)[R0.q]? = some z /\ ∀ u, (match R0.q with | 0 => valV kty false p.1 | _ => valV vty ag p.2) = some u -> RepV β (XX F st β) w u z := by
         rcases Nat.eq_zero_or_pos R0.q with hq0 | hq0
         .exact ⟨e.key, by rw [hq0]; rfl, fun u hu => by rw [hq0] at hu; exact qXl (ag := false) hkey hu⟩
         .have : R0.q = 1 := by omega
          exact ⟨e.val, by rw [this]; rfl, fun u hu => by rw [this] at hu; rw [hval]; exact qXl hvs hu⟩
        obtain ⟨z, hz1, hz2⟩ := hz;refine qee (o := o6) rfl n6 (v := z) (w' := w2.alloc (.mapIter (some bm) arr.length (seen.push e.born) arr.length)) (by simp [execOp, p6, e5, Instr.extract, hz1]) ?_;have e6 : ((a4.put o5.dst (.tuple #[e.key, e.val])).put o6.dst z).eval (.tmp R0.v) = z := by
         show ((a4.put o5.dst _).put o6.dst _).tmps.getD R0.v Go.undef = _
         rw [d6, qed (by rw [qGb, s4]; exact l6), if_pos rfl]
        refine qee (o := o7) rfl n7 (v := z) (w' := w2.alloc (.mapIter (some bm) arr.length (seen.push e.born) arr.length)) (by simp [execOp, p7, e6]) ?_
        show Exit.then _ _ .normal _ _
        generalize ha6 : (a4.put o5.dst (.tuple #[e.key, e.val])).put o6.dst z = a6;have g6 : ∀ t, t ≠ R0.n -> t ≠ R0.c -> t ≠ R0.e -> t ≠ R0.v -> a6.tmps.getD t Go.undef = a'.tmps.getD t Go.undef := by
         intro t q3 q4 q5 q6;rw [<- ha6, d6, qed (by rw [qGb, s4]; exact l6), if_neg q6, d5, qed (by rw [s4]; exact l5), if_neg q5, g4 t q3 q4]
        have s6 : a6.tmps.size = F.n := by rw [<- ha6, qGb, qGb, s4]
        have f6 : a6.defers = a.defers := by rw [<- ha6, qyc, qyc, f4]
        obtain ⟨tb, htest⟩ := (qqk hb).1 p (List.mem_of_getElem? hpi);have htest' := htest;unfold qzg at htest
        split at htest
        .cases htest
        .rename_i u hu
         split at htest
         .cases htest
         .rename_i st' hplain
          split at htest
          .rename_i tb' hy
           obtain rfl := Option.some.inj htest;have hrel6 : Rel cx F ⟨qO ts st, st.slots⟩ β a6 (w2.alloc (.mapIter (some bm) arr.length (seen.push e.born) arr.length)) :=
            h.junk he' f6 (s6.trans h.size.symm) (agree a6 fun t q3 q4 q5 q6 _ _ => g6 t q3 q4 q5 q6)
           have hfr : Fr (XX F st β) w (XX F st β) (w2.alloc (.mapIter (some bm) arr.length (seen.push e.born) arr.length)) := fun b' o' hb' hx => ⟨qYj he' _ hb', hx⟩
           have hrel7 := hrel6.put (d := o7.dst) (v := u) (u := z) (fun t ht => by rw [d7] at ht; cases ht; exact l7) (RepV.mono hfr (hz2 u hu));refine wp_seq (wp_region ?_);have hps := qYn (P := P) (Q := Exit.then ((Code.cond (.tmp y) thn .skip).wp P (Exit.inBlock b2 (Exit.then (fun a' w' => ∃ n', n' < (leftOf arr.toArray seen).size /\ ∃ (w1 : World) (seen : Array Nat) (c0 : Nat), wEq w1 w /\ w' = w1.alloc (.mapIter (some bm) arr.length seen c0) /\ arr.length <= c0 /\ a'.defers = a.defers /\ a'.tmps.size = a.tmps.size /\
 (∀ t ∈ ts, a'.tmps.getD t Go.undef = a.tmps.getD t Go.undef) /\ a'.tmps.getD R0.it Go.undef = .pointer (some ⟨w.heap.size, 0, none⟩) /\
 (∀ (i : Nat) p, es[i]? = some p -> seen.contains i = true -> qzg cx ⟨qO ts st, st.slots⟩ { R0 with y := y, b1 := b1', b2 := b2, ops := ops, thn := thn } kty vty ag p = some false) /\ n' = (leftOf arr.toArray seen).size) (Exit.inBlock b1' (QC cx F Q))))) (Exit.inBlock b2 (Exit.then (fun a' w' => ∃ n', n' < (leftOf arr.toArray seen).size /\ ∃ (w1 : World) (seen : Array Nat) (c0 : Nat), wEq w1 w /\ w' = w1.alloc (.mapIter (some bm) arr.length seen c0) /\ arr.length <= c0 /\ a'.defers = a.defers /\ a'.tmps.size = a.tmps.size /\
 (∀ t ∈ ts, a'.tmps.getD t Go.undef = a.tmps.getD t Go.undef) /\ a'.tmps.getD R0.it Go.undef = .pointer (some ⟨w.heap.size, 0, none⟩) /\
 (∀ (i : Nat) p, es[i]? = some p -> seen.contains i = true -> qzg cx ⟨qO ts st, st.slots⟩ { R0 with y := y, b1 := b1', b2 := b2, ops := ops, thn := thn } kty vty ag p = some false) /\ n' = (leftOf arr.toArray seen).size) (Exit.inBlock b1' (QC cx F Q))))) T D4 ops.toList 0 _ st' (a6.put o7.dst z) (by simp) hrel7 (by rw [d7]; exact hplain) ?_
           .rw [List.range_eq_range']; simpa using hps
           .intro a8 hrel8 f8 s8 g8
            have hy8 := hrel8.get y;rw [hy] at hy8;have hy8 : a8.eval (.tmp y) = .bool tb' := hy8;have ag8 : ∀ t, t ≠ R0.n -> t ≠ R0.c -> t ≠ R0.e -> t ≠ R0.v -> t ≠ R0.x -> t ∉ qsd ops.toList -> a8.tmps.getD t Go.undef = a'.tmps.getD t Go.undef := by
             intro t q3 q4 q5 q6 q7 q8;rw [g8 t q8, d7, qed (by rw [s6]; exact l7), if_neg q7, g6 t q3 q4 q5 q6]
            show (Code.cond (.tmp y) thn .skip).wp P _ a8 _
            refine wp_cond (t := tb') hy8 ?_;cases tb' with
            | true =>
             have hbt : b = true := (qqk hb).2.2 ⟨p, List.mem_of_getElem? hpi, htest'⟩;refine wp_mono (hthn hbt a8 _ (h.junk he' (by rw [f8, qyc, f6]) (by rw [s8, qGb, s6, h.size]) (agree a8 ag8))) ?_;rintro ex a9 w9 ⟨st9, β9, hq9, hr9⟩;cases ex with
             | normal => exact hq9.elim
             | exit j =>
              simp only [rngQ] at hq9;simp only [Exit.inBlock];cases hj2 : Nat.beq j b2 with
              | true => rw [hj2] at hq9; exact hq9.elim
              | false =>
               have hj2' : ¬ j = b2 := fun e => by rw [(qk j b2).2 e] at hj2; cases hj2
               rw [hj2, cond_false] at hq9;rw [if_neg hj2']
               show Exit.inBlock b1' _ (.exit j) _ _
               simp only [Exit.inBlock];cases hj1 : Nat.beq j b1' with
               | true =>
                rw [hj1, cond_true] at hq9;rw [if_pos ((qk _ _).1 hj1)];exact ⟨st9, β9, hq9, hr9⟩
               | false =>
                have hj1' : ¬ j = b1' := fun e => by rw [(qk j b1').2 e] at hj1; cases hj1
                rw [hj1, cond_false] at hq9;rw [if_neg hj1'];exact ⟨st9, β9, hq9, hr9⟩
             | _ => exact ⟨st9, β9, hq9, hr9⟩
            | false =>
             refine wp_skip ?_;refine ⟨_, left_shrinks arr.toArray seen e hel, w2, seen.push e.born, arr.length, he', rfl, Nat.le_refl _, by rw [f8, qyc, f6], by rw [s8, qGb, s6, h.size], agree a8 ag8, ?_, ?_, rfl⟩
             .rw [ag8 R0.it i3' i4' i5' i6' i7' iops, hita]
             .intro i' p' hp' hc'
              rw [contains_push, Bool.or_eq_true] at hc';rcases hc' with hc' | hc'
              .exact hseen i' p' hp' hc'
              .have : i' = i := by rw [<- hbi]; exact beq_iff_eq.1 hc'
               subst this;rw [hpi] at hp';obtain rfl := Option.some.inj hp';exact htest'
          .cases htest
   .cases hR
  .cases hR
 .cases hR
end
end Go.AM
set_option linter.unusedSimpArgs false
set_option linter.unusedVariables false
namespace Go.AM
open Go
section
variable {P : Program} {cx : Cx} {F : Fm} {st : St} {β : Nat -> Value} {a : Act} {w : World} {o : Oper}
theorem Rel.drew (h : Rel cx F st β a w) : Rel cx F st β a { w with drawn := w.drawn + 1 } := by
 have hfr : Fr (XX F st β) w (XX F st β) { w with drawn := w.drawn + 1 } := fun b o hb hx => ⟨hb, hx⟩
 exact ⟨h.defers, h.size, fun t v ht => RepV.mono hfr (h.regs t v ht), fun k s hk => RepS.mono hfr (fun _ _ _ hb => hb) (h.slots k s hk), h.inj, fun g t x hg => Rep.mono hfr (.ptr t) (h.glob g t x hg),
  h.frame, h.owned, h.sizes, h.outer, h.fix, h.same⟩
def ghOk (m : Nat) : Ghost -> Bool
 | .ren _ j => Nat.ble m j
 | .nilCell _ _ j _ => Nat.ble m j
 | .nilRow _ j _ => Nat.ble m j
 | _ => true
def qMy (m : Nat) : Ann -> Bool
 | .no => true
 | .key k => Nat.ble m k
 | .nilAs k _ => Nat.ble m k
 | .keyT k _ => Nat.ble m k
 | .keyB k => Nat.ble m k
 | .cutA => true
 | .viewA => true
 | .call _ news _ _ _ _ => news.all fun k => Nat.ble m k
def An.ok (m : Nat) : An -> Bool
 | .leaf => true
 | .reg as => as.all fun p => (p.1.all (ghOk m)) && qMy m p.2
 | .gh gs a => gs.all (ghOk m) && a.ok m
 | .seq a b => a.ok m && b.ok m
 | .cond a b => a.ok m && b.ok m
 | .block a => a.ok m
 | .loop _ _ a => a.ok m
 | .join _ _ a => a.ok m
 | .post a gs => a.ok m && gs.all (ghOk m)
 | .unopt _ _ a => a.ok m
 | .rng _ _ a => a.ok m
theorem qXk : ∀ {a b : List Nat}, qFr a b = true -> a = b
 | [], [], _ => rfl
 | x :: a, y :: b, h => by simp [qFr, qk] at h; rw [h.1, qXk h.2]
 | [], _ :: _, h => by simp [qFr] at h
 | _ :: _, [], h => by simp [qFr] at h
theorem CT.rep_fnv {X : Nat -> Prop} {caps : List Nat} {c : C} {v : Value} {g : Nat} (h : RepC β X w c v) (hp : (CT.fnv caps).parse c = some g) : RepC β X w ((CT.fnv caps).enc g) v := by
 simp only [CT.parse] at hp
 split at hp
 .rename_i g' ks
  cases hs : qFr caps ks
  .rw [hs] at hp; simp at hp
  .rw [hs] at hp
   simp only [cond_true, Option.some.injEq] at hp;subst hp;simp only [CT.enc];rw [qXk hs]; exact h
 .cases hp
theorem CT.rep_optp {X : Nat -> Prop} {t : Ty} {c : C} {v : Value} {x : Option t.El} (h : RepC β X w c v) (hp : (CT.optp t).parse c = some x) : RepC β X w (.op t x) v := by
 simp only [CT.parse] at hp
 split at hp
 .split at hp
  .rename_i he
   subst he;simp only [Option.some.injEq] at hp;subst hp; exact h
  .cases hp
 .simp only [Option.some.injEq] at hp; subst hp; exact .inl ⟨rfl, h⟩
 .split at hp
  .rename_i he
   subst he;simp only [qyi, Option.some.injEq] at hp;subst hp;obtain ⟨b, h1, h2⟩ := h;exact .inr ⟨_, b, rfl, h1, h2⟩
  .cases hp
 .cases hp
theorem CT.rep {X : Nat -> Prop} : ∀ {ct : CT} {c : C} {v : Value} {x : ct.El}, RepC β X w c v -> ct.parse c = some x -> RepC β X w (ct.enc x) v
 | .ty t, c, v, x, h, hp => by
  have hone := RepC.one h;have hr : Rep X w t x [v] := qXb (us := [v]) (cs := [c]) ⟨h, trivial⟩ hp;cases t with
  | bool => exact (qI (β := β) .bool hr).1
  | int k => exact (qI (β := β) (.int k) hr).1
  | str => exact (qI (β := β) .str hr).1
  | list e => exact (qI (β := β) (.list e) hr).1
  | ptr t => exact (qI (β := β) (.ptr t) hr).1
  | unit => exact hone
  | pair a b => exact hone
  | arr n e => exact hone
 | .fnv caps, c, v, g, h, hp => CT.rep_fnv h hp
 | .optp t, c, v, x, h, hp => CT.rep_optp h hp
 | .con c', c, v, x, h, hp => by
  have hone := RepC.one h;simp only [CT.parse] at hp;cases hs : qQs c' c
  .rw [hs] at hp; simp at hp
  .simp only [CT.enc]
   unfold qQs at hs
   split at hs <;> first | exact hone | exact h | skip
   .simp only [Bool.and_eq_true, qk] at hs; rw [hs.1, hs.2]; exact h
   .rw [(qk _ _).1 hs]; exact h
   .rw [(qk _ _).1 hs]; exact h
   .simp only [Bool.and_eq_true, qk] at hs; rw [hs.1, qXk hs.2]; exact h
   .exact ⟨none, h⟩
   .rw [eq_of_beq hs]; exact h
   .simp only [Bool.and_eq_true, decide_eq_true_eq, beq_iff_eq] at hs; rw [hs.1, hs.2]; exact h
   .rw [eq_of_beq hs]; exact h
   .rw [(qk _ _).1 hs]; exact h
   .exact .inl h
   .simp only [Bool.and_eq_true, qk] at hs
    obtain ⟨rfl, rfl⟩ := hs;exact .inr h
   .cases hs
theorem CTs.rep {X : Nat -> Prop} : ∀ {cts : List CT} {cs : List C} {vs : List Value} {x : CTs.El cts}, All2 (RepC β X w) cs vs -> CTs.parse cts cs = some x -> All2 (RepC β X w) (CTs.enc cts x) vs
 | [], [], [], _, _, _ => trivial
 | ct :: r, c :: cs, v :: vs, x, ⟨h1, h2⟩, hp => by
  simp only [CTs.parse] at hp
  split at hp
  .rename_i y z h3 h4
   simp only [Option.some.injEq] at hp; subst hp;exact ⟨CT.rep h1 h3, CTs.rep h2 h4⟩
  .cases hp
 | [], [], _ :: _, _, h, _ => h.elim
 | [], _ :: _, _, _, _, hp => by simp [CTs.parse] at hp
 | _ :: _, [], _, _, _, hp => by simp [CTs.parse] at hp
 | _ :: _, _ :: _, [], _, h, _ => h.elim
theorem VT1.rep {X : Nat -> Prop} : ∀ {vt : VT1} {c : V} {v : Value} {x : vt.El}, RepV β X w c v -> vt.parse c = some x -> RepV β X w (vt.enc x) v
 | .one ct, c, v, x, h, hp => by
  simp only [VT1.parse] at hp
  split at hp
  .exact CT.rep h hp
  .cases hp
 | .agg cts, c, v, x, h, hp => by
  simp only [VT1.parse] at hp
  split at hp
  .obtain ⟨vs, h1, h2⟩ := h; exact ⟨vs, h1, CTs.rep h2 hp⟩
  .cases hp
 | .str t, c, v, x, h, hp => by
  simp only [VT1.parse] at hp
  split at hp
  .obtain ⟨vs, h1, h2⟩ := h; exact ⟨vs, h1, qI t (qXb h2 hp)⟩
  .cases hp
theorem SS.rep {X : Nat -> Prop} : ∀ {ss : SS} {s : Slot} {v : Value} {x : ss.El}, RepS β X w s v -> ss.parse s = some x -> RepS β X w (ss.enc x) v
 | .mp k v ag, s, u, x, h, hp => by
  simp only [SS.parse] at hp
  split at hp
  .rename_i k' v' ag' es
   split at hp
   .rename_i he
    obtain ⟨rfl, rfl, rfl⟩ := he;simp only [Option.some.injEq] at hp;subst hp;exact h
   .cases hp
  .cases hp
 | .brow T, s, v, x, h, hp => by
  simp only [SS.parse] at hp
  split at hp
  .rename_i T' xs
   cases hb : Nat.beq T' T with
   | false => rw [hb] at hp; cases hp
   | true =>
    rw [hb] at hp;have := (qk _ _).1 hb;subst this;simp only [cond_true, Option.some.injEq] at hp;subst hp;exact h
  .cases hp
 | .bd t ct, s, v, x, h, hp => by
  simp only [SS.parse] at hp
  split at hp
  .rename_i t' c
   cases hb : Nat.beq t' t with
   | false => rw [hb] at hp; cases hp
   | true =>
    rw [hb, cond_true] at hp;have e := (qk _ _).1 hb;subst e;obtain ⟨b, v0, v1, fr, h1, h2, h3, h4, h5⟩ := h;exact ⟨b, v0, v1, fr, h1, h2, h3, h4, CT.rep h5 hp⟩
  .cases hp
 | .box cts, s, v, x, h, hp => by
  simp only [SS.parse] at hp
  split at hp
  .obtain ⟨b, vs, el, fr, h1, h2, h3, h4⟩ := h; exact ⟨b, vs, el, fr, h1, h2, h3, CTs.rep h4 hp⟩
  .cases hp
 | .str t, s, v, x, h, hp => by
  simp only [SS.parse] at hp
  split at hp
  .obtain ⟨b, vs, el, fr, h1, h2, h3, h4⟩ := h; exact ⟨b, vs, el, fr, h1, h2, h3, qI t (qXb h4 hp)⟩
  .cases hp
 | .lst fx e, s, v, x, h, hp => by
  simp only [SS.parse] at hp
  split at hp
  .split at hp
   .rename_i fx' e' xs he
    subst he;cases hb : qvy fx' fx with
    | false => rw [hb] at hp; cases hp
    | true =>
     rw [hb] at hp;simp only [cond_true, qZc, Option.some.injEq] at hp;subst hp; exact h
   .cases hp
  .cases hp
 | .tb t, s, v, x, h, hp => by
  simp only [SS.parse] at hp
  split at hp
  .split at hp
   .rename_i he
    subst he;simp only [qyi, Option.some.injEq] at hp;subst hp; exact h
   .cases hp
  .cases hp
theorem qin : ∀ {l : List (Nat × VT1)} {x : RgEl l}, qmt st l = some x -> ∀ {t : Nat} {v : V}, look t (encR l x) = some v -> ∃ (vt : VT1) (y : vt.El), vt.parse (st.get t) = some y /\ v = vt.enc y
 | [], x, _, t, v, h => by simp [encR, look] at h
 | p :: l, x, hp, t, v, h => by
  simp only [qmt] at hp
  split at hp
  .rename_i y z h1 h2
   simp only [Option.some.injEq] at hp; subst hp;simp only [encR, qwb] at h
   split at h
   .rename_i e
    subst e;simp only [Option.some.injEq] at h;exact ⟨p.2, y, h1, h.symm⟩
   .exact qin h2 h
  .cases hp
theorem qxm : ∀ {l : List (Nat × SS)} {x : SlEl l}, qxt st l = some x -> ∀ {k : Nat} {s : Slot}, look k (encS l x) = some s -> ∃ (s0 : Slot) (ss : SS) (y : ss.El), st.slot k = some s0 /\ ss.parse s0 = some y /\ s = ss.enc y
 | [], x, _, k, s, h => by simp [encS, look] at h
 | p :: l, x, hp, k, s, h => by
  simp only [qxt] at hp
  split at hp
  .rename_i s0 hs0
   split at hp
   .rename_i y z h1 h2
    simp only [Option.some.injEq] at hp; subst hp;simp only [encS, qwb] at h
    split at h
    .rename_i e
     subst e;simp only [Option.some.injEq] at h;exact ⟨s0, p.2, y, hs0, h1, h.symm⟩
    .exact qxm h2 h
   .cases hp
  .cases hp
theorem SS.parse_fixd : ∀ {ss : SS} {s : Slot} {y : ss.El}, ss.parse s = some y -> (ss.enc y).fixd = s.fixd
 | .mp k v ag, s, y, h => by
  simp only [SS.parse] at h
  split at h
  .rfl
  .cases h
 | .brow T, s, y, h => by
  simp only [SS.parse] at h
  split at h
  .rfl
  .cases h
 | .bd t ct, s, y, h => by
  simp only [SS.parse] at h
  split at h
  .rfl
  .cases h
 | .box cts, s, y, h => by
  simp only [SS.parse] at h
  split at h
  .rfl
  .cases h
 | .str t, s, y, h => by
  simp only [SS.parse] at h
  split at h
  .rfl
  .cases h
 | .lst fx e0, s, y, h => by
  simp only [SS.parse] at h
  split at h
  .split at h
   .rename_i fx' e' xs he
    cases hb : qvy fx' fx with
    | false => rw [hb] at h; cases h
    | true =>
     show fx = fx'
     cases fx <;> cases fx' <;> first | rfl | cases hb
   .cases h
  .cases h
 | .tb t, s, y, h => by
  simp only [SS.parse] at h
  split at h
  .rfl
  .cases h
theorem LS.rel (h : Rel cx F st β a w) {l : LS} {s : l.El} (hs : l.parse st = some s) : Rel cx F (l.enc s) β a w := by
 unfold LS.parse at hs
 split at hs
 .rename_i x y h1 h2
  simp only [Option.some.injEq] at hs; subst hs;have hslot : ∀ k s', (l.enc (x, y)).slot k = some s' -> ∃ (s0 : Slot) (ss : SS) (z : ss.El), st.slot k = some s0 /\ ss.parse s0 = some z /\ s' = ss.enc z := fun k s' hk => qxm h2 hk
  have hfr : Fr (XX F st β) w (XX F (l.enc (x, y)) β) w := by
   intro b o hb hx;refine ⟨hb, ?_⟩;rintro (h0 | ⟨k, s', hk, hbk⟩)
   .exact hx (.inl h0)
   .obtain ⟨s0, _, _, g1, _⟩ := hslot k s' hk
    exact hx (.inr ⟨k, s0, g1, hbk⟩)
  refine ⟨h.defers, h.size, ?_, ?_, ?_, fun g t x hg => Rep.mono hfr (.ptr t) (h.glob g t x hg), h.frame, ?_, h.sizes, h.outer, ?_, h.same⟩
  .intro t v ht
   obtain ⟨vt, z, g1, rfl⟩ := qin h1 ht;exact RepV.mono hfr (VT1.rep (h.get t) g1)
  .intro k s' hk
   obtain ⟨s0, ss, z, g1, g2, rfl⟩ := hslot k s' hk;exact RepS.mono hfr (fun _ _ _ hb => hb) (SS.rep (h.slots k s0 g1) g2)
  .intro i j s1 s2 b g1 g2 hb1 hb2
   obtain ⟨t1, _, _, e1, _⟩ := hslot i s1 g1;obtain ⟨t2, _, _, e2, _⟩ := hslot j s2 g2;exact h.inj i j t1 t2 b e1 e2 hb1 hb2
  .intro k s' b hk hb
   obtain ⟨s0, _, _, e1, _⟩ := hslot k s' hk;exact h.owned k s0 b e1 hb
  .intro k v hk
   refine ⟨(h.fix k v hk).1, fun s' he => ?_⟩;obtain ⟨s0, ss, z, e1, e2, rfl⟩ := hslot k _ he;rw [SS.parse_fixd e2]; exact (h.fix k v hk).2 s0 e1
 .cases hs
theorem qrv (T : TOk P cx) (hmix : P.follows .mixedOrders = true) {m : Nat} (hm : ∀ k, m <= k -> F.fix k = none) : ∀ (an : An) (c : Code) (st : St) (Q : Exit -> St -> Prop) (β : Nat -> Value) (a : Act) (w : World),
    an.ok m = true -> qcg F.n c = true -> Rel cx F st β a w -> wpA cx (Phi P cx) an c st Q -> c.wp P (QC cx F Q) a w := by
 have gh : ∀ gs : List Ghost, gs.all (ghOk m) = true -> ∀ g ∈ gs, qgw F g := by
  intro gs hg g hmem;have := List.all_eq_true.1 hg g hmem;cases g <;> simp [qgw]
  .exact hm _ (Nat.le_of_ble_eq_true this)
  .exact hm _ (Nat.le_of_ble_eq_true this)
  .exact hm _ (Nat.le_of_ble_eq_true this)
 have ann : ∀ x : Ann, qMy m x = true -> qef F x := by
  intro x hx;cases x with
  | no => exact trivial
  | key k => exact hm _ (Nat.le_of_ble_eq_true hx)
  | nilAs k e => exact hm _ (Nat.le_of_ble_eq_true hx)
  | keyT k e => exact hm _ (Nat.le_of_ble_eq_true hx)
  | keyB k => exact hm _ (Nat.le_of_ble_eq_true hx)
  | cutA => exact trivial
  | viewA => exact trivial
  | call p news _ _ _ _ => exact fun k hk => hm _ (Nat.le_of_ble_eq_true (List.all_eq_true.1 hx k hk))
 intro an
 induction an with
 | leaf =>
  intro c st Q β a w _ _ h hw;cases c <;> simp only [wpA] at hw
  .exact wp_skip ⟨st, β, hw, h⟩
  .exact wp_exit ⟨st, β, hw, h⟩
  .exact wp_ret ⟨st, β, hw, h⟩
 | reg as =>
  intro c st Q β a w hok hc h hw;cases c with
  | region id ops d =>
   cases d with
   | false =>
    simp only [wpA] at hw;refine wp_region ?_;have hall : ∀ p ∈ as, qZq F p := by
     intro p hp;have := List.all_eq_true.1 hok p hp;simp only [Bool.and_eq_true] at this;exact ⟨gh _ this.1, ann _ this.2⟩
    have := qOn T (ops := ops) (qte hc) ops.toList as 0 st β a w (by simp) hall h hw;simpa [List.range_eq_range'] using this
   | true =>
    simp only [wpA] at hw
    split at hw
    .rename_i hdraw hplain
     obtain ⟨vs, stf, hT, hQ⟩ := qnh ops.toList as st hplain hw;refine wp_region_any hmix ?_;refine qww T (qFg hdraw) (qte hc) (as := as.map (·.2)) ?_ hT hQ ops.size _ st β a _ ?_ ?_ h.drew
     .intro x hx
      obtain ⟨p, hp, rfl⟩ := List.mem_map.1 hx;have := List.all_eq_true.1 hok p hp;simp only [Bool.and_eq_true] at this;exact ann _ this.2
     .unfold qwg
      refine Nat.le_trans (List.length_filter_le _ _) ?_;simp
     .refine ⟨by simp, rfl, ?_, ?_, fun t _ => rfl⟩
      .intro i o hi; simp [Array.getElem?_replicate] at hi; split at hi <;> simp at hi
      .intro i o t v hi; simp [Array.getElem?_replicate] at hi; split at hi <;> simp at hi
    .rename_i hdraw _
     split at hw
     .rename_i hlate
      refine wp_region_any hmix ?_;refine qXu T (qFg hdraw) (qte hc) hlate ?_ hw β a _ h.drew;intro p hp;have := List.all_eq_true.1 hok p hp;simp only [Bool.and_eq_true] at this;exact ⟨gh _ this.1, ann _ this.2⟩
     split at hw
     .rename_i hdraw'
      have hw := qes (Q' := fun e st => e = .normal /\ Q .normal st) (fun st h => ⟨rfl, h⟩) hw;have hds : ∀ o ∈ (qne ops).toList, ∀ t, o.dst = some t -> t < F.n := fun o ho t ht => by
       obtain ⟨o', h1, h2⟩ := qew ho;exact qte hc o' h1 t (by rw [<- h2]; exact ht)
      unfold qap at hw
      split at hw
      .rename_i hcheck
       simp only [Bool.and_eq_true, Bool.or_eq_true] at hcheck;refine wp_mono (wp_region_any hmix (qxs (Q := QC cx F fun e st => e = .normal /\ Q .normal st) (qFg hdraw) ?_ ?_ ?_)) ?_
       .rintro c a w ⟨st, β, h, _⟩; cases h.1
       .rintro ⟨a, w, st, β, h, _⟩; cases h.1
       .refine hcheck.1.elim (fun hc1 => qau T (qFg hdraw') hds rfl rfl hc1 ?_ hcheck.2 hw β a _ h.drew) (fun hc1 => qps T (qFg hdraw') hds rfl rfl hc1 ?_ hcheck.2 hw β a _ h.drew)
        all_goals
         intro p hp;have := List.all_eq_true.1 hok p hp;simp only [Bool.and_eq_true] at this;exact ⟨gh _ this.1, ann _ this.2⟩
       .rintro e a w ⟨st, β, h1, h2⟩
        obtain ⟨h1, h3⟩ := h1;subst h1;exact ⟨st, β, h3, h2⟩
      .exact hw.elim
     .exact hw.elim
    .exact hw.elim
  | _ => exact hw.elim
 | gh gs an ih =>
  intro c st Q β a w hok hc h hw;simp only [An.ok, Bool.and_eq_true] at hok;cases hg : que gs st with
  | none => cases c <;> simp only [wpA, hg] at hw
  | some st1 =>
   have key : wpA cx (Phi P cx) an c st1 Q := by cases c <;> simpa only [wpA, hg] using hw
   obtain ⟨β1, h1⟩ := qEf gs h (gh gs hok.1) hg;exact ih c st1 Q β1 a w hok.2 hc h1 key
 | seq x y ihx ihy =>
  intro c st Q β a w hok hc h hw;cases c with
  | seq p q =>
   simp only [wpA] at hw;simp only [An.ok, qcg, Bool.and_eq_true] at hok hc;refine wp_seq (wp_mono (ihx p st _ β a w hok.1 hc.1 h hw) ?_);rintro e a' w' ⟨st', β', hq, h'⟩;cases e with
   | normal => exact ihy q st' Q β' a' w' hok.2 hc.2 h' hq
   | _ => exact ⟨st', β', hq, h'⟩
  | _ => exact hw.elim
 | cond x y ihx ihy =>
  intro c st Q β a w hok hc h hw;cases c with
  | cond v p q =>
   simp only [wpA] at hw;simp only [An.ok, qcg, Bool.and_eq_true] at hok hc
   split at hw
   .rename_i t ht
    have hv := h.eval v;rw [ht] at hv;refine wp_cond (t := t) hv ?_;cases t
    .exact ihy q st Q β a w hok.2 hc.2 h hw
    .exact ihx p st Q β a w hok.1 hc.1 h hw
   .exact hw.elim
  | _ => exact hw.elim
 | block x ih =>
  intro c st Q β a w hok hc h hw;cases c with
  | block id p =>
   simp only [wpA] at hw;refine wp_block (wp_mono (ih p st _ β a w hok hc h hw) ?_);rintro e a' w' ⟨st', β', hq, h'⟩;cases e with
   | exit j =>
    simp only at hq;simp only [Exit.inBlock];cases hb : Nat.beq j id
    .rw [hb] at hq
     have : ¬ j = id := fun e => by rw [(qk j id).2 e] at hb; cases hb
     rw [if_neg this]; exact ⟨st', β', hq, h'⟩
    .rw [hb] at hq
     rw [if_pos ((qk _ _).1 hb)]; exact ⟨st', β', hq, h'⟩
   | _ => exact ⟨st', β', hq, h'⟩
  | _ => exact hw.elim
 | join all l x ih =>
  intro c st Q β a w hok hc h hw;have key : ∃ J : l.El -> Prop, wpA cx (Phi P cx) x c st (fun e st' => (match e with | .normal => (match l.parse st' with | some s => J s | none => False) | e => Q e st')) /\ ∀ s, J s -> Q .normal (l.enc s) := by
   cases c <;> exact hw
  obtain ⟨J, hw, hJ⟩ := key;refine wp_mono (ih c st _ β a w hok hc h hw) ?_;rintro e a' w' ⟨st', β', hq, h'⟩;cases e with
  | normal =>
   simp only at hq
   split at hq
   .rename_i s hs
    exact ⟨l.enc s, β', hJ s hq, LS.rel h' hs⟩
   .exact False.elim hq
  | _ => exact ⟨st', β', hq, h'⟩
 | rng ts k x ih =>
  intro c st Q β a w hok hc h hw;have key : ∃ R, qxf c = some R /\ ∃ kty vty ag es, st.get R.m = .one (.rm k) /\ st.slot k = some (.mp kty vty ag es) /\ qGq cx R ts kty vty ag = true /\
      ∃ b, anyC (qzg cx ⟨qO ts st, st.slots⟩ R kty vty ag) es = some b /\ (match b with
       | true => wpA cx (Phi P cx) x R.thn ⟨qO ts st, st.slots⟩ (rngQ R Q)
       | false => Q .normal ⟨qO ts st, st.slots⟩) := by
   have hw' : (match qxf c with
    | some R => (match st.get R.m, st.slot k with
     | .one (.rm k'), some (.mp kty vty ag es) => (match Nat.beq k k' && qGq cx R ts kty vty ag with
      | true => ∃ b, anyC (qzg cx ⟨qO ts st, st.slots⟩ R kty vty ag) es = some b /\ (match b with
       | true => wpA cx (Phi P cx) x R.thn ⟨qO ts st, st.slots⟩ (rngQ R Q)
       | false => Q .normal ⟨qO ts st, st.slots⟩)
      | false => False)
     | _, _ => False)
    | none => False) := by cases c <;> exact hw
   split at hw'
   .rename_i R hR
    split at hw'
    .rename_i k' kty vty ag es hm hs
     split at hw'
     .rename_i hb
      rw [Bool.and_eq_true, qk] at hb;obtain ⟨rfl, hok⟩ := hb;exact ⟨R, hR, kty, vty, ag, es, hm, hs, hok, hw'⟩
     .exact hw'.elim
    .exact hw'.elim
   .exact hw'.elim
  obtain ⟨R, hR, kty, vty, ag, es, hm, hs, hrok, b, hb, hk⟩ := key;refine qmw T hR hc h hm hs hrok hb (fun e a' w' hr => ?_) (fun e => ?_)
  .subst e
   exact ih R.thn _ _ β a' w' hok (qnq hR hc) hr hk
  .subst e; exact hk
 | unopt r t x ih =>
  intro c st Q β a w hok hc h hw;have key : ∃ y, quv st r t = some (some y) /\ wpA cx (Phi P cx) x c (st.put (some r) (.one (.pp t y 0))) Q := by
   cases c <;> (
    simp only [wpA] at hw
    split at hw
    .rename_i x' hx'
     obtain ⟨y, rfl, h1⟩ := hw;exact ⟨y, hx', h1⟩
    .exact hw.elim)
  obtain ⟨y, h1, h2⟩ := key;unfold quv at h1
  split at h1
  .rename_i c0 hc0
   refine ih c _ Q β a w hok hc (h.know ?_) h2;have hg := h.get r;rw [hc0] at hg;rcases CT.rep_optp hg h1 with ⟨h2, _⟩ | ⟨y', b, h2, h3, h4⟩
   .cases h2
   .simp only [Option.some.injEq] at h2; subst h2
    exact ⟨b, h3, h4⟩
  .cases h1
 | post x gs ih =>
  intro c st Q β a w hok hc h hw;simp only [An.ok, Bool.and_eq_true] at hok;have key : wpA cx (Phi P cx) x c st (fun e st' => match e with | .normal => (match que gs st' with | some st2 => Q .normal st2 | none => False) | e => Q e st') := by
   cases c <;> exact hw
  refine wp_mono (ih c st _ β a w hok.1 hc h key) ?_;rintro e a' w' ⟨st', β', hq, h'⟩;cases e with
  | normal =>
   simp only at hq
   split at hq
   .rename_i st2 hg
    obtain ⟨β2, h2⟩ := qEf gs h' (gh gs hok.2) hg;exact ⟨st2, β2, hq, h2⟩
   .exact False.elim hq
  | _ => exact ⟨st', β', hq, h'⟩
 | loop l fu x ih =>
  intro c st Q β a w hok hc h hw;cases c with
  | loop p =>
   simp only [wpA] at hw
   split at hw
   .rename_i s0 hs0
    obtain ⟨I, μ, hI, hround⟩ := hw;refine wp_loop_ghost (fun n a w => ∃ s β, I s /\ μ s = n /\ Rel cx F (l.enc s) β a w) (μ s0) ⟨s0, β, hI, rfl, LS.rel h hs0⟩ ?_;rintro n a' w' ⟨s, β', hs, hμ, hr⟩;refine wp_mono (ih p (l.enc s) _ β' a' w' hok hc hr (hround s hs)) ?_;rintro e a2 w2 ⟨st2, β2, hq, hr2⟩;cases e with
    | normal =>
     simp only at hq
     split at hq
     .rename_i s2 hs2
      exact ⟨μ s2, by rw [<- hμ]; exact hq.2, s2, β2, hq.1, rfl, LS.rel hr2 hs2⟩
     .exact False.elim hq
    | _ => exact ⟨st2, β2, hq, hr2⟩
   .exact False.elim hw
  | _ => exact hw.elim
end
end Go.AM
set_option linter.unusedSimpArgs false
set_option linter.unusedVariables false
namespace Go.AM
open Go
def zipN {α : Type} : Nat -> List α -> List (Nat × α)
 | _, [] => []
 | n, x :: l => (n, x) :: zipN (n + 1) l
theorem qGm {α : Type} (k : Nat) : ∀ (l : List α) (n : Nat), look k (zipN n l) = if n <= k then nth l (k - n) else none
 | [], n => by simp [zipN, look, nth]
 | x :: l, n => by
  simp only [zipN, qwb, qGm k l (n + 1)]
  by_cases h1 : k = n
  .subst h1; simp [nth]
  .rw [if_neg h1]
   by_cases h2 : n <= k
   .rw [if_pos (by omega), if_pos h2]
    have : k - n = (k - (n + 1)) + 1 := by omega
    rw [this]; simp [nth]
   .rw [if_neg (by omega), if_neg h2]
section
variable {P : Program} {cx : Cx} {F : Fm} {st : St} {β : Nat -> Value} {a : Act} {w : World} {o : Oper}
theorem qqd.length {X : Nat -> Prop} : ∀ {xs : List V} {us : List Value}, qqd β X w xs us -> xs.length = us.length
 | [], [], _ => rfl
 | _ :: _, _ :: _, ⟨_, h⟩ => by simp [qqd.length h]
 | [], _ :: _, h => h.elim
 | _ :: _, [], h => h.elim
def oneR (a : Act) : ResultVar -> Sem Value
 | .tmp t => pure (a.tmps.getD t Go.undef)
 | .cell x t => do loadVar t (<- asAddr (a.tmps.getD x Go.undef))
theorem qAl (T : TOk P cx) (h : Rel cx F st β a w) {x : ResultVar} {v : V} (hx : qfn cx st x = some v) : ∃ u, (oneR a x).run P w = .ok u w /\ RepV β (XX F st β) w v u := by
 cases x with
 | tmp t =>
  simp only [qfn, Option.some.injEq] at hx;subst hx;exact ⟨_, by simp [oneR], h.get t⟩
 | cell x t =>
  simp only [qfn] at hx
  split at hx
  .rename_i cs hr
   cases hk : (cx.T t).d.known
   .rw [hk] at hx; simp at hx
   .rw [hk] at hx
    simp only [Bool.not_true, cond_false] at hx;obtain ⟨b, off, us, hu, hlen, hall, hcell⟩ := qxj h (h.get x) hr trivial;have hu' : a.tmps.getD x Go.undef = .pointer (some ⟨b, off, none⟩) := hu;cases ha : (cx.T t).isAgg
    .rw [ha] at hx
     simp only [cond_false] at hx
     split at hx
     .rename_i c
      simp only [Option.some.injEq] at hx;subst hx
      match us, hall, hcell with
      | [u], hall, hcell =>
       refine ⟨u, ?_, hall.1⟩;have := hcell 0 u rfl;rw [Nat.add_zero] at this;simp only [oneR, hu', asAddr, Sem.run_bind, Sem.run_pure, Result.andThen_ok, loadVar, qQi T hk, ha, Bool.false_eq_true, if_false];simp [this]
     .cases hx
    .rw [ha] at hx
     simp only [cond_true, Option.some.injEq] at hx;subst hx;have hl := run_loadCells_list (P := P) w ⟨b, off, none⟩ us (fun j v hj => by rw [Addr.add_lit]; exact hcell j v hj);rw [hlen] at hl;refine ⟨.agg us.toArray, ?_, us, rfl, hall⟩;simp only [oneR, hu', asAddr, Sem.run_bind, Sem.run_pure, Result.andThen_ok, loadVar, qQi T hk, ha, if_true, qoc T hk, hl]
  .cases hx
theorem quw (T : TOk P cx) (h : Rel cx F st β a w) : ∀ {l : List ResultVar} {vs : List V}, qyf.go cx st l = some vs ->
    ∃ us : List Value, (l.mapM (oneR a)).run P w = .ok us w /\ qqd β (XX F st β) w vs us
 | [], vs, hg => by simp [qyf.go] at hg; subst hg; exact ⟨[], by simp, trivial⟩
 | x :: l, vs, hg => by
  simp only [qyf.go] at hg
  split at hg
  .rename_i v vs' h1 h2
   simp only [Option.some.injEq] at hg;subst hg;obtain ⟨u, g1, g2⟩ := qAl T h h1;obtain ⟨us, h2, h3⟩ := quw T h h2;exact ⟨u :: us, by simp only [List.mapM_cons, Sem.run_bind, Sem.run_pure, Result.andThen_ok, h2, g1], g2, h3⟩
  .cases hg
theorem qMx : ∀ {l : List ResultVar} {vs : List V}, qyf.go cx st l = some vs -> vs.length = l.length
 | [], vs, hg => by simp [qyf.go] at hg; subst hg; rfl
 | x :: l, vs, hg => by
  simp only [qyf.go] at hg
  split at hg
  .rename_i v vs' h1 h2
   simp only [Option.some.injEq] at hg;subst hg;simp [qMx h2]
  .cases hg
theorem qon {fn : Func} {us : List Value} (h1 : (fn.results.toList.mapM (oneR a)).run P w = .ok us w) :
    (results fn a.tmps).run P w = .ok (if h : us.toArray.size = 1 then us.toArray[0] else .tuple us.toArray) w := by
 unfold results
 rw [Array.mapM_eq_mapM_toList, Sem.run_bind, Sem.run_map]
 refine (congrArg (fun q => (Result.andThen (Result.andThen q _) _)) h1).trans ?_
 simp
theorem qFq (T : TOk P cx) (h : Rel cx F st β a w) {fn : Func} {r : V} (hr : qyf cx st fn.results.toList = some r) :
    ∃ v, (results fn a.tmps).run P w = .ok v w /\ RepV β (XX F st β) w r v := by
 unfold qyf at hr
 split at hr
 .rename_i x hx
  obtain ⟨u, g1, g2⟩ := qAl T h hr;refine ⟨u, ?_, g2⟩;rw [qon (us := [u]) (by rw [hx]; simp [g1])];simp
 .rename_i hne
  split at hr
  .rename_i vs hvs
   simp only [Option.some.injEq] at hr;subst hr;obtain ⟨us, h1, h2⟩ := quw T h hvs;have hl : us.length ≠ 1 := by
    intro hl;have := qMx hvs;rw [h2.length, hl] at this;cases hq : fn.results.toList with
    | nil => rw [hq] at this; simp at this
    | cons y l => cases l with
     | nil => exact hne y hq
     | cons z l => rw [hq] at this; simp at this
   refine ⟨.tuple us.toArray, ?_, us, rfl, h2⟩;rw [qon h1];simp [hl]
  .cases hr
theorem qtw {n k : Nat} (h : k < n) : nth (List.range n) k = some k := by rw [qpe]; simp [h]
def qcq (ss : List Slot) (β : Nat -> Value) (k : Nat) : Option Value := match nth ss k with | some s => (bif s.fixd then some (β k) else none) | none => none
end
end Go.AM
set_option linter.unusedSimpArgs false
set_option linter.unusedVariables false
namespace Go.AM
open Go
def TInf.none : TInf := ⟨.none, 0, 0, [], .none, false, false⟩
def tget (l : List (Nat × TInf)) (t : Nat) : TInf := match look t l with | some i => i | none => TInf.none
def qip : List C -> List Value -> Bool
 | [], [] => true
 | c :: cs, v :: vs => qol c v && qip cs vs
 | _, _ => false
theorem qkm : ∀ {cs : List C} {vs : List Value}, qip cs vs = true -> All2 (fun c v => qol c v = true) cs vs
 | [], [], _ => trivial
 | c :: cs, v :: vs, h => by simp [qip] at h; exact ⟨h.1, qkm h.2⟩
 | [], _ :: _, h => by simp [qip] at h
 | _ :: _, [], h => by simp [qip] at h
def qOf : Ty -> List Value -> Option (List Value)
 | .bool, .bool false :: r => some r
 | .int k, .int j 0 :: r => if k = j then some r else none
 | .str, .string s :: r => (match s.data.toList with | [] => some r | _ => none)
 | .unit, r => some r
 | .pair a b, r => (match qOf a r with | some r => qOf b r | none => none)
 | .list _, .slice none 0 0 :: r => some r
 | .arr n e, r => loop (qOf e) n r
 | _, _ => none
where
 loop (p : List Value -> Option (List Value)) : Nat -> List Value -> Option (List Value)
 | 0, r => some r
 | n + 1, r => (match p r with | some r => loop p n r | none => none)
theorem qJh (X : Nat -> Prop) (w : World) : ∀ (t : Ty) {vs r : List Value}, qOf t vs = some r -> ∃ us, vs = us ++ r /\ Rep X w t t.dflt us
 | .bool, vs, r, h => by
  match vs, h with
  | .bool false :: _, h => simp [qOf] at h; subst h; exact ⟨[_], rfl, rfl⟩
 | .int k, vs, r, h => by
  match vs, h with
  | .int j 0 :: _, h =>
   simp [qOf] at h;obtain ⟨rfl, rfl⟩ := h;exact ⟨[_], rfl, rfl⟩
 | .str, vs, r, h => by
  match vs, h with
  | .string s :: _, h =>
   simp only [qOf] at h
   split at h
   .rename_i hs
    simp at h; subst h;refine ⟨[_], rfl, ?_⟩;have : s = ⟨([] : List UInt8).toArray⟩ := by
     cases s with | mk d =>
     congr 1
     apply Array.ext'; simpa using hs
    rw [this]; rfl
   .cases h
 | .unit, vs, r, h => by
  simp only [qOf, Option.some.injEq] at h;subst h; exact ⟨[], rfl, rfl⟩
 | .pair a b, vs, r, h => by
  simp only [qOf] at h
  split at h
  .rename_i r1 h1
   obtain ⟨us, rfl, g1⟩ := qJh X w a h1;obtain ⟨us', rfl, g2⟩ := qJh X w b h;exact ⟨us ++ us', by simp, us, us', rfl, g1, g2⟩
  .cases h
 | .list e, vs, r, h => by
  match vs, h with
  | .slice none 0 0 :: _, h => simp [qOf] at h; subst h; exact ⟨[_], rfl, none, 0, rfl, Nat.le_refl _, .inl rfl⟩
 | .ptr t, vs, r, h => by
  cases vs <;> simp [qOf] at h
 | .arr n e, vs, r, h => by
  simp only [qOf] at h;have key : ∀ (n : Nat) (vs r : List Value), qOf.loop (qOf e) n vs = some r -> ∃ uss : List (List Value), vs = uss.flatten ++ r /\ All2 (Rep X w e) (List.replicate n e.dflt) uss := by
   intro n
   induction n with
   | zero => intro vs r h; simp [qOf.loop] at h; subst h; exact ⟨[], rfl, trivial⟩
   | succ n ih =>
    intro vs r h;simp only [qOf.loop] at h
    split at h
    .rename_i r1 h1
     obtain ⟨us, rfl, g1⟩ := qJh X w e h1;obtain ⟨uss, rfl, g2⟩ := ih _ _ h;exact ⟨us :: uss, by simp, g1, g2⟩
    .cases h
  obtain ⟨uss, rfl, g⟩ := key n vs r h;exact ⟨uss.flatten, rfl, by simp [Ty.dflt], uss, rfl, g⟩
def tyB (i : TInf) : Bool := match i.ty with | .none => true | some ty => Nat.beq ty.size i.size && (Nat.ble 1 i.size && Nat.ble 1 i.bytes)
def ztB (i : TInf) (vs : List Value) : Bool := bif i.zt then (match i.ty with | .none => true | some ty => (match qOf ty vs with | some [] => true | _ => false)) else true
def qnt (T : Nat -> TInf) (i : TInf) : Bool :=
 match i.d with
 | .struct fs => fs.all fun p => (T p.2).d.known
 | .slice e => (T e).d.known
 | .array _ e => (T e).d.known
 | _ => true
def cmpB (P : Program) (i : TInf) (t : Nat) (d : TypeDesc) : Bool :=
 bif i.cmp then (!P.stoodInHeld t && (!P.eqGuardType P.depth t && (match d with | .struct gs => gs.toList.all fun f => f.name != "_" | _ => true))) else true
def qoy (i : TInf) (z : Value) : Bool := match i.isAgg, z with
 | true, .agg _ => true
 | true, _ => false
 | false, .agg _ => false
 | false, _ => true
theorem qFu {i : TInf} {z : Value} (h : qoy i z = true) : z = mval i.isAgg z.cells.toList := by
 unfold qoy at h
 cases hi : i.isAgg with
 | true => rw [hi] at h; cases z <;> simp at h; simp [mval, Value.cells]
 | false => rw [hi] at h; cases z <;> simp at h <;> rfl
def qlw (P : Program) (T : Nat -> TInf) (t : Nat) : Bool :=
 match P.info? t, P.underlying t with
 | some ti, some d => (match ti.zero with
  | some z => tdOk (T t).d d && (Nat.beq ti.size (T t).size && (Nat.beq ti.bytes (T t).bytes && (qip (T t).zero z.cells.toList && (Nat.beq z.cells.size (T t).size && (ztB (T t) z.cells.toList && (tyB (T t) && (qnt T (T t) && (cmpB P (T t) t d && qoy (T t) z))))))))
  | none => false)
 | _, _ => false
theorem qss {P : Program} {T : Nat -> TInf} {t : Nat} (h : qlw P T t = true) : TOk1 P T t := by
 unfold qlw at h
 split at h
 .rename_i ti d hi hd
  split at h
  .rename_i z hz
   simp only [Bool.and_eq_true, qk] at h;obtain ⟨h1, h2, h3, h4, h5, h6, h7, h8, h9, h10⟩ := h;refine ⟨⟨d, hd, h1⟩, ⟨ti, z, hi, h2, h3, hz, qkm h4, h5, ?_⟩, ?_, ?_, ?_, ?_, ?_, ?_⟩
   .intro hzt ty hty X w
    unfold ztB at h6;rw [hzt, hty] at h6;simp only [cond_true] at h6
    split at h6
    .rename_i hr
     obtain ⟨us, e, g⟩ := qJh X w ty hr;rw [e]; simpa using g
    .cases h6
   .intro ty hty
    unfold tyB at h7;rw [hty] at h7;simp only [Bool.and_eq_true, qk] at h7;exact ⟨h7.1, Nat.le_of_ble_eq_true h7.2.1, Nat.le_of_ble_eq_true h7.2.2⟩
   .intro fs hfs p hp
    unfold qnt at h8;rw [hfs] at h8;exact List.all_eq_true.1 h8 p hp
   .intro e he; unfold qnt at h8; rw [he] at h8; exact h8
   .intro n e he; unfold qnt at h8; rw [he] at h8; exact h8
   .intro ti' z' hi' hz'
    rw [hi] at hi';obtain rfl := Option.some.inj hi';rw [hz] at hz';obtain rfl := Option.some.inj hz';exact qFu h10
   .intro hc
    unfold cmpB at h9;rw [hc] at h9;simp only [cond_true, Bool.and_eq_true, Bool.not_eq_true'] at h9;refine ⟨h9.1, h9.2.1, fun gs hgs f hf => ?_⟩;rw [hd] at hgs;simp only [Option.some.injEq] at hgs;subst hgs;have := List.all_eq_true.1 h9.2.2 f hf;simpa using this
  .cases h
 .cases h
theorem TOk.of_list {P : Program} {l : List (Nat × TInf)} {G : Nat -> Option (Sigma Ty.El)} (h : (l.all fun p => qlw P (tget l) p.1) = true) : TOk P ⟨tget l, G⟩ := by
 intro t ht
 have hm : ∀ m : List (Nat × TInf), (match look t m with | some i => i | none => TInf.none).d.known = true -> ∃ p ∈ m, p.1 = t := by
  intro m
  induction m with
  | nil => intro h; simp [look, TInf.none, TD.known] at h
  | cons q m ih =>
   intro h;rw [qwb] at h
   by_cases e : t = q.1
   .exact ⟨q, List.mem_cons_self .., e.symm⟩
   .rw [if_neg e] at h
    obtain ⟨p, h1, h2⟩ := ih h;exact ⟨p, List.mem_cons_of_mem _ h1, h2⟩
 obtain ⟨p, h1, rfl⟩ := hm l ht
 exact qss (List.all_eq_true.1 h p h1)
end Go.AM
set_option linter.unusedSimpArgs false
set_option linter.unusedVariables false
namespace Go.AM
open Go Go.RowKit
def nb0 : Nat -> Value := fun _ => .nilFunc
def X0 : Nat -> Prop := fun _ => False
theorem qHo {P : Program} {f : Nat} {fn : Func} (hf : P.funcs[f]? = some fn) (hname : (fn.name == "runtime.NumGoroutine") = false) (hb : fn.body.isSome = true) (vs : Array Value) (w : World) :
    (callFunc f vs).run P w = .ok (.enter f vs) w := by
 have hnm : ¬ fn.name = "runtime.NumGoroutine" := by simpa using hname
 obtain ⟨c, hc⟩ := Option.isSome_iff_exists.1 hb
 simp [callFunc, hf, hnm, hc]
theorem Phi.calls_bool {P : Program} {cx : Cx} {f : Nat} {fn : Func} (hf : P.funcs[f]? = some fn) (hname : (fn.name == "runtime.NumGoroutine") = false) (hb : fn.body.isSome = true)
    {args : List V} {b : Bool} (hΦ : Phi P cx f args [] (.one (.bool b)) []) {vs : List Value} {w : World} (hargs : qqd nb0 X0 w args vs)
    (hglob : ∀ g t x, cx.G g = some ⟨t, x⟩ -> Rep X0 w (.ptr t) x [.pointer (some ⟨g, 0, none⟩)]) :
    Calls P f vs.toArray w fun e w' => e = .returned (.bool b) /\ Below w.heap.size w w' := by
 have hX : YY X0 nb0 [] = X0 := by
  funext b
  simp only [YY, qJd, X0, eq_iff_iff, iff_false];rintro (h | ⟨k, s, h, _⟩)
  .exact h
  .simp [nth] at h
 have hpre : Pre cx X0 nb0 w args vs [] := by
  refine ⟨fun b hb => False.elim hb, by rw [hX]; exact hargs, fun k s h => by simp [nth] at h, fun j k s s' b h => by simp [nth] at h, fun b hb => ?_, fun g t x h => by rw [hX]; exact hglob g t x h⟩;obtain ⟨k, s, h, _⟩ := hb;simp [nth] at h
 rcases hΦ X0 nb0 w vs hpre with ⟨_, h⟩ | ⟨v, w', h, _⟩
 .refine h.mono ?_
  rintro e w' ⟨v, β', rfl, A⟩;have hv : v = .bool b := A.val;subst hv;refine ⟨rfl, A.same.1, A.same.2.1, A.same.2.2, A.size, fun k hk => ?_⟩;have hget : w.heap[k]? = some w.heap[k] := Array.getElem?_eq_getElem hk;rw [hget];refine A.frame k _ hget ?_;rintro ⟨i, s, h, _⟩;simp [nth] at h
 .rw [qHo hf hname hb] at h
  cases h
end Go.AM
set_option linter.unusedSimpArgs false
set_option linter.unusedVariables false
namespace Go.AM
open Go
@[reducible] def qc (α : Type) : List α := []
def qT {S α : Type} : Nat -> (S -> (S -> Option α) -> Option α) -> S -> Option α
 | 0, _, _ => none
 | n + 1, F, s => F s (qT n F)
def qVb {S α : Type} (o : Option (S ⊕ α)) (k : S -> Option α) : Option α :=
 match o with
 | some (.inl s) => k s
 | some (.inr a) => some a
 | none => none
def qgu {α β : Type} (o : Option β) (k : β -> Option α) : Option α := Option.bind o k
def mapC {α β : Type} (f : β -> α) (o : Option β) : Option α := Option.map f o
def qQv {α : Type} {rt : VT} {sss : List SS} (fx : FX rt sss) (st : St) (g : Nat) (args : List V) (pass news brw : List Nat) (κ : V -> St -> Option α) : Option α :=
 match qKg st pass, (qHf (pass ++ news) && Nat.beq sss.length (pass ++ news).length && qey st (pass ++ news) brw rt sss) && Nat.beq g fx.g with
 | some ss, true =>
  (match VT1s.parse fx.args ((args.map (V.map (C.brw st brw))).map (V.map (C.ren fun k => qlc k pass 0))), SSs.parse fx.slots (ss.map (Slot.map (C.ren fun k => qlc k pass 0))) with
   | some x, some y => qgu (fx.m (x, y)) fun r => κ ((rt.enc r.1).map (C.ren (nth (pass ++ news)))) (qYe st pass news (SSs.enc sss r.2))
   | _, _ => none)
 | _, _ => none
def exOp {α : Type} (cx : Cx) (o : Oper) (an : Ann) (st : St) (κ : V -> St -> Option α) : Option α :=
 match o.op with
 | .call c => (match c.callee with
  | .builtin b => let r := evB cx b c.argTypes.toList (c.args.toList.map (st.eval cx)) an st; r.side.ite (κ r.val r.st)
  | .value f => (match st.eval cx f, an with
   | .one (.fn g caps), .call pass news brw _ _ fx => qQv fx st g (c.args.toList.map (st.eval cx) ++ caps.map fun k => V.one (.ref k 0)) pass news brw κ
   | _, _ => none)
  | _ => none)
 | op => let r := evI cx op an st; r.side.ite (κ r.val r.st)
def qZx (all : Array Oper) (j : Nat) : Option Nat := match all[j]? with | some o => o.dst | none => none
theorem qDx (all : Array Oper) (j : Nat) : (all[j]?).bind (·.dst) = qZx all j := by unfold qZx; cases all[j]? <;> rfl
def qQf {α : Type} (cx : Cx) (all : Array Oper) (κ : Exit -> St -> Option α) : List Oper -> List (List Ghost × Ann) -> St -> Option α
 | [], _, st => κ .normal st
 | _ :: _, [], _ => none
 | o :: os, a :: as, st =>
  match que a.1 st with
  | none => none
  | some st =>
   match o.guard with
   | none => exOp cx o a.2 st fun v st' => qQf cx all κ os as (st'.put o.dst v)
   | some (j, want) =>
    match qZx all j with
    | none => none
    | some t =>
     match st.get t with
     | .one (.bool b) =>
      (match want with
       | true => cond b (exOp cx o a.2 (st.put (some t) (.one (.bool true))) fun v st' => qQf cx all κ os as (st'.put o.dst v))
           (qQf cx all κ os as ((st.put (some t) (.one (.bool false))).put o.dst .undef))
       | false => cond b (qQf cx all κ os as ((st.put (some t) (.one (.bool true))).put o.dst .undef))
           (exOp cx o a.2 (st.put (some t) (.one (.bool false))) fun v st' => qQf cx all κ os as (st'.put o.dst v)))
     | .undef => qQf cx all κ os as (st.put o.dst .undef)
     | _ => none
def qSx {α : Type} (cx : Cx) (ops : Array Oper) (as : List (List Ghost × Ann)) (κ : Exit -> St -> Option α) (p : Nat) (K : List Nat) (st : St) : Option α :=
 match (qJt ops.toList as || qJp ops.toList as) && st.noK K with
 | true => qQf cx ops (fun e st' => match e with | .normal => (match st'.noK K with | true => qQf cx ops κ (ops.toList.drop p) (as.drop p) st' | false => none) | e => κ e st') (ops.toList.take p) (as.take p) st
 | false => none
def exA (cx : Cx) : An -> {α : Type} -> Code -> St -> (Exit -> St -> Option α) -> Option α
 | .gh gs a, _, c, st, κ => (match que gs st with | some st' => exA cx a c st' κ | none => none)
 | .unopt r t a, _, c, st, κ => (match quv st r t with | some x => qgu x fun y => exA cx a c (st.put (some r) (.one (.pp t y 0))) κ | none => none)
 | .rng ts k a, _, c, st, κ => (match qxf c with
  | some R => (match st.get R.m, st.slot k with
   | .one (.rm k'), some (.mp kty vty ag es) => (match Nat.beq k k' && qGq cx R ts kty vty ag with
    | true => qgu (anyC (qzg cx ⟨qO ts st, st.slots⟩ R kty vty ag) es) fun b => cond b
        (exA cx a R.thn ⟨qO ts st, st.slots⟩ fun e st' => (match e with
         | .normal => none
         | .exit j => (bif Nat.beq j R.b2 then none else bif Nat.beq j R.b1 then κ .normal st' else κ (.exit j) st')
         | e => κ e st'))
        (κ .normal ⟨qO ts st, st.slots⟩)
    | false => none)
   | _, _ => none)
  | none => none)
 | .post a gs, _, c, st, κ => exA cx a c st fun e st' => (match e with | .normal => (match que gs st' with | some st2 => κ .normal st2 | none => none) | e => κ e st')
 | .leaf, _, .skip, st, κ => κ .normal st
 | .leaf, _, .exit id, st, κ => κ (.exit id) st
 | .leaf, _, .ret, st, κ => κ .ret st
 | .reg as, _, .region _ ops false, st, κ => qQf cx ops κ ops.toList as st
 | .reg as, _, .region _ ops true, st, κ => (match qEq ops, qQh ops.toList as with | true, true => qQf cx ops κ ops.toList as st | true, false => (match qEt ops.toList as with | true => qQf cx ops κ ops.toList as st | false => (match qEq (qne ops) with | true => qSx cx (qne ops) as κ (qbf (qne ops).toList as) (qK ((qne ops).toList.drop (qbf (qne ops).toList as)) (as.drop (qbf (qne ops).toList as))) st | false => none)) | _, _ => none)
 | .seq a b, _, .seq x y, st, κ => exA cx a x st fun e st' => (match e with | .normal => exA cx b y st' κ | e => κ e st')
 | .cond a b, _, .cond c x y, st, κ => (match st.eval cx c with
  | .one (.bool t) => cond t (exA cx a x st κ) (exA cx b y st κ)
  | _ => none)
 | .block a, _, .block id x, st, κ => exA cx a x st fun e st' => (match e with | .exit j => (bif Nat.beq j id then κ .normal st' else κ (.exit j) st') | e => κ e st')
 | .join false l a, _, c, st, κ => qgu (exA cx a (α := l.El) c st fun e st' => (match e with | .normal => l.parse st' | _ => none)) fun s => κ .normal (l.enc s)
 | .join true l a, α, c, st, κ => qVb (exA cx a (α := l.El ⊕ α) c st fun e st' => (match e with
     | .normal => (match l.parse st' with | some s => some (.inl s) | none => none)
     | e => mapC .inr (κ e st'))) fun s => κ .normal (l.enc s)
 | .loop l fu a, _, .loop x, st, κ => (match l.parse st with
  | some s0 => qT (fu s0) (fun s k => exA cx a x (l.enc s) fun e st' => (match e with
   | .normal => (match l.parse st' with | some s' => k s' | none => none)
   | e => κ e st')) s0
  | none => none)
 | _, _, _, _, _ => none
def FX.Valid {rt : VT} {outs : List SS} (P : Program) (cx : Cx) (fx : FX rt outs) : Prop :=
 ∀ x r, fx.m x = some r -> Phi P cx fx.g (VT1s.enc fx.args x.1) (SSs.enc fx.slots x.2) (rt.enc r.1) (SSs.enc outs r.2)
def FM.Valid (P : Program) (cx : Cx) (fm : FM) : Prop := fm.fx.Valid P cx
def Ann.Valid (P : Program) (cx : Cx) : Ann -> Prop
 | .call _ _ _ _ _ fx => fx.Valid P cx
 | _ => True
def qTl (P : Program) (cx : Cx) : List (List Ghost × Ann) -> Prop
 | [] => True
 | a :: r => a.2.Valid P cx /\ qTl P cx r
theorem qTl.take {P : Program} {cx : Cx} : ∀ {l : List (List Ghost × Ann)} (n : Nat), qTl P cx l -> qTl P cx (l.take n)
 | _, 0, _ => by rw [List.take_zero]; exact trivial
 | [], n + 1, _ => trivial
 | a :: l, n + 1, ⟨h1, h2⟩ => ⟨h1, qTl.take n h2⟩
theorem qTl.drop {P : Program} {cx : Cx} : ∀ {l : List (List Ghost × Ann)} (n : Nat), qTl P cx l -> qTl P cx (l.drop n)
 | _, 0, h => h
 | [], n + 1, _ => trivial
 | a :: l, n + 1, ⟨_, h2⟩ => qTl.drop n h2
def An.Valid (P : Program) (cx : Cx) : An -> Prop
 | .leaf => True
 | .reg as => qTl P cx as
 | .gh _ a => a.Valid P cx
 | .seq a b => a.Valid P cx /\ b.Valid P cx
 | .cond a b => a.Valid P cx /\ b.Valid P cx
 | .block a => a.Valid P cx
 | .loop _ _ a => a.Valid P cx
 | .join _ _ a => a.Valid P cx
 | .post a _ => a.Valid P cx
 | .unopt _ _ a => a.Valid P cx
 | .rng _ _ a => a.Valid P cx
def qKx : List (List Ghost × Ann) -> List FM
 | [] => []
 | (_, .call _ _ _ rt outs fx) :: r => ⟨rt, outs, fx⟩ :: qKx r
 | _ :: r => qKx r
def An.ms : An -> List FM
 | .leaf => []
 | .reg as => qKx as
 | .gh _ a => a.ms
 | .seq a b => a.ms ++ b.ms
 | .cond a b => a.ms ++ b.ms
 | .block a => a.ms
 | .loop _ _ a => a.ms
 | .join _ _ a => a.ms
 | .post a _ => a.ms
 | .unopt _ _ a => a.ms
 | .rng _ _ a => a.ms
def allV (P : Program) (cx : Cx) : List FM -> Prop
 | [] => True
 | m :: r => m.Valid P cx /\ allV P cx r
theorem qak {P : Program} {cx : Cx} : ∀ {a b : List FM}, allV P cx (a ++ b) -> allV P cx a /\ allV P cx b
 | [], b, h => ⟨trivial, h⟩
 | m :: a, b, ⟨h1, h2⟩ => let ⟨h3, h4⟩ := qak h2; ⟨⟨h1, h3⟩, h4⟩
theorem qKc {P : Program} {cx : Cx} : ∀ {as : List (List Ghost × Ann)}, allV P cx (qKx as) -> qTl P cx as
 | [], _ => trivial
 | (g, .no) :: r, h => ⟨trivial, qKc h⟩
 | (g, .key _) :: r, h => ⟨trivial, qKc h⟩
 | (g, .nilAs _ _) :: r, h => ⟨trivial, qKc h⟩
 | (g, .keyT _ _) :: r, h => ⟨trivial, qKc h⟩
 | (g, .keyB _) :: r, h => ⟨trivial, qKc h⟩
 | (g, .cutA) :: r, h => ⟨trivial, qKc h⟩
 | (g, .viewA) :: r, h => ⟨trivial, qKc h⟩
 | (g, .call _ _ _ _ _ _) :: r, h => ⟨h.1, qKc h.2⟩
theorem An.valid {P : Program} {cx : Cx} : ∀ {a : An}, allV P cx a.ms -> a.Valid P cx
 | .leaf, _ => trivial
 | .reg as, h => qKc h
 | .gh _ a, h => An.valid (a := a) h
 | .seq a b, h => ⟨An.valid (qak h).1, An.valid (qak h).2⟩
 | .cond a b, h => ⟨An.valid (qak h).1, An.valid (qak h).2⟩
 | .block a, h => An.valid (a := a) h
 | .loop _ _ a, h => An.valid (a := a) h
 | .join _ _ a, h => An.valid (a := a) h
 | .post a _, h => An.valid (a := a) h
 | .unopt _ _ a, h => An.valid (a := a) h
 | .rng _ _ a, h => An.valid (a := a) h
section
variable {P : Program} {cx : Cx}
theorem Side.ite_some {α : Type} {s : Side} {o : Option α} {a : α} (h : s.ite o = some a) : s.holds /\ o = some a := by
 cases s with
 | t => exact ⟨trivial, h⟩
 | f => cases h
 | p q =>
  simp only [Side.ite] at h
  split at h
  .exact ⟨‹_›, h⟩
  .cases h
theorem VT1s.rep {β : Nat -> Value} {w : World} {X : Nat -> Prop} : ∀ {vts : List VT1} {cs : List V} {vs : List Value} {x : VT1s.El vts}, qqd β X w cs vs -> VT1s.parse vts cs = some x -> qqd β X w (VT1s.enc vts x) vs
 | [], [], [], _, _, _ => trivial
 | vt :: r, c :: cs, v :: vs, x, ⟨h1, h2⟩, hp => by
  simp only [VT1s.parse] at hp
  split at hp
  .rename_i y z h3 h4
   simp only [Option.some.injEq] at hp; subst hp;exact ⟨VT1.rep h1 h3, VT1s.rep h2 h4⟩
  .cases hp
 | [], [], _ :: _, _, h, _ => h.elim
 | [], _ :: _, _, _, _, hp => by simp [VT1s.parse] at hp
 | _ :: _, [], _, _, _, hp => by simp [VT1s.parse] at hp
 | _ :: _, _ :: _, [], _, h, _ => h.elim
theorem SSs.parse_nth : ∀ {l : List SS} {sl : List Slot} {y : SSs.El l}, SSs.parse l sl = some y ->
    (∀ k s', nth (SSs.enc l y) k = some s' -> ∃ (s0 : Slot) (ss : SS) (z : ss.El), nth sl k = some s0 /\ ss.parse s0 = some z /\ s' = ss.enc z) /\
    (∀ k s0, nth sl k = some s0 -> ∃ (ss : SS) (z : ss.El), ss.parse s0 = some z /\ nth (SSs.enc l y) k = some (ss.enc z))
 | [], [], y, _ => ⟨fun k s' h => by simp [SSs.enc, nth] at h, fun k s0 h => by simp [nth] at h⟩
 | ss :: l, s :: sl, y, hp => by
  simp only [SSs.parse] at hp
  split at hp
  .rename_i a b h1 h2
   simp only [Option.some.injEq] at hp; subst hp;obtain ⟨g1, g2⟩ := SSs.parse_nth h2;refine ⟨fun k s' h => ?_, fun k s0 h => ?_⟩
   .cases k with
    | zero => simp only [SSs.enc, nth, Option.some.injEq] at h; exact ⟨s, ss, a, rfl, h1, h.symm⟩
    | succ k => simp only [SSs.enc, nth] at h ⊢; exact g1 k s' h
   .cases k with
    | zero => simp only [nth, Option.some.injEq] at h; subst h; exact ⟨ss, a, h1, rfl⟩
    | succ k => simp only [SSs.enc, nth] at h ⊢; exact g2 k s0 h
  .cases hp
 | [], _ :: _, _, hp => by simp [SSs.parse] at hp
 | _ :: _, [], _, hp => by simp [SSs.parse] at hp
theorem Phi.weaken {f : Nat} {vts : List VT1} {l : List SS} {args : List V} {ss : List Slot} {x : VT1s.El vts} {y : SSs.El l} {r : V} {ss' : List Slot}
    (hx : VT1s.parse vts args = some x) (hy : SSs.parse l ss = some y) (h : Phi P cx f (VT1s.enc vts x) (SSs.enc l y) r ss') : Phi P cx f args ss r ss' := by
 intro X β w vs hpre
 obtain ⟨g1, g2⟩ := SSs.parse_nth hy
 have hblk : ∀ b, qJd β (SSs.enc l y) b ↔ qJd β ss b := by
  intro b;constructor
  .rintro ⟨k, s, hk, hb⟩; obtain ⟨s0, _, _, h1, _⟩ := g1 k s hk; exact ⟨k, s0, h1, hb⟩
  .rintro ⟨k, s, hk, hb⟩; obtain ⟨_, z, _, h1⟩ := g2 k s hk; exact ⟨k, _, h1, hb⟩
 have hY : YY X β (SSs.enc l y) = YY X β ss := by
  funext b; apply propext; unfold YY; rw [hblk]
 have hpre' : Pre cx X β w (VT1s.enc vts x) vs (SSs.enc l y) := by
  refine ⟨hpre.outer, ?_, ?_, ?_, ?_, ?_⟩
  .rw [hY]; exact VT1s.rep hpre.args hx
  .intro k s hk
   obtain ⟨s0, ss0, z, h1, h2, rfl⟩ := g1 k s hk;rw [hY]; exact SS.rep (hpre.slots k s0 h1) h2
  .intro j k s s' b h1 h2 h3 h4
   obtain ⟨s0, _, _, e1, _⟩ := g1 j s h1;obtain ⟨s1, _, _, e2, _⟩ := g1 k s' h2;exact hpre.inj j k s0 s1 b e1 e2 h3 h4
  .intro b hb; exact hpre.apart b ((hblk b).1 hb)
  .intro g t x hg; rw [hY]; exact hpre.glob g t x hg
 have hans : ∀ v w' β', Ans X β w (SSs.enc l y) r ss' v w' β' -> Ans X β w ss r ss' v w' β' := by
  intro v w' β' A;refine ⟨A.val, A.slots, A.inj, fun b o hb hn => A.frame b o hb fun hh => hn ((hblk b).1 hh), fun b hb => ⟨(A.owned b hb).1.imp (hblk b).1 id, (A.owned b hb).2⟩, A.size, A.same, ?_, ?_⟩
  .intro k s hk hfx
   obtain ⟨ss0, z, h1, h2⟩ := g2 k _ hk;exact A.keep k _ h2 (by rw [SS.parse_fixd h1]; exact hfx)
  .intro k s hk hfx
   obtain ⟨ss0, z, h1, h2⟩ := g2 k _ hk;exact A.kind k _ h2 (by rw [SS.parse_fixd h1]; exact hfx)
 rcases h X β w vs hpre' with ⟨h1, h2⟩ | ⟨v, w', h1, v', β', he, A⟩
 .exact .inl ⟨h1, h2.mono fun e w' ⟨v, β', he, A⟩ => ⟨v, β', he, hans v w' β' A⟩⟩
 .exact .inr ⟨v, w', h1, v', β', he, hans v' w' β' A⟩
theorem qUq {α : Type} {rt : VT} {sss : List SS} {fx : FX rt sss} (hv : fx.Valid P cx) {st : St} {g : Nat} {args : List V} {pass news brw : List Nat} {κ : V -> St -> Option α} {a : α} {Q : V -> St -> Prop}
    (hQ : ∀ v st', κ v st' = some a -> Q v st') (h : qQv fx st g args pass news brw κ = some a) : qrl (Phi P cx) st g args pass news brw rt sss Q := by
 unfold qQv at h
 split at h
 .rename_i ss hss hchk
  simp only [Bool.and_eq_true, qk] at hchk;obtain ⟨⟨⟨h1, h2⟩, h3'⟩, rfl⟩ := hchk
  split at h
  .rename_i x y hx hy
   obtain ⟨r, h3, h4⟩ := Option.bind_eq_some_iff.1 h;have hphi := hv (x, y) r h3;unfold qrl;rw [hss, h1, (qk _ _).2 h2, h3'];exact ⟨r.1, r.2, hphi.weaken hx hy, hQ _ _ h4⟩
  .cases h
 .cases h
theorem qMu {α : Type} {o : Oper} {an : Ann} (hv : an.Valid P cx) {st : St} {κ : V -> St -> Option α} {a : α} {Q : V -> St -> Prop}
    (hQ : ∀ v st', κ v st' = some a -> Q v st') (h : exOp cx o an st κ = some a) : AM.wpOp cx (Phi P cx) o an st Q := by
 unfold exOp at h
 unfold AM.wpOp
 split at h
 .rename_i c hc
  simp only [hc]
  split at h
  .rename_i b hb
   simp only [hb];obtain ⟨h1, h2⟩ := Side.ite_some h;exact Side.mk_and h1 (hQ _ _ h2)
  .rename_i f hf
   simp only [hf]
   split at h
   .rename_i g caps pass news brw rt sss fx hg
    simp only [hg];exact qUq hv hQ h
   .cases h
  .cases h
 .rename_i hne
  split
  .rename_i c hc; exact absurd hc (hne c)
  .obtain ⟨h1, h2⟩ := Side.ite_some h
   exact Side.mk_and h1 (hQ _ _ h2)
theorem qid {α : Type} {all : Array Oper} {κ : Exit -> St -> Option α} {a : α} {Q : Exit -> St -> Prop} (hQ : ∀ e st', κ e st' = some a -> Q e st') :
    ∀ (os : List Oper) (as : List (List Ghost × Ann)) (st : St), qTl P cx as -> qQf cx all κ os as st = some a -> qE cx (Phi P cx) all Q os as st
 | [], as, st, _, h => by simp only [qQf] at h; simp only [qE]; exact hQ _ _ h
 | _ :: _, [], st, _, h => by simp [qQf] at h
 | o :: os, x :: as, st, hv, h => by
  simp only [qQf] at h;simp only [qE]
  split at h
  .cases h
  .rename_i st1 hg
   simp only [hg];have run : ∀ st2, exOp cx o x.2 st2 (fun v st' => qQf cx all κ os as (st'.put o.dst v)) = some a ->
       AM.wpOp cx (Phi P cx) o x.2 st2 fun v st' => qE cx (Phi P cx) all Q os as (st'.put o.dst v) :=
    fun st2 h => qMu hv.1 (fun v st' h => qid hQ os as _ hv.2 h) h
   have skip : ∀ st2, qQf cx all κ os as st2 = some a -> qE cx (Phi P cx) all Q os as st2 := fun st2 h => qid hQ os as _ hv.2 h
   split at h
   .rename_i hgd
    simp only [hgd];exact run _ h
   .rename_i j want hgd
    split at h
    .cases h
    .rename_i t ht
     simp only [hgd, qDx, ht]
     split at h
     .rename_i b hb
      simp only [hb];cases want <;> cases b <;> simp only [cond_true, cond_false] at h ⊢
      .exact run _ h
      .exact skip _ h
      .exact skip _ h
      .exact run _ h
     .rename_i hb; simp only [hb]; exact skip _ h
     .cases h
theorem qVy {p : Nat -> Prop} (h : ∃ n, p n) : ∃ n, p n /\ ∀ m, m < n -> ¬p m := by
 obtain ⟨n, hn⟩ := h
 induction n using Nat.strongRecOn with
 | _ n ih =>
  by_cases hx : ∃ m, m < n /\ p m
  .obtain ⟨m, h1, h2⟩ := hx; exact ih m h1 h2
  .exact ⟨n, hn, fun m h1 h2 => hx ⟨m, h1, h2⟩⟩
theorem qBq {S α : Type} (F : S -> (S -> Option α) -> Option α) (a : α) :
    ∃ μ : S -> Nat, ∀ s, (∃ n, qT n F s = some a) -> ∃ k, μ s = k + 1 /\ F s (qT k F) = some a /\ ∀ s', qT k F s' = some a -> μ s' < μ s := by
 have hex : ∀ s, ∃ n, (∃ m, qT m F s = some a) -> qT n F s = some a /\ ∀ m, m < n -> ¬qT m F s = some a := by
  intro s
  by_cases h : ∃ m, qT m F s = some a
  .obtain ⟨n, h1, h2⟩ := qVy h; exact ⟨n, fun _ => ⟨h1, h2⟩⟩
  .exact ⟨0, fun hh => absurd hh h⟩
 refine ⟨fun s => (hex s).choose, fun s hs => ?_⟩
 obtain ⟨h1, h2⟩ := (hex s).choose_spec hs
 cases hk : (hex s).choose with
 | zero => rw [hk] at h1; cases h1
 | succ k =>
  rw [hk] at h1;refine ⟨k, hk, h1, fun s' hs' => ?_⟩;obtain ⟨_, g2⟩ := (hex s').choose_spec ⟨k, hs'⟩;have : ¬ k < (hex s').choose := fun hlt => g2 k hlt hs'
  show (hex s').choose < (hex s).choose
  rw [hk]; omega
theorem qTw : ∀ (an : An) {α : Type} (c : Code) (st : St) (κ : Exit -> St -> Option α) (a : α) (Q : Exit -> St -> Prop), an.Valid P cx -> (∀ e st', κ e st' = some a -> Q e st') ->
    exA cx an c st κ = some a -> wpA cx (Phi P cx) an c st Q := by
 intro an
 induction an with
 | leaf =>
  intro α c st κ a Q _ hQ h;cases c <;> first | (exact hQ _ _ h) | (cases h)
 | reg as =>
  intro α c st κ a Q hv hQ h;cases c with
  | region id ops d =>
   cases d with
   | false => exact qid hQ _ _ _ hv h
   | true =>
    simp only [exA] at h
    split at h
    .rename_i hc hc2
     simp only [wpA, hc, hc2];exact qid hQ _ _ _ hv h
    .rename_i hc hc2
     simp only [wpA, hc, hc2]
     split at h
     .rename_i hc3
      simp only [hc3];exact qid hQ _ _ _ hv h
     rename_i hc3;simp only [hc3]
     split at h
     .rename_i hc4
      simp only [hc4];unfold qSx at h;unfold qap
      split at h
      .rename_i hck
       simp only [hck];refine qid ?_ _ _ _ (hv.take _) h;intro e st' he;cases e with
       | normal =>
        simp only at he ⊢
        split at he
        .rename_i hnk
         exact ⟨hnk, qid hQ _ _ _ (hv.drop _) he⟩
        .cases he
       | _ => exact hQ _ _ he
      .cases h
     .cases h
    .cases h
  | _ => cases h
 | gh gs an ih =>
  intro α c st κ a Q hv hQ h;cases hg : que gs st with
  | none => cases c <;> simp [exA, hg] at h
  | some st1 =>
   have h' : exA cx an c st1 κ = some a := by cases c <;> simpa only [exA, hg] using h
   have := ih c st1 κ a Q hv hQ h';cases c <;> simpa only [wpA, hg] using this
 | seq x y ihx ihy =>
  intro α c st κ a Q hv hQ h;cases c with
  | seq p q =>
   simp only [exA] at h;simp only [wpA];refine ihx p st _ a _ hv.1 ?_ h;intro e st' he;cases e with
   | normal => exact ihy q st' κ a Q hv.2 hQ he
   | _ => exact hQ _ _ he
  | _ => cases h
 | cond x y ihx ihy =>
  intro α c st κ a Q hv hQ h;cases c with
  | cond v p q =>
   simp only [exA] at h;simp only [wpA]
   split at h
   .rename_i t ht
    simp only [ht];cases t
    .exact ihy q st κ a Q hv.2 hQ h
    .exact ihx p st κ a Q hv.1 hQ h
   .cases h
  | _ => cases h
 | block x ih =>
  intro α c st κ a Q hv hQ h;cases c with
  | block id p =>
   simp only [exA] at h;simp only [wpA];refine ih p st _ a _ hv ?_ h;intro e st' he;cases e with
   | exit j =>
    simp only at he ⊢;cases hb : Nat.beq j id
    .rw [hb] at he; exact hQ _ _ he
    .rw [hb] at he; exact hQ _ _ he
   | _ => exact hQ _ _ he
  | _ => cases h
 | rng ts k x ih =>
  intro α c st κ a Q hv hQ h;have h' : (match qxf c with
   | some R => (match st.get R.m, st.slot k with
    | .one (.rm k'), some (.mp kty vty ag es) => (match Nat.beq k k' && qGq cx R ts kty vty ag with
     | true => qgu (anyC (qzg cx ⟨qO ts st, st.slots⟩ R kty vty ag) es) fun b => cond b
         (exA cx x R.thn ⟨qO ts st, st.slots⟩ fun e st' => (match e with
          | .normal => none
          | .exit j => (bif Nat.beq j R.b2 then none else bif Nat.beq j R.b1 then κ .normal st' else κ (.exit j) st')
          | e => κ e st'))
         (κ .normal ⟨qO ts st, st.slots⟩)
     | false => none)
    | _, _ => none)
   | none => none) = some a := by cases c <;> exact h
  have goal : (match qxf c with
   | some R => (match st.get R.m, st.slot k with
    | .one (.rm k'), some (.mp kty vty ag es) => (match Nat.beq k k' && qGq cx R ts kty vty ag with
     | true => ∃ b, anyC (qzg cx ⟨qO ts st, st.slots⟩ R kty vty ag) es = some b /\ (match b with
      | true => wpA cx (Phi P cx) x R.thn ⟨qO ts st, st.slots⟩ (rngQ R Q)
      | false => Q .normal ⟨qO ts st, st.slots⟩)
     | false => False)
    | _, _ => False)
   | none => False) := by
   split at h'
   .rename_i R hR
    split at h'
    .split at h'
     .obtain ⟨b, hb, h2⟩ := Option.bind_eq_some_iff.1 h'
      refine ⟨b, hb, ?_⟩;cases b with
      | true =>
       refine ih R.thn _ _ a (rngQ R Q) hv (fun e st' he => ?_) h2;cases e with
       | normal => cases he
       | exit j =>
        simp only [rngQ];simp only at he;cases h2 : Nat.beq j R.b2 with
        | true => rw [h2] at he; cases he
        | false =>
         rw [h2, cond_false] at he;rw [cond_false];cases h1 : Nat.beq j R.b1 with
         | true => rw [h1] at he; exact hQ _ _ he
         | false => rw [h1] at he; exact hQ _ _ he
       | _ => exact hQ _ _ he
      | false => exact hQ _ _ h2
     .cases h'
    .cases h'
   .cases h'
  cases c <;> exact goal
 | unopt r t x ih =>
  intro α c st κ a Q hv hQ h;cases ho : quv st r t with
  | none => cases c <;> simp [exA, ho] at h
  | some x' =>
   have h' : qgu x' (fun y => exA cx x c (st.put (some r) (.one (.pp t y 0))) κ) = some a := by cases c <;> simpa only [exA, ho] using h
   obtain ⟨y, rfl, h2⟩ := Option.bind_eq_some_iff.1 h';have := ih c _ κ a Q hv hQ h2;cases c <;> (simp only [wpA, ho]; exact ⟨y, rfl, this⟩)
 | post x gs ih =>
  intro α c st κ a Q hv hQ h;have h' : exA cx x c st (fun e st' => (match e with | .normal => (match que gs st' with | some st2 => κ .normal st2 | none => none) | e => κ e st')) = some a := by
   cases c <;> exact h
  have := ih c st _ a (fun e st' => match e with | .normal => (match que gs st' with | some st2 => Q .normal st2 | none => False) | e => Q e st') hv (fun e st' he => by
   cases e with
   | normal =>
    simp only at he ⊢
    split at he
    .exact hQ _ _ he
    .cases he
   | _ => exact hQ _ _ he) h'
  cases c <;> exact this
 | loop l fu x ih =>
  intro α c st κ a Q hv hQ h;cases c with
  | loop p =>
   simp only [exA] at h;simp only [wpA]
   split at h
   .rename_i s0 hs0
    simp only [hs0];obtain ⟨μ, hμ⟩ := qBq (fun s k => exA cx x p (l.enc s) fun e st' => (match e with
     | .normal => (match l.parse st' with | some s' => k s' | none => none)
     | e => κ e st')) a
    refine ⟨fun s => ∃ n, qT n (fun s k => exA cx x p (l.enc s) fun e st' => (match e with
     | .normal => (match l.parse st' with | some s' => k s' | none => none)
     | e => κ e st')) s = some a, μ, ⟨_, h⟩, fun s hs => ?_⟩
    obtain ⟨k, h1, h2, h3⟩ := hμ s hs;refine ih p (l.enc s) _ a _ hv ?_ h2;intro e st' he;cases e with
    | normal =>
     simp only at he ⊢
     split at he
     .rename_i s' hs'
      simp only [hs'];exact ⟨⟨k, he⟩, h3 s' he⟩
     .cases he
    | _ => exact hQ _ _ he
   .cases h
  | _ => cases h
 | join all l x ih =>
  intro α c st κ a Q hv hQ h;have key : ∀ (J : l.El -> Prop), wpA cx (Phi P cx) x c st (fun e st' => (match e with | .normal => (match l.parse st' with | some s => J s | none => False) | e => Q e st')) -> (∀ s, J s -> Q .normal (l.enc s)) ->
      wpA cx (Phi P cx) (.join all l x) c st Q := by
   intro J h1 h2;cases c <;> exact ⟨J, h1, h2⟩
  cases all with
  | false =>
   have h' : (exA cx x (α := l.El) c st fun e st' => (match e with | .normal => l.parse st' | _ => none)).bind (fun s => κ .normal (l.enc s)) = some a := by
    cases c <;> exact h
   obtain ⟨s, h1, h2⟩ := Option.bind_eq_some_iff.1 h';refine key (fun s' => s' = s) (ih c st _ s _ hv ?_ h1) (fun s' hs => by subst hs; exact hQ _ _ h2);intro e st' he;cases e with
   | normal => simp only at he ⊢; rw [he]
   | _ => cases he
  | true =>
   have h' : qVb (exA cx x (α := l.El ⊕ α) c st fun e st' => (match e with
       | .normal => (match l.parse st' with | some s => some (.inl s) | none => none)
       | e => (κ e st').map .inr)) (fun s => κ .normal (l.enc s)) = some a := by
    cases c <;> exact h
   unfold qVb at h'
   split at h'
   .rename_i s h1
    refine key (fun s' => s' = s) (ih c st _ _ _ hv ?_ h1) (fun s' hs => by subst hs; exact hQ _ _ h');intro e st' he;cases e with
    | normal =>
     simp only at he ⊢
     split at he
     .rename_i s' hs'
      simp only [Option.some.injEq, Sum.inl.injEq] at he;exact he
     .cases he
    | _ =>
     simp only [Option.map_eq_some_iff] at he;obtain ⟨_, _, he⟩ := he;cases he
   .rename_i b h1
    simp only [Option.some.injEq] at h';subst h';refine key (fun _ => False) (ih c st _ _ _ hv ?_ h1) (fun s' hs => hs.elim);intro e st' he;cases e with
    | normal =>
     simp only at he ⊢
     split at he
     .cases he
     .cases he
    | _ =>
     simp only [Option.map_eq_some_iff, Sum.inr.injEq, exists_eq_right] at he;exact hQ _ _ he
   .cases h'
def endC (cx : Cx) (fn : Func) (rt : VT) (outs : List SS) : Exit -> St -> Option (rt.El × SSs.El outs)
 | .normal, st => go st
 | .ret, st => go st
 | _, _ => none
where
 go (st : St) : Option (rt.El × SSs.El outs) :=
  match qyf cx st fn.results.toList, qKg st (List.range outs.length) with
  | some r, some ss => (match rt.parse r, SSs.parse outs ss with
   | some x, some y => some (x, y)
   | _, _ => none)
  | _, _ => none
def exF (cx : Cx) (fn : Func) (c : Code) (an : An) (args : List VT1) (slots : List SS) (rt : VT) (outs : List SS) (x : VT1s.El args × SSs.El slots) : Option (rt.El × SSs.El outs) :=
 exA cx an c ⟨zipN 0 (VT1s.enc args x.1), zipN 0 (SSs.enc slots x.2)⟩ (endC cx fn rt outs)
end
def VRep (r0 r : V) : Prop := ∀ (β : Nat -> Value) (X : Nat -> Prop) (w : World) (v : Value), RepV β X w r0 v -> RepV β X w r v
def qHy (s0 s : Slot) : Prop := (∀ (β : Nat -> Value) (X : Nat -> Prop) (w : World) (v : Value), RepS β X w s0 v -> RepS β X w s v) /\ (s0.fixd = true -> s.fixd = true)
def qJx (cx : Cx) (fn : Func) (r : V) (ss' : List Slot) (st : St) : Prop :=
 ∃ r0 ss0, qyf cx st fn.results.toList = some r0 /\ qKg st (List.range ss'.length) = some ss0 /\ VRep r0 r /\ ∀ k s', nth ss' k = some s' -> ∃ s0, nth ss0 k = some s0 /\ qHy s0 s'
def qNy (cx : Cx) (fn : Func) (r : V) (ss' : List Slot) : Exit -> St -> Prop
 | .normal, st => qJx cx fn r ss' st
 | .ret, st => qJx cx fn r ss' st
 | _, _ => False
section
variable {P : Program} {cx : Cx} {F : Fm} {st : St} {β : Nat -> Value} {a : Act} {w : World} {o : Oper}
theorem Phi.of_ends (T : TOk P cx) (hmix : P.follows .mixedOrders = true) {f : Nat} {fn : Func} {c : Code} (hf : P.funcs[f]? = some fn) (hname : (fn.name == "runtime.NumGoroutine") = false) (hb : fn.body = some c)
    {an : An} {args : List V} {ss ss' : List Slot} {r : V} (hn : Nat.ble args.length fn.ntmps = true) (hok : an.ok ss.length = true) (hcode : qcg fn.ntmps c = true)
    (h : wpA cx (Phi P cx) an c ⟨zipN 0 args, zipN 0 ss⟩ (qNy cx fn r ss')) : Phi P cx f args ss r ss' := by
 intro X β w vs hpre
 have hlen := hpre.args.length
 have hn' := Nat.le_of_ble_eq_true hn
 refine .inl ⟨?_, ?_⟩
 .have hnm : ¬ fn.name = "runtime.NumGoroutine" := by simpa using hname
  simp [callFunc, hf, hnm, hb]
 let F : Fm := ⟨w, qJd β ss, X, fn.ntmps, qcq ss β⟩
 have hm : ∀ k, ss.length <= k -> F.fix k = none := by
  intro k hk
  show qcq ss β k = none
  unfold qcq;rw [qpe, List.getElem?_eq_none hk]
 let st₀ : St := ⟨zipN 0 args, zipN 0 ss⟩
 have hslot : ∀ k, st₀.slot k = nth ss k := by intro k; show look k (zipN 0 ss) = _; rw [qGm]; simp
 have hXY : XX F st₀ β = YY X β ss := by
  funext b
  apply propext
  simp only [XX, YY, qJd, hslot];exact Iff.rfl
 have hrel : Rel cx F st₀ β { tmps := vs.toArray ++ Array.replicate (fn.ntmps - vs.toArray.size) Go.undef, defers := [] } w := by
  refine ⟨rfl, by simp [F]; omega, ?_, ?_, ?_, ?_, fun b o hb _ => hb, ?_, Nat.le_refl _, hpre.outer, ?_, Same.refl w⟩
  .intro t v ht
   have ht' : nth args t = some v := by
    have : look t (zipN 0 args) = some v := ht;rw [qGm] at this; simpa using this
   obtain ⟨u, hu, hr⟩ := hpre.args.nth ht';rw [hXY];have hlt := (List.getElem?_eq_some_iff.1 hu).1;have : (vs.toArray ++ Array.replicate (fn.ntmps - vs.toArray.size) Go.undef).getD t Go.undef = u := by
    have h1 : t < (vs.toArray ++ Array.replicate (fn.ntmps - vs.toArray.size) Go.undef).size := by simp; omega
    simp only [Array.getD, h1, dite_true];rw [Array.getInternal_eq_getElem];rw [Array.getElem_append_left (by simpa using hlt)];have := (List.getElem?_eq_some_iff.1 hu).2;simpa using this
   rw [this]; exact hr
  .intro k s hk; rw [hXY]; rw [hslot] at hk; exact hpre.slots k s hk
  .intro i j s s' b h1 h2; rw [hslot] at h1 h2; exact hpre.inj i j s s' b h1 h2
  .intro g t x hg; rw [hXY]; exact hpre.glob g t x hg
  .intro k s b hk hbk
   rw [hslot] at hk;exact ⟨.inl ⟨k, s, hk, hbk⟩, hpre.apart b ⟨k, s, hk, hbk⟩⟩
  .intro k v hk
   have hk' : qcq ss β k = some v := hk;unfold qcq at hk'
   split at hk'
   .rename_i s hs
    cases hfx : s.fixd
    .rw [hfx] at hk'; simp at hk'
    .rw [hfx] at hk'
     refine ⟨by simpa using hk', fun s' he => ?_⟩;rw [hslot, hs] at he;simp only [Option.some.injEq] at he; subst he; exact hfx
   .cases hk'
 have hwp := qrv T hmix (F := F) hm an c st₀ _ β _ w hok hcode hrel h
 refine calls_of_wp hf hb (wp_mono hwp ?_)
 have fin : ∀ (st : St) (β' : Nat -> Value) (a : Act) (w' : World), Rel cx F st β' a w' -> qJx cx fn r ss' st ->
     a.defers = [] /\ ∃ v, (results fn a.tmps).run P w' = .ok v w' /\ ∃ v' β', Ending.returned v = .returned v' /\ Ans X β w ss r ss' v' w' β' := by
  intro st β' a w' h hend;obtain ⟨r0, ss0, hr, hs, hvr, hsr⟩ := hend;obtain ⟨v, h1, h2⟩ := qFq T h hr;obtain ⟨_, hsp⟩ := qsi hs;have hst : ∀ k s', nth ss' k = some s' -> ∃ s, st.slot k = some s /\ qHy s s' := by
   intro k s' hk;obtain ⟨s1, g1, g2⟩ := hsp k k (qtw (qQx hk));obtain ⟨s0, e1, e2⟩ := hsr k s' hk;rw [e1] at g2; simp only [Option.some.injEq] at g2; subst g2; exact ⟨_, g1, e2⟩
  have hfr : Fr (XX F st β') w' (YY X β' ss') w' := by
   intro b o hb hx;refine ⟨hb, ?_⟩;rintro (h0 | ⟨k, s, hk, hbk⟩)
   .exact hx (.inl h0)
   .obtain ⟨s0, g1, _⟩ := hst k s hk; exact hx (.inr ⟨k, s0, g1, hbk⟩)
  refine ⟨h.defers, v, h1, v, β', rfl, hvr _ _ _ _ (RepV.mono hfr h2), ?_, ?_, h.frame, ?_, h.sizes, h.same, ?_, ?_⟩
  .intro k s hk; obtain ⟨s0, g1, g2⟩ := hst k s hk; exact g2.1 _ _ _ _ (RepS.mono hfr (fun _ _ _ hb => hb) (h.slots k s0 g1))
  .intro i j s s' b g1 g2; obtain ⟨s0, e1, _⟩ := hst i s g1; obtain ⟨s1, e2, _⟩ := hst j s' g2; exact h.inj i j s0 s1 b e1 e2
  .rintro b ⟨k, s, hk, hbk⟩; obtain ⟨s0, e1, _⟩ := hst k s hk; exact h.owned k s0 b e1 hbk
  .intro k s hk hfx
   exact (h.fix k (β k) (by show qcq ss β k = some (β k); unfold qcq; rw [hk]; simp [hfx])).1
  .intro k s hk hfx s' he
   obtain ⟨s0, g1, g2⟩ := hst k _ he;exact g2.2 ((h.fix k (β k) (by show qcq ss β k = some (β k); unfold qcq; rw [hk]; simp [hfx])).2 s0 g1)
 rintro e a' w' ⟨st, β', hq, h'⟩
 cases e with
 | normal => exact fin st β' a' w' h' hq
 | ret => exact fin st β' a' w' h' hq
 | _ => exact hq.elim
theorem VT.vrep : ∀ {rt : VT} {r0 : V} {x : rt.El}, rt.parse r0 = some x -> VRep r0 (rt.enc x)
 | .v vt, r0, x, h => fun β X w v hv => VT1.rep hv h
 | .tup vts, r0, x, h => by
  intro β X w v hv;simp only [VT.parse] at h
  split at h
  .obtain ⟨us, h1, h2⟩ := hv; exact ⟨us, h1, VT1s.rep h2 h⟩
  .cases h
 | .undef, r0, x, h => by
  intro β X w v hv;simp only [VT.parse] at h
  split at h
  .exact hv
  .cases h
theorem qAv {fn : Func} {rt : VT} {outs : List SS} {e : Exit} {st : St} {r : rt.El × SSs.El outs} (h : endC cx fn rt outs e st = some r) : qNy cx fn (rt.enc r.1) (SSs.enc outs r.2) e st := by
 have key : endC.go cx fn rt outs st = some r -> qJx cx fn (rt.enc r.1) (SSs.enc outs r.2) st := by
  intro h;unfold endC.go at h
  split at h
  .rename_i r0 ss0 h1 h2
   split at h
   .rename_i x y h3 h4
    simp only [Option.some.injEq] at h;subst h;refine ⟨r0, ss0, h1, by rw [SSs.enc_length]; exact h2, VT.vrep h3, fun k s' hk => ?_⟩;obtain ⟨g1, _⟩ := SSs.parse_nth h4;obtain ⟨s0, ss1, z, e1, e2, rfl⟩ := g1 k s' hk;exact ⟨s0, e1, fun β X w v hv => SS.rep hv e2, fun hfx => by rw [SS.parse_fixd e2]; exact hfx⟩
   .cases h
  .cases h
 cases e <;> first | exact key h | cases h
theorem FX.of_ex (T : TOk P cx) (hmix : P.follows .mixedOrders = true) {fn : Func} {c : Code} {rt : VT} {outs : List SS} {fx : FX rt outs} {an : An} {ms : List FM} (hf : P.funcs[fx.g]? = some fn)
    (hname : (fn.name == "runtime.NumGoroutine") = false) (hb : fn.body = some c) (hn : Nat.ble fx.args.length fn.ntmps = true) (hok : an.ok fx.slots.length = true) (hcode : qcg fn.ntmps c = true)
    (hm : ∀ x, fx.m x = exF cx fn c an fx.args fx.slots rt outs x) (hms : an.ms = ms) (hv : allV P cx ms) : fx.Valid P cx := by
 intro x r hr
 rw [hm x] at hr
 have hlen : ∀ (vts : List VT1) (y : VT1s.El vts), (VT1s.enc vts y).length = vts.length := by
  intro vts
  induction vts with
  | nil => intro y; rfl
  | cons vt vts ih => intro y; simp [VT1s.enc, ih]
 refine Phi.of_ends T hmix hf hname hb (by rw [hlen]; exact hn) (by rw [SSs.enc_length]; exact hok) hcode ?_
 exact qTw an c _ _ r _ (An.valid (hms ▸ hv)) (fun e st' h => qAv h) hr
end
end Go.AM
set_option linter.unusedSimpArgs false
set_option linter.unusedVariables false
namespace Go.AM
open Go
theorem Ans.here {X : Nat -> Prop} {β : Nat -> Value} {w : World} {r : V} {v : Value} (h : RepV β (YY X β []) w r v) : Ans X β w [] r [] v w β := by
 refine ⟨h, fun k s hk => by simp [nth] at hk, fun j k s s' b hj => by simp [nth] at hj, fun b o hb _ => hb, ?_, Nat.le_refl _, Same.refl w, fun k s hk => by simp [nth] at hk, fun k s hk => by simp [nth] at hk⟩
 rintro b ⟨k, s, hk, _⟩
 simp [nth] at hk
theorem qui {P : Program} {cx : Cx} {g : Nat} {fn : Func} {e : Array Value -> Sem Value} (hf : P.funcs[g]? = some fn) (hname : (fn.name == "runtime.NumGoroutine") = false) (hb : fn.body.isNone = true)
    (hn : Extern.findNext fn = none) (he : Extern.find fn = some e) (f : List UInt8 -> UInt8 -> Int)
    (hrun : ∀ (s : ByteArray) (c : Int) (w : World), (e #[.string s, .int .u8 c]).run P w = .ok (.int .i64 (f s.data.toList c.toNat.toUInt8)) w) :
    (⟨g, [.one (.ty .str), .one (.ty (.int .u8))], [], fun x => some (f x.1.1 (Int.toNat x.1.2.1).toUInt8, ())⟩ : FX (.v (.one (.ty (.int .i64)))) []).Valid P cx := by
 rintro ⟨⟨s, c, u⟩, u2⟩ r hr
 simp only [Option.some.injEq] at hr
 subst hr
 intro X β w vs hpre
 match vs, hpre.args with
 | [x, y], hargs =>
  obtain ⟨h1, h2, _⟩ := hargs;have h1' : x = .string ⟨s.toArray⟩ := h1;have h2' : y = .int .u8 c := h2;subst h1'; subst h2';refine .inr ⟨.int .i64 (f s c.toNat.toUInt8), w, ?_, _, β, rfl, Ans.here rfl⟩;rw [run_callFunc_extern hf hname hb hn he];have := hrun ⟨s.toArray⟩ c w;simp [this]
end Go.AM
