/- Part C of a maker of conditions for walks, and why it is sound. -/
import Derived.Test.YtkjbhlhebjfklaaDoorAmB
import Derived.Orders
set_option linter.unusedVariables false
set_option linter.unusedSimpArgs false
/- Soundness: structs and rows written out, rows of zeros. -/
set_option linter.unusedSimpArgs false
set_option linter.unusedVariables false
namespace Go.AM
open Go
section
variable {P : Program} {cx : Cx} {F : Fm} {st : St} {β : Nat → Value} {a : Act} {w : World} {o : Oper}
theorem foldl_put (off : Nat) : ∀ (us : List Value) (i : Nat) (l : List Value), off + i + us.length ≤ l.length →
    (us.zipIdx i).foldl (fun cs (p : Value × Nat) => cs.setIfInBounds (off + p.2) p.1) l.toArray = (putAt l (off + i) us).toArray
 | [], i, l, h => by
  simp only [List.zipIdx_nil, List.foldl_nil]
  congr 1
  apply List.ext_getElem?
  intro j
  rw [putAt_get l (off + i) [] (by simpa using h)]
  split
  ·rename_i h1; simp at h1; omega
  ·rfl
 | u :: us, i, l, h => by
  simp only [List.zipIdx_cons, List.foldl_cons]
  rw [show l.toArray.setIfInBounds (off + i) u = (l.set (off + i) u).toArray by simp]
  rw [foldl_put off us (i + 1) (l.set (off + i) u) (by simp at h ⊢; omega)]
  rw [← putAt_cons l (off + i) u us (by simp at h; omega)]
  rfl
theorem fill_step {place : Nat → Option (Nat × Nat)} {l : List Value} {i off n : Nat} {v : Value} {us : List Value} {rest : List (Nat × Value)} (hp : place i = some (off, n)) (hv : v.cells = us.toArray) (hn : us.length = n)
    (hl : off + n ≤ l.length) : Instr.fill place l.toArray ((i, v) :: rest) = Instr.fill place (putAt l off us).toArray rest := by
 have h1 : v.cells.size = n := by rw [hv]; simpa using hn
 have h2 : ¬ (off + v.cells.size > l.toArray.size) := by rw [h1]; simp; omega
 have h3 : (v.cells.zipIdx.foldl (fun cs (c, j) => cs.setIfInBounds (off + j) c) l.toArray) = (putAt l off us).toArray := by
  rw [hv]
  have := foldl_put off us 0 l (by omega)
  simp only [Nat.add_zero] at this
  rw [← this]
  simp [← Array.foldl_toList]
 simp only [Instr.fill, hp, h1]
 rw [if_neg (by simp; simp at h2; omega)]
 exact congrArg (fun c => Instr.fill place c rest) h3
theorem fill_spec {X : Nat → Prop} {pl pl' : Nat → Option (Nat × Nat)} (hpl : ∀ i p, pl' i = some p → pl i = some p) :
    ∀ (ps : List (Nat × V)) (qs : List (Nat × Value)), All2 (fun p q => p.1 = q.1 ∧ RepV β X w p.2 q.2) ps qs →
     ∀ {cs cs' : List C} {l : List Value}, All2 (RepC β X w) cs l → fillC pl' cs ps = some cs' → ∃ l', Instr.fill pl l.toArray qs = some l'.toArray ∧ All2 (RepC β X w) cs' l'
 | [], [], _, cs, cs', l, h, hf => by simp [fillC] at hf; subst hf; exact ⟨l, rfl, h⟩
 | (i, v) :: ps, (j, u) :: qs, ⟨⟨h1, h2⟩, h3⟩, cs, cs', l, h, hf => by
  simp only at h1 h2
  subst h1
  simp only [fillC] at hf
  split at hf
  ·cases hf
  ·rename_i off n hp
   have step : ∀ (vs : List C), v.cells? = some vs → len? vs n = true → len? (cut cs off n) n = true → n ≠ 0 → fillC pl' (putAt cs off vs) ps = some cs' →
       ∃ l', Instr.fill pl l.toArray ((i, u) :: qs) = some l'.toArray ∧ All2 (RepC β X w) cs' l' := by
    intro vs hvs hl1 hl2 hn0 hf
    obtain ⟨us, hus, hall⟩ := cells?_spec h2 hvs
    have hn : us.length = n := by rw [← hall.length]; exact len?_eq hl1
    have hle : off + n ≤ l.length := by
     have := len?_eq hl2
     simp only [cut, List.length_take, List.length_drop] at this
     rw [h.length] at this; omega
    rw [fill_step (hpl _ _ hp) hus hn hle]
    exact fill_spec hpl ps qs h3 (h.putAt hall) hf
   split at hf
   ·rename_i c
    cases hb : Nat.beq n 1
    ·rw [hb] at hf; simp at hf
    ·have hn1 := (beq_iff _ _).1 hb
     subst hn1
     cases hc : len? (cut cs off 1) 1
     ·rw [hc] at hf; simp at hf
     ·rw [hc] at hf; simp at hf
      exact step [c] rfl rfl hc (by simp) hf
   ·rename_i vs
    cases h0 : Nat.ble 1 n
    ·rw [h0] at hf; simp at hf
    ·cases hb : len? vs n
     ·rw [h0, hb] at hf; simp at hf
     ·cases hc : len? (cut cs off n) n
      ·rw [h0, hb, hc] at hf; simp at hf
      ·rw [h0, hb, hc] at hf; simp at hf
       exact step vs rfl hb hc (by have := Nat.le_of_ble_eq_true h0; omega) hf
   ·cases hf
 | [], _ :: _, h, _, _, _, _, _ => h.elim
 | _ :: _, [], h, _, _, _, _, _ => h.elim
theorem parts_rep (h : Rel cx F st β a w) (parts : Array (Nat × Operand)) :
    All2 (fun (p : Nat × V) (q : Nat × Value) => p.1 = q.1 ∧ RepV β (XX F st β) w p.2 q.2) (parts.toList.map fun p => (p.1, st.eval cx p.2)) ((parts.map fun p => (p.1, a.eval p.2)).toList) := by
 rw [Array.toList_map]
 generalize parts.toList = l
 induction l with
 | nil => exact trivial
 | cons p l ih => exact ⟨⟨rfl, h.eval p.2⟩, ih⟩
theorem places_spec (T : TOk P cx) : ∀ (fs : List (Nat × Nat)) (gs : List Field), sameF fs gs = true → (∀ p ∈ fs, (cx.T p.2).d.known = true) →
    ∃ places, gs.mapM (fun f => (P.info? f.type).map fun i => (f.offset, i.size)) = some places ∧ ∀ (i : Nat) q, ((nth fs i).map fun p => (p.1, (cx.T p.2).size)) = some q → places[i]? = some q
 | [], [], _, _ => ⟨[], rfl, fun i q h => by simp [nth] at h⟩
 | p :: fs, g :: gs, hs, hk => by
  simp [sameF, beq_iff] at hs
  obtain ⟨places, h1, h2⟩ := places_spec T fs gs hs.2.2 (fun q hq => hk q (List.mem_cons_of_mem _ hq))
  obtain ⟨ti, z, hi, hsz, _⟩ := (T p.2 (hk p (List.mem_cons_self ..))).info
  rw [hs.2.1] at hi
  refine ⟨(g.offset, ti.size) :: places, by simp [List.mapM_cons, hi, h1], fun i q hq => ?_⟩
  cases i with
  | zero =>
   simp [nth] at hq
   simp [← hq, hs.1, hsz]
  | succ i => simp only [nth] at hq; simpa using h2 i q hq
 | [], _ :: _, hs, _ => by simp [sameF] at hs
 | _ :: _, [], hs, _ => by simp [sameF] at hs
theorem sound_build (T : TOk P cx) (h : Rel cx F st β a w) {t : Nat} {parts : Array (Nat × Operand)} {an : Ann} (ho : o.op = .build t parts) :
    Sound P cx F a w (execOp a.eval o) (evI cx (.build t parts) an st) := by
 simp only [evI]
 have hps := parts_rep (cx := cx) h parts
 have fin : ∀ {cells : List Value}, P.built t (parts.map fun p => (p.1, a.eval p.2)).toList = some cells.toArray → (execOp a.eval o).run P w = .ok (.value (.agg cells.toArray)) w := by
  intro cells hc
  have := run_build (P := P) w t (parts.map fun p => (p.1, a.eval p.2)) cells.toArray hc
  simp only [execOp, ho, Sem.run_bind]
  rw [this]; rfl
 split
 ·rename_i fs hd
  obtain ⟨ti, z, hi, hs, hb, hz, hza, hzs, _⟩ := (T t (by rw [hd]; rfl)).info
  obtain ⟨gs, hu, hg⟩ := und_struct T hd
  obtain ⟨places, hp1, hp2⟩ := places_spec T fs gs.toList hg ((T t (by rw [hd]; rfl)).struct fs hd)
  split
  ·rename_i cs hcs
   obtain ⟨l', hl1, hl2⟩ := fill_spec (pl := (places.toArray[·]?)) (fun i p hp => by simpa using hp2 i p hp) _ _ hps (hza.mono fun _ _ hc => zeroOk_rep (β := β) (X := XX F st β) (w := w) hc) hcs
   refine Sound.ok h (fin (cells := l') ?_) ⟨l', rfl, hl2⟩
   simp only [Program.built, hi, hu, hz, hp1]
   simpa using hl1
  ·exact Sound.fail
 ·rename_i n e hd
  obtain ⟨ti, z, hi, hs, hb, hz, hza, hzs, _⟩ := (T t (by rw [hd]; rfl)).info
  have hke := (T t (by rw [hd]; rfl)).array n e hd
  obtain ⟨te, ze, hie, hse, _⟩ := (T e hke).info
  split
  ·rename_i cs hcs
   obtain ⟨l', hl1, hl2⟩ := fill_spec (pl := fun i => some (i * te.size, te.size)) (fun i p hp => by rw [hse]; exact hp) _ _ hps (hza.mono fun _ _ hc => zeroOk_rep (β := β) (X := XX F st β) (w := w) hc) hcs
   refine Sound.ok h (fin (cells := l') ?_) ⟨l', rfl, hl2⟩
   simp only [Program.built, hi, und_array T hd, hz, hie]
   simpa using hl1
  ·exact Sound.fail
 ·exact Sound.fail
/-- A row of zeros, written out. -/
theorem zeros_flat (z : Array Value) (s : Nat) (hs : z.size = s) (hp : 0 < s) (n : Nat) :
    ((Array.range (n * s)).map (z[· % z.size]!)) = (List.replicate n z.toList).flatten.toArray := by
 apply Array.ext_getElem?
 intro k
 simp only [Array.getElem?_map, List.getElem?_toArray]
 by_cases hk : k < n * s
 ·have h1 : (Array.range (n * s))[k]? = some k := by simp [hk]
  rw [h1]
  have hq : k / s < n := Nat.div_lt_of_lt_mul (by rw [Nat.mul_comm]; exact hk)
  have hr : k % s < s := Nat.mod_lt _ hp
  have := flatten_get (n := s) (uss := List.replicate n z.toList) (by intro us hus; rw [(List.mem_replicate.1 hus).2]; simpa using hs) (i := k / s) (j := k % s) (us := z.toList) (by simp [hq]) hr
  rw [show k / s * s + k % s = k by rw [Nat.mul_comm]; exact Nat.div_add_mod k s] at this
  rw [this, hs]
  simp [getElem!_pos, hs, hr]
 ·have h1 : (Array.range (n * s))[k]? = none := by simp; omega
  rw [h1]
  have hl : (List.replicate n z.toList).flatten.length = n * s := by
   rw [flatten_len (n := s) (by intro us hus; rw [(List.mem_replicate.1 hus).2]; simpa using hs)]; simp
  rw [List.getElem?_eq_none (by rw [hl]; omega)]; rfl
theorem repC_rep {X : Nat → Prop} {zs : List C} {z : List Value} (h : All2 (RepC β X w) zs z) : ∀ n, All2 (RepC β X w) (repC zs n) (List.replicate n z).flatten
 | 0 => trivial
 | n + 1 => by simp only [repC, List.replicate_succ, List.flatten_cons]; exact h.append (repC_rep h n)
theorem sound_buildSlice (T : TOk P cx) (h : Rel cx F st β a w) {t n : Nat} {parts : Array (Nat × Operand)} {an : Ann} (hA : AnnFix F an) (ho : o.op = .buildSlice t n parts) :
    Sound P cx F a w (execOp a.eval o) (evI cx (.buildSlice t n parts) an st) := by
 simp only [evI]
 have hps := parts_rep (cx := cx) h parts
 split
 ·rename_i e k hd
  have hke := (T t (by rw [hd]; rfl)).slice e hd
  obtain ⟨te, z, hi, hs, hb, hz, hza, hzs, _⟩ := (T e hke).info
  split
  ·rename_i ty hty
   obtain ⟨hts, htp, _⟩ := (T e hke).ty ty hty
   split
   ·rename_i cs hcs
    split
    ·rename_i xs hxs
     cases hle : Nat.ble (n * (cx.T e).size) (2 ^ 24)
     ·exact Sound.fail
     ·intro _
      have hle' := Nat.le_of_ble_eq_true hle
      have hzrep := hza.mono fun _ _ hc => zeroOk_rep (β := β) (X := XX F st β) (w := w) hc
      obtain ⟨l', hl1, hl2⟩ := fill_spec (pl := fun i => some (i * te.size, te.size)) (fun i p hp => by rw [hs]; exact hp) _ _ hps (repC_rep hzrep n) hcs
      obtain ⟨uss, rfl, hu, hn⟩ := parseN_rep hl2 hxs
      have hcells : (if n * te.size = 0 then (#[] : Array Value) else z.cells) = (if n * te.size = 0 then #[] else z.cells) := rfl
      have hrun : (execOp a.eval o).run P w = .ok (.value (.slice (some ⟨w.heap.size, 0, none⟩) n n)) (w.alloc (.cells uss.flatten.toArray e)) := by
       have hnot : ¬ n * te.size > 2 ^ 24 := by rw [hs]; omega
       have hl1' : Instr.fill (fun i => some (i * te.size, te.size)) (List.replicate n z.cells.toList).flatten.toArray (parts.map fun p => (p.1, a.eval p.2)).toList = some uss.flatten.toArray := hl1
       by_cases h0 : n = 0
       ·subst h0
        simp only [List.replicate_zero, List.flatten_nil] at hl1'
        simp only [execOp, ho, Instr.buildSlice, Sem.run_bind, run_underlying (und_slice T hd), Result.andThen_ok, sizeOf, typeInfo, run_program, hi, Sem.run_pure, Nat.zero_mul, if_true, hnot, if_false, Nat.not_lt_zero, gt_iff_lt]
        simp only [show (Array.range 0).map (fun x => (#[] : Array Value)[x % (#[] : Array Value).size]!) = #[] from by simp]
        rw [hl1']
        simp [newRow]
       ·have hne : ¬ n * te.size = 0 := by
         have : 0 < te.size := by rw [hs]; exact htp
         exact Nat.mul_ne_zero h0 (by omega)
        have hzf := zeros_flat z.cells te.size (by rw [hs]; exact hzs) (by rw [hs]; exact htp) n
        simp only [execOp, ho, Instr.buildSlice, Sem.run_bind, run_underlying (und_slice T hd), Result.andThen_ok, sizeOf, typeInfo, zeroValue, run_program, hi, hz, Sem.run_pure, hne, hnot, if_false]
        rw [hzf, hl1']
        simp [newRow]
      have hlen := uss_len hu
      obtain ⟨hrel, hfr⟩ := h.push k (.lst false ty xs) (.slice (some ⟨w.heap.size, 0, none⟩) n n) (w.alloc (.cells uss.flatten.toArray e)) _ hA ⟨rfl, rfl, rfl⟩ rfl (fun b hb => by
          cases n <;> simp [blk] at hb; exact hb.symm) (fun hfr => by
       by_cases h0 : n = 0
       ·subst h0
        have : xs = [] := List.eq_nil_of_length_eq_zero hn
        subst this
        exact .inl ⟨rfl, _, rfl⟩
       ·have := fresh_row (fx := false) (w' := w.alloc (.cells uss.flatten.toArray e)) (β' := upd β k (.slice (some ⟨w.heap.size, 0, none⟩) n n)) (e := ty) (zs := xs) (uss := uss) (b := w.heap.size) (cap := n) (el := e)
         (heap_push_new (w := w) rfl) (hu.mono fun _ _ => Rep.mono hfr ty) (fun k u hk => by simpa using hk) (by omega) (by omega) (by simp [hlen, hn])
        rw [hn] at this; exact this)
      exact ⟨_, _, _, .inl hrun, hrel, by simp [upd], _, _, _, rfl⟩
    ·exact Sound.fail
   ·exact Sound.fail
  ·exact Sound.fail
 ·rename_i e k hd
  have hke := (T t (by rw [hd]; rfl)).slice e hd
  obtain ⟨te, z, hi, hs, hb, hz, hza, hzs, _⟩ := (T e hke).info
  split
  ·rename_i cs hcs
   cases hle : Nat.ble (n * (cx.T e).size) (2 ^ 24) && (Nat.ble 1 (cx.T e).size && Nat.ble 1 n)
   ·exact Sound.fail
   ·intro _
    simp only [Bool.and_eq_true] at hle
    obtain ⟨hle1, hle2, hle3⟩ := hle
    have hle' := Nat.le_of_ble_eq_true hle1
    have htp := Nat.le_of_ble_eq_true hle2
    have hn1 := Nat.le_of_ble_eq_true hle3
    have hzrep := hza.mono fun _ _ hc => zeroOk_rep (β := β) (X := XX F st β) (w := w) hc
    obtain ⟨l', hl1, hl2⟩ := fill_spec (pl := fun i => some (i * te.size, te.size)) (fun i p hp => by rw [hs]; exact hp) _ _ hps (repC_rep hzrep n) hcs
    have hrun : (execOp a.eval o).run P w = .ok (.value (.slice (some ⟨w.heap.size, 0, none⟩) n n)) (w.alloc (.cells l'.toArray e)) := by
     have hnot : ¬ n * te.size > 2 ^ 24 := by rw [hs]; omega
     have hl1' : Instr.fill (fun i => some (i * te.size, te.size)) (List.replicate n z.cells.toList).flatten.toArray (parts.map fun p => (p.1, a.eval p.2)).toList = some l'.toArray := hl1
     have hne : ¬ n * te.size = 0 := Nat.mul_ne_zero (by omega) (by rw [hs]; omega)
     have hzf := zeros_flat z.cells te.size (by rw [hs]; exact hzs) (by rw [hs]; exact htp) n
     simp only [execOp, ho, Instr.buildSlice, Sem.run_bind, run_underlying (und_slice T hd), Result.andThen_ok, sizeOf, typeInfo, zeroValue, run_program, hi, hz, Sem.run_pure, hne, hnot, if_false]
     rw [hzf, hl1']
     simp [newRow]
    obtain ⟨hrel, hfr⟩ := h.push k (.box (cs.map (C.ren (notKey k)))) (.pointer (some ⟨w.heap.size, 0, none⟩)) (w.alloc (.cells l'.toArray e)) _ hA ⟨rfl, rfl, rfl⟩ rfl (fun b hb => by simpa [blk] using hb.symm) (fun hfr => by
     refine ⟨w.heap.size, l', e, (0, 0), rfl, ?_, fun j _ hh => by simp at hh, hl2.map_left fun c v hc => RepC.ren (β' := upd β k (.pointer (some ⟨w.heap.size, 0, none⟩))) hfr notKey_spec hc⟩
     rw [heap_push_new (w' := w.alloc (.cells l'.toArray e)) rfl])
    exact ⟨_, _, _, .inl hrun, hrel, ⟨w.heap.size, _, n, by simp [boxAt, upd], rfl, Nat.le_refl _, fun _ => rfl⟩⟩
  ·exact Sound.fail
 ·rename_i e hd
  have hke := (T t (by rw [hd]; rfl)).slice e hd
  obtain ⟨te, z, hi, hs, hb, hz, hza, hzs, _⟩ := (T e hke).info
  split
  ·rename_i hp0
   intro _
   have hpz : (parts.map fun p => (p.1, a.eval p.2)).toList = [] := by
    rw [Array.toList_map]
    rw [hp0]; rfl
   have hrun : (execOp a.eval o).run P w = .ok (.value (.slice (some ⟨w.heap.size, 0, none⟩) 0 0)) (w.alloc (.cells #[] e)) := by
    simp only [execOp, ho, Instr.buildSlice, Sem.run_bind, run_underlying (und_slice T hd), Result.andThen_ok, sizeOf, typeInfo, run_program, hi, Sem.run_pure, Nat.zero_mul, if_true, if_false, Nat.not_lt_zero, gt_iff_lt]
    simp only [show (Array.range 0).map (fun x => (#[] : Array Value)[x % (#[] : Array Value).size]!) = #[] from by simp]
    rw [hpz]
    simp [newRow, Instr.fill]
   exact ⟨_, β, _, .inl hrun, h.grow (.cells #[] e), ⟨_, rfl⟩⟩
  ·exact Sound.fail
 ·rename_i e hd
  have hke := (T t (by rw [hd]; rfl)).slice e hd
  obtain ⟨te, z, hi, hs, hb, hz, hza, hzs, _⟩ := (T e hke).info
  split
  ·rename_i ty hty
   obtain ⟨hts, htp, _⟩ := (T e hke).ty ty hty
   split
   ·rename_i cs hcs
    split
    ·rename_i xs hxs
     cases hle : Nat.ble (n * (cx.T e).size) (2 ^ 24)
     ·exact Sound.fail
     ·intro _
      have hle' := Nat.le_of_ble_eq_true hle
      have hzrep := hza.mono fun _ _ hc => zeroOk_rep (β := β) (X := XX F st β) (w := w) hc
      obtain ⟨l', hl1, hl2⟩ := fill_spec (pl := fun i => some (i * te.size, te.size)) (fun i p hp => by rw [hs]; exact hp) _ _ hps (repC_rep hzrep n) hcs
      obtain ⟨uss, rfl, hu, hn⟩ := parseN_rep hl2 hxs
      have hcells : (if n * te.size = 0 then (#[] : Array Value) else z.cells) = (if n * te.size = 0 then #[] else z.cells) := rfl
      have hrun : (execOp a.eval o).run P w = .ok (.value (.slice (some ⟨w.heap.size, 0, none⟩) n n)) (w.alloc (.cells uss.flatten.toArray e)) := by
       have hnot : ¬ n * te.size > 2 ^ 24 := by rw [hs]; omega
       have hl1' : Instr.fill (fun i => some (i * te.size, te.size)) (List.replicate n z.cells.toList).flatten.toArray (parts.map fun p => (p.1, a.eval p.2)).toList = some uss.flatten.toArray := hl1
       by_cases h0 : n = 0
       ·subst h0
        simp only [List.replicate_zero, List.flatten_nil] at hl1'
        simp only [execOp, ho, Instr.buildSlice, Sem.run_bind, run_underlying (und_slice T hd), Result.andThen_ok, sizeOf, typeInfo, run_program, hi, Sem.run_pure, Nat.zero_mul, if_true, hnot, if_false, Nat.not_lt_zero, gt_iff_lt]
        simp only [show (Array.range 0).map (fun x => (#[] : Array Value)[x % (#[] : Array Value).size]!) = #[] from by simp]
        rw [hl1']
        simp [newRow]
       ·have hne : ¬ n * te.size = 0 := by
         have : 0 < te.size := by rw [hs]; exact htp
         exact Nat.mul_ne_zero h0 (by omega)
        have hzf := zeros_flat z.cells te.size (by rw [hs]; exact hzs) (by rw [hs]; exact htp) n
        simp only [execOp, ho, Instr.buildSlice, Sem.run_bind, run_underlying (und_slice T hd), Result.andThen_ok, sizeOf, typeInfo, zeroValue, run_program, hi, hz, Sem.run_pure, hne, hnot, if_false]
        rw [hzf, hl1']
        simp [newRow]
      have hlen := uss_len hu
      have hgrow := h.grow (.cells uss.flatten.toArray e)
      have hltX : ¬ XX F st β w.heap.size := by
       rintro (hx | ⟨k, s, hk, hb⟩)
       ·exact absurd (Nat.lt_of_lt_of_le (h.outer _ hx) h.sizes) (Nat.lt_irrefl _)
       ·obtain ⟨o, ho⟩ := (h.slots k s hk).lt hb
        exact absurd (lt_of_heap ho) (Nat.lt_irrefl _)
      have hfr : Fr (XX F st β) w (XX F st β) (w.alloc (.cells uss.flatten.toArray e)) := fun b o hb hx => ⟨grow_old hb, hx⟩
      refine ⟨_, β, _, .inl hrun, hgrow, ?_⟩
      refine ⟨some ⟨w.heap.size, 0, none⟩, n, by rw [hn], by omega, .inr ⟨w.heap.size, 0, rfl, hltX, _, _, _, heap_push_new (w := w) rfl, fun q y hq => ?_⟩⟩
      obtain ⟨us, g1, g2⟩ := uss_row (vals := uss.flatten.toArray) hu (fun k u hk => by simpa using hk) q y hq
      refine ⟨us, Rep.mono hfr ty g1, fun j u hj => ?_⟩
      rw [Nat.zero_add]; exact g2 j u hj
    ·exact Sound.fail
   ·exact Sound.fail
  ·exact Sound.fail
 ·exact Sound.fail
theorem All2.replicate {α β : Type} {R : α → β → Prop} {x : α} {y : β} (h : R x y) : ∀ n, All2 R (List.replicate n x) (List.replicate n y)
 | 0 => trivial
 | n + 1 => ⟨h, All2.replicate h n⟩
theorem wrap_small {n : Int} (h0 : 0 ≤ n) (h1 : n < 2 ^ 62) : IntKind.i64.wrap n = n := by
 have e : n % (2 ^ IntKind.i64.bits : Int) = n := Int.emod_eq_of_lt h0 (by show n < 2 ^ 64; omega)
 have h4 : ¬ (2 ^ (IntKind.i64.bits - 1) : Int) ≤ n := by show ¬ (2 ^ 63 : Int) ≤ n; omega
 simp only [IntKind.wrap, e]
 simp [h4]
theorem sound_makeSlice (T : TOk P cx) (h : Rel cx F st β a w) {t : Nat} {l c : Operand} {an : Ann} (hA : AnnFix F an) (ho : o.op = .makeSlice t l c) :
    Sound P cx F a w (execOp a.eval o) (evI cx (.makeSlice t l c) an st) := by
 simp only [evI]
 have hl := h.eval l
 have hc := h.eval c
 split
 ·rename_i e k n m hd hln hcm
  rw [hln] at hl; rw [hcm] at hc
  have hl' : a.eval l = .int .i64 n := hl
  have hc' : a.eval c = .int .i64 m := hc
  have hke := (T t (by rw [hd]; rfl)).slice e hd
  obtain ⟨te, z, hi, hs, hb, hz, hza, hzs, hzt⟩ := (T e hke).info
  split
  ·rename_i ty hty
   obtain ⟨hts, htp, hbp⟩ := (T e hke).ty ty hty
   cases hk : (cx.T e).zt
   ·exact Sound.fail
   ·rintro ⟨h0, h1, h2, h3⟩
    have hw1 : IntKind.i64.wrap n = n := wrap_small h0 (by omega)
    have hw2 : IntKind.i64.wrap m = m := wrap_small (by omega) (by omega)
    have hsz : te.size = ty.size := by rw [hs, hts]
    have hrun : (execOp a.eval o).run P w = .ok (.value (.slice (some ⟨w.heap.size, 0, none⟩) n.toNat m.toNat)) (w.alloc (.cells (List.replicate m.toNat z.cells.toList).flatten.toArray e)) := by
     have hok : ¬ ((decide (m < 0) || decide ((te.bytes : Int) * m > 2 ^ 48) || decide (n < 0) || decide (n > m)) = true) := by
      rw [hb]
      simp; omega
     have hrow : (if m.toNat * te.size = 0 then (pure #[] : Sem (Array Value)) else do pure (← zeroValue e).cells).run P w = .ok (if m.toNat * te.size = 0 then #[] else z.cells) w := by
      split <;> simp [zeroValue, typeInfo, hi, hz]
     have hcells : (Array.range (m.toNat * te.size)).map (fun x => (if m.toNat * te.size = 0 then (#[] : Array Value) else z.cells)[x % (if m.toNat * te.size = 0 then (#[] : Array Value) else z.cells).size]!) = (List.replicate m.toNat z.cells.toList).flatten.toArray := by
      by_cases hm0 : m.toNat = 0
      ·simp [hm0]
      ·have hne : ¬ m.toNat * te.size = 0 := Nat.mul_ne_zero hm0 (by rw [hs]; omega)
       simp only [hne, if_false]
       exact zeros_flat z.cells te.size (by rw [hs]; exact hzs) (by rw [hs]; exact htp) m.toNat
     simp only [execOp, ho, Instr.makeSlice, Sem.run_bind, run_underlying (und_slice T hd), Result.andThen_ok, hl', hc', asInt, asIntOf, Sem.run_pure, typeInfo, run_program, hi, hw1, hw2, sizeOf, run_askRoom, Sem.run_ite]
     rw [if_neg hok]
     simp only [Sem.run_bind, hrow, Result.andThen_ok, newRow, run_newObj, World.alloc_eq, Sem.run_pure, hcells, run_askRoom, run_program, hi, typeInfo]
     by_cases hz0 : m.toNat * te.size = 0
     ·simp only [hz0, if_true] at hcells ⊢
      rw [hcells]; rfl
     ·simp only [hz0, if_false] at hcells ⊢
      have hzv : (zeroValue e).run P w = .ok z w := by simp [zeroValue, typeInfo, hi, hz]
      rw [hzv]
      simp only [Result.andThen_ok]
      rw [hcells]
    have hzrep := hzt hk ty hty
    obtain ⟨hrel, hfr⟩ := h.push k (.lst false ty (List.replicate n.toNat ty.dflt)) (.slice (some ⟨w.heap.size, 0, none⟩) n.toNat m.toNat) (w.alloc (.cells (List.replicate m.toNat z.cells.toList).flatten.toArray e)) _ hA ⟨rfl, rfl, rfl⟩ rfl (fun b hb => by
        cases hmm : m.toNat <;> rw [hmm] at hb <;> simp [blk] at hb; exact hb.symm) (fun hfr => by
     by_cases hm0 : m.toNat = 0
     ·have hn0 : n.toNat = 0 := by omega
      rw [hm0, hn0]
      exact .inl ⟨rfl, _, rfl⟩
     ·have hall : All2 (Rep (XX F (st.new k (.lst false ty (List.replicate n.toNat ty.dflt))) (upd β k (.slice (some ⟨w.heap.size, 0, none⟩) n.toNat m.toNat))) (w.alloc (.cells (List.replicate m.toNat z.cells.toList).flatten.toArray e)) ty)
          (List.replicate n.toNat ty.dflt) (List.replicate n.toNat z.cells.toList) := by
       exact All2.replicate (hzrep _ _) _
      have := fresh_row (fx := false) (β' := upd β k (.slice (some ⟨w.heap.size, 0, none⟩) n.toNat m.toNat)) (b := w.heap.size) (cap := m.toNat) (el := e)
       (heap_push_new (w := w) (w' := w.alloc (.cells (List.replicate m.toNat z.cells.toList).flatten.toArray e)) rfl) hall (fun k u hk => ?_) (by simp; omega) (by omega) (by
        simp only [List.size_toArray]
        rw [flatten_len (n := ty.size) (by intro us hus; rw [(List.mem_replicate.1 hus).2, Array.length_toList, hzs, hts])]
        simp)
      ·simpa using this
      ·have hsplit : List.replicate m.toNat z.cells.toList = List.replicate n.toNat z.cells.toList ++ List.replicate (m.toNat - n.toNat) z.cells.toList := by
        rw [List.replicate_append_replicate]; congr 1; omega
       rw [List.getElem?_toArray, hsplit, List.flatten_append, List.getElem?_append_left (List.getElem?_eq_some_iff.1 hk).1]
       exact hk)
    exact ⟨_, _, _, .inl hrun, hrel, by simp [upd], _, _, _, rfl⟩
  ·exact Sound.fail
 ·exact Sound.fail
theorem run_clear {t el : Nat} {z : Value} (ht : P.underlying t = some (.slice el)) (hz : ∀ w0 : World, (zeroValue el).run P w0 = .ok z w0) (ad : Addr) (n c : Nat) (hn : n ≠ 0) {w w' : World}
    (hst : (storeCells ad (Builtin.zeroCells z.cells n).toList 0).run P w = .ok () w') (arr : Array Nat) (h0 : arr[0]? = some t) (ty : Nat) : (Builtin.clear_ arr ty #[.slice (some ad) n c]).run P w = .ok (.tuple #[]) w' := by
 obtain ⟨m, rfl⟩ : ∃ m, n = m + 1 := ⟨n - 1, by omega⟩
 simp [Builtin.clear_, h0, run_underlying ht, hz, hst]
theorem sound_clear (T : TOk P cx) (h : Rel cx F st β a w) {t : Nat} {x : V} {vx : Value} {an : Ann} {ty : Nat} {arr : Array Nat} (harr : arr.toList = [t])
    (hx : RepV β (XX F st β) w x vx) (hs : (evB cx .clear [t] [x] an st).side.holds) :
    ∃ v β' w', (Builtin.clear_ arr ty #[vx]).run P w = .ok v w' ∧ Rel cx F (evB cx .clear [t] [x] an st).st β' a w' ∧
     RepV β' (XX F (evB cx .clear [t] [x] an st).st β') w' (evB cx .clear [t] [x] an st).val v := by
 have h0 : arr[0]? = some t := by
  have : arr = [t].toArray := by rw [← harr]
  rw [this]; simp
 simp only [evB] at hs ⊢
 split at hs
 ·rename_i el k e i hd
  split at hs
  ·rename_i fx e' xs ty' hsl hty hzt
   split at hs
   ·rename_i he hte
    have he := of_decide_eq_true he
    have hte := of_decide_eq_true hte
    subst he
    subst hte
    obtain ⟨ad, len, cap, a', c', hb, hil, rfl, hpos⟩ := hx
    have hke := (T t (by rw [hd]; rfl)).slice el hd
    obtain ⟨te, z, hi, hsz, hby, hz, hza, hzs, hzt'⟩ := (T el hke).info
    obtain ⟨hts, htp, hbp⟩ := (T el hke).ty ty' hty
    have hzv : ∀ w0 : World, (zeroValue el).run P w0 = .ok z w0 := fun w0 => by simp [zeroValue, typeInfo, hi, hz]
    have hlen : len = xs.length := by
     rcases h.slots _ _ hsl with ⟨rfl, ad', hbk⟩ | ⟨b, cap', vals, el', fr, hbk, _⟩
     ·rw [hb] at hbk; simp at hbk; simpa using hbk.2.1
     ·rw [hb] at hbk; simp at hbk; exact hbk.2.1
    subst hlen
    by_cases hlt : i < xs.length
    ·obtain ⟨b, rfl, rfl⟩ := hpos hlt
     rcases h.slots _ _ hsl with ⟨rfl, _⟩ | ⟨b', cap', vals, el', fr, hbk, hb2, hth, hlc, hcap, hrow⟩
     ·simp at hlt
     ·rw [hb] at hbk
      simp only [Value.slice.injEq, Option.some.injEq, Addr.mk.injEq, and_true, true_and] at hbk
      obtain ⟨hbb, rfl⟩ := hbk
      subst hbb
      obtain ⟨m, hm⟩ : ∃ m, xs.length - i = m + 1 := ⟨xs.length - i - 1, by omega⟩
      have hzf : (Builtin.zeroCells z.cells (xs.length - i)).toList = (List.replicate (xs.length - i) z.cells.toList).flatten := by
       have := zeros_flat z.cells ty'.size (by rw [hzs, hts]) (by rw [hts]; exact htp) (xs.length - i)
       have hz2 : z.cells.size = ty'.size := by rw [hzs, hts]
       unfold Builtin.zeroCells
       rw [hz2] at this ⊢
       rw [this]
      have hzrep := hzt' hzt ty' hty
      have hzall : All2 (Rep (XX F st β) w ty') (List.replicate (xs.length - i) ty'.dflt) (List.replicate (xs.length - i) z.cells.toList) := All2.replicate (hzrep _ _) _
      have hzl := uss_len hzall
      have hzo := uss_one hzall
      rw [List.length_replicate] at hzl
      have hb3 : w.heap[b]? = some (.cells vals.toList.toArray el' fr) := by simpa using hb2
      have hbound : xs.length * ty'.size ≤ vals.size := Nat.le_trans (Nat.mul_le_mul_right _ hlc) hcap
      have hmul : i * ty'.size + (xs.length - i) * ty'.size = xs.length * ty'.size := by rw [← Nat.add_mul]; congr 1; omega
      have hle : i * ty'.size + (List.replicate (xs.length - i) z.cells.toList).flatten.length ≤ vals.toList.length := by rw [hzl]; simp; omega
      have hst := run_stores (P := P) hb3 hle (by simpa using hth.1) hzo
      have hrun : (Builtin.clear_ arr ty #[.slice (some ⟨b, i * ty'.size, none⟩) (xs.length - i) c']).run P w = .ok (.tuple #[]) (w.setCells b (i * ty'.size) (List.replicate (xs.length - i) z.cells.toList).flatten) := by
       rw [← hzf] at hst ⊢
       exact run_clear (und_slice T hd) hzv _ _ _ (by omega) hst arr h0 ty
      refine ⟨_, β, _, hrun, ?_, ⟨[], rfl, trivial⟩⟩
      refine h.set k (.lst fx ty' (xs.take i ++ List.replicate (xs.length - i) ty'.dflt)) (.lst fx ty' xs) _ hsl (fun b1 o1 hb1 hne => ?_) (by rw [size_setCells]; exact Nat.le_refl _) (same_setCells _ _ _ _) (fun hh => hh) (fun hfr => ?_)
      ·rw [heap_setCells_ne b (by rintro rfl; exact hne (by rw [hb]; rfl))]; exact hb1
      ·have hh := heap_setCells b (List.replicate (xs.length - i) z.cells.toList).flatten (i * ty'.size) w hb3 hle
       have hln : (xs.take i ++ List.replicate (xs.length - i) ty'.dflt).length = xs.length := by simp; omega
       refine .inr ⟨b, cap', _, el', fr, by rw [hb, hln], hh, ?_, by rw [hln]; exact hlc, by simpa [putAt_length _ _ _ hle] using hcap, ?_⟩
       ·exact ⟨fun j hj => hth.1 j (by simpa [putAt_length _ _ _ hle] using hj), hth.2⟩
       ·obtain ⟨ous, ho, hoc⟩ := Row.uss (xs.take i) 0 (fun j x hj => by
         rw [List.getElem?_take] at hj
         split at hj
         ·obtain ⟨us, g1, g2⟩ := hrow j x hj
          exact ⟨us, g1, by simpa using g2⟩
         ·cases hj)
        have hol := uss_len ho
        rw [List.length_take, Nat.min_eq_left (by omega)] at hol
        refine uss_row ((ho.mono fun _ _ => Rep.mono hfr ty').append (hzall.mono fun _ _ => Rep.mono hfr ty')) fun q v hq => ?_
        rw [List.getElem?_toArray, putAt_get _ _ _ hle]
        rw [List.flatten_append] at hq
        by_cases hlt2 : q < ous.flatten.length
        ·rw [List.getElem?_append_left hlt2] at hq
         rw [if_neg (by omega)]
         simpa using hoc q v hq
        ·rw [List.getElem?_append_right (by omega)] at hq
         have hlt3 := (List.getElem?_eq_some_iff.1 hq).1
         rw [if_pos (by omega), ← hq, hol]
    ·have hi0 : i = xs.length := by omega
     subst hi0
     have hrun : (Builtin.clear_ arr ty #[.slice a' (xs.length - xs.length) c']).run P w = .ok (.tuple #[]) w := by
      rw [Nat.sub_self]
      cases a' <;> simp [Builtin.clear_, h0, run_underlying (und_slice T hd)]
     refine ⟨_, β, w, hrun, ?_, ⟨[], rfl, trivial⟩⟩
     refine h.set k (.lst fx ty' (xs.take xs.length ++ List.replicate (xs.length - xs.length) ty'.dflt)) (.lst fx ty' xs) w hsl (fun _ _ hb _ => hb) (Nat.le_refl _) (Same.refl w) (fun hh => hh) (fun hfr => ?_)
     have := h.slots _ _ hsl
     rw [List.take_length, Nat.sub_self, List.replicate_zero, List.append_nil]
     exact RepS.mono hfr (fun _ _ _ hb => hb) this
   ·exact False.elim hs
  ·exact False.elim hs
 ·exact False.elim hs
theorem u8_flat {X : Nat → Prop} : ∀ {xs : List Int} {uss : List (List Value)}, All2 (Rep X w (.int .u8)) xs uss → uss.flatten = xs.map (Value.int .u8)
 | [], [], _ => rfl
 | x :: xs, us :: uss, ⟨h1, h2⟩ => by
  have h1 : us = [.int .u8 x] := h1
  subst h1
  rw [List.flatten_cons, u8_flat h2]
  rfl
theorem u8_rep {X : Nat → Prop} (m : Nat) (xs : List Int) (hm : xs.length = m) : Rep X w (.arr m (.int .u8)) xs (xs.map (Value.int .u8)) := by
 refine ⟨hm, xs.map (fun x => [Value.int .u8 x]), ?_, ?_⟩
 ·clear hm
  induction xs with
  | nil => rfl
  | cons x xs ih => rw [List.map_cons, List.map_cons, List.flatten_cons, ← ih]; rfl
 ·clear hm
  induction xs with
  | nil => trivial
  | cons x xs ih => exact ⟨rfl, ih⟩
theorem run_copyStr {t e ty : Nat} {i : TypeInfo} (w : World) (hu : P.underlying t = some (.slice e)) (hi : P.info? e = some i) (h1 : i.size = 1) {b n : Nat} {s : List UInt8} {l : List Value} {el : TypeId} {fr : Nat × Nat}
    (hb : w.heap[b]? = some (.cells l.toArray el fr)) (hfit : n = l.length) (ht : thawed l.toArray fr) (arr : Array Nat) (h0 : arr[0]? = some t) :
    (Builtin.copy_ arr ty #[.slice (some ⟨b, 0, none⟩) n n, .string ⟨s.toArray⟩]).run P w = .ok (.int .i64 (min s.length n : Nat)) (w.setCells b 0 ((s.take n).map fun b => Value.int .u8 (b.toNat : Int))) := by
 have hst := run_stores (P := P) (o := 0) (vs := (s.take n).map fun b => Value.int .u8 (b.toNat : Int)) hb (by rw [List.length_map, List.length_take]; omega) ht (fun v hv => by
  obtain ⟨x, _, rfl⟩ := List.mem_map.1 hv
  rfl)
 have hmin : Nat.min s.length n = min s.length n := rfl
 have htk : (List.take (min s.length n) s) = s.take n := by
  rcases Nat.le_total s.length n with h | h
  ·rw [Nat.min_eq_left h, List.take_of_length_le (Nat.le_refl _), List.take_of_length_le h]
  ·rw [Nat.min_eq_right h]
 have hcells : ((⟨s.toArray⟩ : ByteArray).extract 0 (min s.length n)).data.map (fun b => Value.int .u8 (b.toNat : Int)) = ((s.take n).map fun b => Value.int .u8 (b.toNat : Int)).toArray := by
  rw [← htk]
  simp
 simp [Builtin.copy_, h0, run_underlying hu, Builtin.lenOf, Builtin.firstCells, sizeOf, typeInfo, hi, h1, hmin, hcells, hst, goInt]
 rw [show (⟨s.toArray⟩ : ByteArray).size.min n = min s.length n from rfl, ← List.map_take, htk, hst, List.map_take]
 rfl
theorem sound_copy (T : TOk P cx) (h : Rel cx F st β a w) {t : Nat} {ts : List Nat} {x y : V} {vx vy : Value} {an : Ann} {ty : Nat} {arr : Array Nat} (harr : arr.toList = t :: ts)
    (hx : RepV β (XX F st β) w x vx) (hy : RepV β (XX F st β) w y vy) (hs : (evB cx .copy (t :: ts) [x, y] an st).side.holds) :
    ∃ v β' w', (Builtin.copy_ arr ty #[vx, vy]).run P w = .ok v w' ∧ Rel cx F (evB cx .copy (t :: ts) [x, y] an st).st β' a w' ∧
     RepV β' (XX F (evB cx .copy (t :: ts) [x, y] an st).st β') w' (evB cx .copy (t :: ts) [x, y] an st).val v := by
 have h0 : arr[0]? = some t := by
  have : arr = (t :: ts).toArray := by rw [← harr]
  rw [this]; simp
 simp only [evB] at hs ⊢
 split at hs
 ·rename_i el k n s hd
  split at hs
  ·rename_i m xs hsz hsl
   cases hq : Nat.beq m n
   ·rw [hq] at hs; exact False.elim hs
   ·obtain rfl := (beq_iff _ _).1 hq
    obtain ⟨b0, hb0, rfl⟩ := hx
    have hy : vy = .string ⟨s.toArray⟩ := hy
    subst hy
    have hke := (T t (by rw [hd]; rfl)).slice el hd
    obtain ⟨te, z, hi, hsz1, hby, hz, hza, hzs, hzt'⟩ := (T el hke).info
    have hsz' := (beq_iff _ _).1 hsz
    obtain ⟨b, l, el', fr, hb1, hb2, hth, hrep⟩ := h.slots _ _ hsl
    have : b = b0 := by rw [boxAt] at hb0 hb1; rw [hb0] at hb1; simpa using hb1.symm
    subst this
    obtain ⟨hn, uss, hl, hu⟩ := hrep
    have hn : List.length (α := Int) xs = m := hn
    have hlx : l = List.map (Value.int .u8) (xs : List Int) := by rw [hl]; exact u8_flat hu
    have hll : m = l.length := by rw [hlx, List.length_map, hn]
    have hrun := run_copyStr (ty := ty) (s := s) w (und_slice T hd) hi (by rw [hsz1, hsz']) hb2 hll hth arr h0
    refine ⟨_, β, _, hrun, ?_, rfl⟩
    have h00 : 0 + ((s.take m).map fun b => Value.int .u8 (b.toNat : Int)).length ≤ l.length := by rw [List.length_map, List.length_take]; omega
    refine h.set k (.tb (.arr m (.int .u8)) ((s.take m).map (fun b => (b.toNat : Int)) ++ List.drop (α := Int) s.length xs)) (.tb (.arr m (.int .u8)) xs) _ hsl (fun b1 o1 hb' hne => ?_) (by rw [size_setCells]; exact Nat.le_refl _) (same_setCells _ _ _ _) (fun _ => rfl) (fun hfr => ?_)
    ·rw [heap_setCells_ne b (by rintro rfl; exact hne (by rw [hb1]; rfl))]; exact hb'
    ·have hh := heap_setCells b ((s.take m).map fun b => Value.int .u8 (b.toNat : Int)) 0 w hb2 h00
     refine ⟨b, _, el', fr, hb1, hh, ?_, ?_⟩
     ·intro j hj
      have e := putAt_length _ _ _ h00
      exact hth j (by simp only [List.size_toArray] at hj ⊢; omega)
     ·have e1 : putAt l 0 ((s.take m).map fun b => Value.int .u8 (b.toNat : Int)) = List.map (Value.int .u8) ((s.take m).map (fun b => (b.toNat : Int)) ++ List.drop (α := Int) s.length xs) := by
       apply List.ext_getElem?
       intro q
       rw [putAt_get _ _ _ h00, List.map_append, List.map_map, hlx]
       by_cases hq : q < ((s.take m).map fun b => Value.int .u8 (b.toNat : Int)).length
       ·rw [if_pos (by omega), List.getElem?_append_left (by simpa using hq)]
        rfl
       ·rw [if_neg (by omega), List.getElem?_append_right (by simpa using hq), List.map_drop, List.getElem?_drop]
        simp only [List.length_map, List.length_take] at hq ⊢
        rcases Nat.le_total s.length m with h1 | h1
        ·congr 1; omega
        ·rw [List.getElem?_eq_none (by rw [List.length_map]; omega), List.getElem?_eq_none (by rw [List.length_map]; omega)]
      have hlen : ((s.take m).map (fun b => (b.toNat : Int)) ++ List.drop (α := Int) s.length xs).length = m := by
       rw [List.length_append, List.length_map, List.length_take, List.length_drop, hn]; omega
      rw [e1]
      exact u8_rep m _ hlen
  ·exact False.elim hs
 ·exact False.elim hs
end
end Go.AM
/- Soundness: ghost steps, calls, regions, code, functions. -/
set_option linter.unusedSimpArgs false
set_option linter.unusedVariables false
namespace Go.AM
open Go
section
variable {P : Program} {cx : Cx} {F : Fm} {st : St} {β : Nat → Value} {a : Act} {w : World} {o : Oper}
/-- Registers are told anew. -/
theorem Rel.regs' (h : Rel cx F st β a w) (rs : List (Nat × V)) (hr : ∀ t v, look t rs = some v → RepV β (XX F st β) w v (a.tmps.getD t Go.undef)) : Rel cx F ⟨rs, st.slots⟩ β a w :=
 ⟨h.defers, h.size, hr, h.slots, h.inj, h.glob, h.frame, h.owned, h.sizes, h.outer, h.fix, h.same⟩
theorem Rel.know (h : Rel cx F st β a w) {t : Nat} {v : V} (hv : RepV β (XX F st β) w v (a.tmps.getD t Go.undef)) : Rel cx F (st.put (some t) v) β a w := by
 refine h.regs' _ fun j x hj => ?_
 rw [look_cons] at hj
 split at hj
 ·rename_i e
  simp only at e; subst e
  simp only [Option.some.injEq] at hj; subst hj; exact hv
 ·exact h.regs j x hj
/-- Slots are forgotten, names turned. -/
theorem Rel.sub (h : Rel cx F st β a w) (st' : St) (g : C → C)
    (hslot : ∀ i s', st'.slot i = some s' → ∃ s, st.slot i = some s ∧ s' = s.map g)
    (hregs : ∀ t v', look t st'.regs = some v' → ∃ v, look t st.regs = some v ∧ v' = v.map g)
    (hg : Fr (XX F st β) w (XX F st' β) w → ∀ c v, RepC β (XX F st β) w c v → RepC β (XX F st' β) w (g c) v) : Rel cx F st' β a w := by
 have hfr : Fr (XX F st β) w (XX F st' β) w := by
  intro b o hb hx
  refine ⟨hb, ?_⟩
  rintro (h0 | ⟨k, s', hk, hbk⟩)
  ·exact hx (.inl h0)
  ·obtain ⟨s, hs, _⟩ := hslot k s' hk
   exact hx (.inr ⟨k, s, hs, hbk⟩)
 have hg' := hg hfr
 refine ⟨h.defers, h.size, ?_, ?_, ?_, ?_, h.frame, ?_, h.sizes, h.outer, ?_, h.same⟩
 ·intro t v' ht
  obtain ⟨v, h1, rfl⟩ := hregs t v' ht
  exact RepV.map hg' v (h.regs t v h1)
 ·intro k s' hk
  obtain ⟨s, hs, rfl⟩ := hslot k s' hk
  exact RepS.map hfr hg' (fun _ _ _ hb => hb) (h.slots k s hs)
 ·intro i j s1 s2 b h1 h2 hb1 hb2
  obtain ⟨t1, g1, _⟩ := hslot i s1 h1
  obtain ⟨t2, g2, _⟩ := hslot j s2 h2
  exact h.inj i j t1 t2 b g1 g2 hb1 hb2
 ·intro g' t x hx; exact Rep.mono hfr (.ptr t) (h.glob g' t x hx)
 ·intro k s' b hk hb
  obtain ⟨s, hs, _⟩ := hslot k s' hk
  exact h.owned k s b hs hb
 ·intro k v hk
  refine ⟨(h.fix k v hk).1, fun s' he => ?_⟩
  obtain ⟨s, h1, rfl⟩ := hslot k _ he
  rw [Slot.fixd_map]; exact (h.fix k v hk).2 s h1
def GhFix (F : Fm) : Ghost → Prop
 | .ren _ j => F.fix j = none
 | .nilCell _ _ j _ => F.fix j = none
 | .nilRow _ j _ => F.fix j = none
 | _ => True
theorem mem_iff (k : Nat) : ∀ (l : List Nat), mem k l = true ↔ k ∈ l
 | [] => by simp [mem]
 | j :: r => by
  simp only [mem, List.mem_cons]
  cases hb : Nat.beq k j
  ·have : k ≠ j := fun e => by rw [(beq_iff k j).2 e] at hb; cases hb
   simp [mem_iff k r, this]
  ·simp [(beq_iff _ _).1 hb]
theorem frz_rep {X X' : Nat → Prop} {w' : World} (hf : Fr X w X' w') {k : Nat} {e : Ty} {xs : List e.El} (hk : Rep X' w' (.list e) xs [β k]) (c : C) (v : Value) (h : RepC β X w c v) :
    RepC β X' w' (c.frz k e xs) v := by
 have hone := RepC.one h
 have hm := RepC.mono hf h
 cases c <;> simp only [C.frz] <;> first | exact hm | skip
 all_goals (first
  | (rename_i j o; cases hb : Nat.beq j k <;> simp only [cond_true, cond_false] <;> first | exact hm | exact hone)
  | (rename_i j e' i o; cases hb : Nat.beq j k <;> simp only [cond_true, cond_false] <;> first | exact hm | exact hone)
  | (rename_i j e' i; cases hb : Nat.beq j k <;> simp only [cond_true, cond_false] <;> first | exact hm | exact hone)
  | (rename_i f cs; cases hb : mem k cs <;> simp only [cond_true, cond_false] <;> first | exact hm | exact hone)
  | (rename_i j o e' i off; cases hb : Nat.beq j k <;> simp only [cond_true, cond_false] <;> first | exact hm | exact hone)
  | (rename_i j; cases hb : Nat.beq j k <;> simp only [cond_true, cond_false] <;> first | exact hm | exact hone)
  | (rename_i j; cases hb : Nat.beq j k <;> simp only [cond_true, cond_false] <;> first | exact hm | (have := (beq_iff _ _).1 hb; subst this; rw [show v = β _ from h.1]; exact hk) | exact h.elim))
theorem frzB_rep {X X' : Nat → Prop} {w' : World} (hf : Fr X w X' w') {k : Nat} {t : Ty} {x : t.El} (hk : ∀ b, boxAt (β k) b → Rep X' w' (.ptr t) x [.pointer (some ⟨b, 0, none⟩)]) (c : C) (v : Value) (h : RepC β X w c v) :
    RepC β X' w' (c.frzB k t x) v := by
 have hone := RepC.one h
 have hm := RepC.mono hf h
 cases c <;> simp only [C.frzB] <;> first | exact hm | skip
 all_goals (first
  | (rename_i j o; cases hb : Nat.beq j k <;> simp only [cond_true, cond_false] <;> first | exact hm | (have := (beq_iff _ _).1 hb; subst this; obtain ⟨b, h1, h2⟩ := h; exact ⟨b, h2, hk b h1⟩))
  | (rename_i j o; cases hb : Nat.beq j k <;> simp only [cond_true, cond_false] <;> first | exact hm | exact hone)
  | (rename_i j e' i o; cases hb : Nat.beq j k <;> simp only [cond_true, cond_false] <;> first | exact hm | exact hone)
  | (rename_i j e' i; cases hb : Nat.beq j k <;> simp only [cond_true, cond_false] <;> first | exact hm | exact hone)
  | (rename_i f cs; cases hb : mem k cs <;> simp only [cond_true, cond_false] <;> first | exact hm | exact hone)
  | (rename_i j o e' i off; cases hb : Nat.beq j k <;> simp only [cond_true, cond_false] <;> first | exact hm | exact hone)
  | (rename_i j; cases hb : Nat.beq j k <;> simp only [cond_true, cond_false] <;> first | exact hm | exact hone | exact h.elim))
theorem look_keep (ts : List Nat) (t : Nat) (v : V) (h : look t (keepRegs ts st) = some v) : v = st.get t := by
 unfold keepRegs at h
 induction ts with
 | nil => simp [look] at h
 | cons u ts ih =>
  rw [List.map_cons, look_cons] at h
  split at h
  ·rename_i e; simp only at e; subst e; simpa using h.symm
  ·exact ih h
theorem ghost_sound (h : Rel cx F st β a w) {g : Ghost} {st' : St} (hF : GhFix F g) (hg : ghost g st = some st') : ∃ β', Rel cx F st' β' a w := by
 cases g with
 | keep ts =>
  simp only [ghost, Option.some.injEq] at hg
  subst hg
  exact ⟨β, h.regs' _ fun t v ht => by rw [look_keep ts t v ht]; exact h.get t⟩
 | drop k =>
  simp only [ghost, Option.some.injEq] at hg
  subst hg
  refine ⟨β, h.sub _ (fun c => c) ?_ ?_ fun hf c v hc => RepC.mono hf hc⟩
  ·intro i s' hi
   rw [St.slot_del] at hi
   split at hi
   ·cases hi
   ·exact ⟨s', hi, (Slot.map_id s').symm⟩
  ·intro t v' ht; exact ⟨v', ht, (V.map_id v').symm⟩
 | freeze k =>
  simp only [ghost] at hg
  split at hg
  ·rename_i e xs hsl
   simp only [Option.some.injEq] at hg
   subst hg
   refine ⟨β, h.sub _ (C.frz k e xs) ?_ ?_ fun hf => frz_rep hf ?_⟩
   ·intro i s' hi
    rw [St.slot_map, St.slot_del] at hi
    split at hi
    ·cases hi
    ·obtain ⟨s, h1, h2⟩ := Option.map_eq_some_iff.1 hi
     exact ⟨s, h1, h2.symm⟩
   ·intro t v' ht
    rw [St.look_map] at ht
    obtain ⟨v, h1, h2⟩ := Option.map_eq_some_iff.1 ht
    exact ⟨v, h1, h2.symm⟩
   ·rcases h.slots _ _ hsl with ⟨rfl, ad, hb⟩ | ⟨b, cap, vals, el, fr, hb, hb2, hth, hlc, hcap, hrow⟩
    ·exact ⟨ad, 0, by rw [hb]; rfl, Nat.le_refl _, .inl rfl⟩
    ·have hbk : blk (β k) = some b := by rw [hb]; rfl
     refine ⟨_, _, by rw [hb], hlc, .inr ⟨b, 0, rfl, ?_, vals, el, fr, hb2, fun i x hi => ?_⟩⟩
     ·rintro (h0 | ⟨j, s', hj, hbj⟩)
      ·exact (h.owned k _ b hsl hbk).2 h0
      ·rw [St.slot_map, St.slot_del] at hj
       split at hj
       ·cases hj
       ·rename_i hjk
        obtain ⟨s, h1, _⟩ := Option.map_eq_some_iff.1 hj
        exact hjk (h.inj j k s _ b h1 hsl hbj hbk)
     ·obtain ⟨us, h1, h2⟩ := hrow i x hi
      exact ⟨us, Rep.mono hf e h1, by simpa using h2⟩
  ·cases hg
 | freezeBox k t =>
  simp only [ghost] at hg
  split at hg
  ·rename_i cs hsl
   split at hg
   ·rename_i x hx
    simp only [Option.some.injEq] at hg
    subst hg
    refine ⟨β, h.sub _ (C.frzB k t x) ?_ ?_ fun hf => frzB_rep hf ?_⟩
    ·intro i s' hi
     rw [St.slot_map, St.slot_del] at hi
     split at hi
     ·cases hi
     ·obtain ⟨s, h1, h2⟩ := Option.map_eq_some_iff.1 hi
      exact ⟨s, h1, h2.symm⟩
    ·intro t v' ht
     rw [St.look_map] at ht
     obtain ⟨v, h1, h2⟩ := Option.map_eq_some_iff.1 ht
     exact ⟨v, h1, h2.symm⟩
    ·intro b hb
     obtain ⟨b', vs, el, fr, hb1, hb2, hth, hcs⟩ := h.slots _ _ hsl
     have : b' = b := by rw [boxAt] at hb hb1; rw [hb] at hb1; simpa using hb1.symm
     subst this
     have hbk : blk (β k) = some b' := by rw [hb1]; rfl
     refine ⟨b', rfl, ?_, _, el, fr, hb2, vs, Rep.mono hf t (parse1_rep hcs hx), fun j u hj => by simpa using hj⟩
     rintro (h0 | ⟨j, s', hj, hbj⟩)
     ·exact (h.owned k _ b' hsl hbk).2 h0
     ·rw [St.slot_map, St.slot_del] at hj
      split at hj
      ·cases hj
      ·rename_i hjk
       obtain ⟨s, h1, _⟩ := Option.map_eq_some_iff.1 hj
       exact hjk (h.inj j k s _ b' h1 hsl hbj hbk)
   ·cases hg
  ·rename_i t' x hsl
   split at hg
   ·rename_i he
    subst he
    simp only [castEl_rfl, Option.some.injEq] at hg
    subst hg
    refine ⟨β, h.sub _ (C.frzB k t' x) ?_ ?_ fun hf => frzB_rep hf ?_⟩
    ·intro i s' hi
     rw [St.slot_map, St.slot_del] at hi
     split at hi
     ·cases hi
     ·obtain ⟨s, h1, h2⟩ := Option.map_eq_some_iff.1 hi
      exact ⟨s, h1, h2.symm⟩
    ·intro t v' ht
     rw [St.look_map] at ht
     obtain ⟨v, h1, h2⟩ := Option.map_eq_some_iff.1 ht
     exact ⟨v, h1, h2.symm⟩
    ·intro b hb
     obtain ⟨b', vs, el, fr, hb1, hb2, hth, hrep⟩ := h.slots _ _ hsl
     have : b' = b := by rw [boxAt] at hb hb1; rw [hb] at hb1; simpa using hb1.symm
     subst this
     have hbk : blk (β k) = some b' := by rw [hb1]; rfl
     refine ⟨b', rfl, ?_, _, el, fr, hb2, vs, Rep.mono hf t' hrep, fun j u hj => by simpa using hj⟩
     rintro (h0 | ⟨j, s', hj, hbj⟩)
     ·exact (h.owned k _ b' hsl hbk).2 h0
     ·rw [St.slot_map, St.slot_del] at hj
      split at hj
      ·cases hj
      ·rename_i hjk
       obtain ⟨s, h1, _⟩ := Option.map_eq_some_iff.1 hj
       exact hjk (h.inj j k s _ b' h1 hsl hbj hbk)
   ·cases hg
  ·cases hg
 | nilCell k i j e =>
  simp only [ghost] at hg
  split at hg
  ·rename_i cs hsl
   split at hg
   ·rename_i hnth hkj
    simp only [Option.some.injEq] at hg
    have hne : k ≠ j := fun e => by rw [(beq_iff k j).2 e] at hkj; cases hkj
    obtain ⟨hrel, _⟩ := h.new j (.lst false e []) (.slice none 0 0) w hF (Same.refl w) (fun _ _ hb _ => hb) (fun b hb => by simp [blk] at hb) (Nat.le_refl _) (fun _ => .inl ⟨rfl, none, rfl⟩)
    have hk' : (st.new j (.lst false e [])).slot k = some (.box cs) := by
     show ((st.kill j).set j (.lst false e [])).slot k = _
     rw [St.slot_set, if_neg hne]; exact hsl
    refine ⟨upd β j (.slice none 0 0), ?_⟩
    rw [← hg]
    refine hrel.set k (.box (putAt cs i [.rs j])) (.box cs) w hk' (fun _ _ hb _ => hb) (Nat.le_refl _) (Same.refl w) (fun _ => rfl) (fun hfr => ?_)
    obtain ⟨b, vs, el, fr, h1, h2, h3, h4⟩ := hrel.slots k _ hk'
    refine ⟨b, vs, el, fr, h1, h2, h3, ?_⟩
    rw [nth_get] at hnth
    obtain ⟨v, hv1, hv2⟩ := h4.get hnth
    have hv2 : v = .slice none 0 0 := hv2
    have hput : vs = putAt vs i [v] := by
     have hlt := (List.getElem?_eq_some_iff.1 hv1).1
     apply List.ext_getElem?
     intro q
     rw [putAt_get vs i [v] (by simp; omega)]
     split
     ·rename_i hq
      have : q = i := by simp at hq; omega
      subst this
      rw [hv1]; simp
     ·rfl
    rw [hput]
    refine h4.putAt (us := [v]) ⟨⟨?_, none, 0, 0, hv2⟩, trivial⟩
    rw [hv2]; simp [upd]
   ·cases hg
  ·rename_i bt hsl
   split at hg
   ·rename_i hi1 hkj
    simp only [Option.some.injEq] at hg
    have hne : k ≠ j := fun e => by rw [(beq_iff k j).2 e] at hkj; cases hkj
    obtain ⟨hrel, _⟩ := h.new j (.lst false e []) (.slice none 0 0) w hF (Same.refl w) (fun _ _ hb _ => hb) (fun b hb => by simp [blk] at hb) (Nat.le_refl _) (fun _ => .inl ⟨rfl, none, rfl⟩)
    have hk' : (st.new j (.lst false e [])).slot k = some (.bd bt .nilS) := by
     show ((st.kill j).set j (.lst false e [])).slot k = _
     rw [St.slot_set, if_neg hne]; exact hsl
    refine ⟨upd β j (.slice none 0 0), ?_⟩
    rw [← hg]
    refine hrel.set k (.bd bt (.rs j)) (.bd bt .nilS) w hk' (fun _ _ hb _ => hb) (Nat.le_refl _) (Same.refl w) (fun _ => rfl) (fun hfr => ?_)
    obtain ⟨b, v0, v1, fr, h1, h2, h3, h4, h5⟩ := hrel.slots k _ hk'
    have h5 : v1 = .slice none 0 0 := h5
    refine ⟨b, v0, v1, fr, h1, h2, h3, h4, ?_, none, 0, 0, h5⟩
    rw [h5]; simp [upd]
   ·cases hg
  ·cases hg
 | fix k =>
  simp only [ghost] at hg
  split at hg
  ·rename_i fx e xs hsl
   simp only [Option.some.injEq] at hg
   refine ⟨β, ?_⟩
   rw [← hg]
   exact h.set k (.lst true e xs) (.lst fx e xs) w hsl (fun _ _ hb _ => hb) (Nat.le_refl _) (Same.refl w) (fun _ => rfl) (fun hfr => by have h0 := h.slots k _ hsl; exact h0)
  ·cases hg
 | nilRow k j T =>
  simp only [ghost] at hg
  split at hg
  ·rename_i bt hsl
   split at hg
   ·rename_i hkj
    simp only [Option.some.injEq] at hg
    have hne : k ≠ j := fun e => by rw [(beq_iff k j).2 e] at hkj; cases hkj
    obtain ⟨hrel, _⟩ := h.new j (.brow T []) (.slice none 0 0) w hF (Same.refl w) (fun _ _ hb _ => hb) (fun b hb => by simp [blk] at hb) (Nat.le_refl _) (fun _ => .inl ⟨rfl, rfl⟩)
    have hk' : (st.new j (.brow T [])).slot k = some (.bd bt .nilS) := by
     show ((st.kill j).set j (.brow T [])).slot k = _
     rw [St.slot_set, if_neg hne]; exact hsl
    refine ⟨upd β j (.slice none 0 0), ?_⟩
    rw [← hg]
    refine hrel.set k (.bd bt (.rs j)) (.bd bt .nilS) w hk' (fun _ _ hb _ => hb) (Nat.le_refl _) (Same.refl w) (fun _ => rfl) (fun hfr => ?_)
    obtain ⟨b, v0, v1, fr, h1, h2, h3, h4, h5⟩ := hrel.slots k _ hk'
    have h5 : v1 = .slice none 0 0 := h5
    refine ⟨b, v0, v1, fr, h1, h2, h3, h4, ?_, none, 0, 0, h5⟩
    rw [h5]; simp [upd]
   ·cases hg
  ·cases hg
 | ren k j =>
  simp only [ghost] at hg
  split at hg
  ·rename_i s hsl
   cases hkj : Nat.beq k j
   ·rw [hkj] at hg
    simp only [cond_false, Option.some.injEq] at hg
    have hne : k ≠ j := fun e => by rw [(beq_iff k j).2 e] at hkj; cases hkj
    have hρ : ∀ i i', toKey k j i = some i' → upd β j (β k) i' = β i := by
     intro i i' hi
     simp only [toKey] at hi
     cases h1 : Nat.beq i j
     ·rw [h1] at hi; simp only [cond_false] at hi
      have hij : i ≠ j := fun e => by rw [(beq_iff i j).2 e] at h1; cases h1
      cases h2 : Nat.beq i k
      ·rw [h2] at hi; simp only [cond_false, Option.some.injEq] at hi; subst hi
       simp [upd, hij]
      ·rw [h2] at hi; simp only [cond_true, Option.some.injEq] at hi; subst hi
       have := (beq_iff _ _).1 h2; subst this
       simp [upd]
     ·rw [h1] at hi; simp at hi
    have hslot : ∀ i s', st'.slot i = some s' → (i = j ∧ s' = s.map (C.ren (toKey k j))) ∨ (i ≠ j ∧ i ≠ k ∧ ∃ s0, st.slot i = some s0 ∧ s' = s0.map (C.ren (toKey k j))) := by
     intro i s' hi
     rw [← hg] at hi
     simp only [St.slot, look_cons] at hi
     by_cases hij : i = j
     ·rw [if_pos hij] at hi
      simp only [Option.some.injEq] at hi
      exact .inl ⟨hij, hi.symm⟩
     ·rw [if_neg hij] at hi
      have := St.slot_map (⟨st.regs, del k (del j st.slots)⟩ : St) (C.ren (toKey k j)) i
      simp only [St.slot] at this
      rw [this, look_del, look_del, if_neg hij] at hi
      by_cases hik : i = k
      ·simp [hik] at hi
      ·rw [if_neg hik] at hi
       obtain ⟨s0, h1, h2⟩ := Option.map_eq_some_iff.1 hi
       exact .inr ⟨hij, hik, s0, h1, h2.symm⟩
    have hback : ∀ i s' b, st'.slot i = some s' → blk (upd β j (β k) i) = some b → ∃ i0 s0, st.slot i0 = some s0 ∧ blk (β i0) = some b ∧ (i = j ∧ i0 = k ∨ i ≠ j ∧ i0 = i) := by
     intro i s' b hi hb
     rcases hslot i s' hi with ⟨rfl, _⟩ | ⟨hij, hik, s0, h1, _⟩
     ·exact ⟨k, s, hsl, by simpa [upd] using hb, .inl ⟨rfl, rfl⟩⟩
     ·exact ⟨i, s0, h1, by simpa [upd, hij] using hb, .inr ⟨hij, rfl⟩⟩
    have hfr : Fr (XX F st β) w (XX F st' (upd β j (β k))) w := by
     intro b o hb hx
     refine ⟨hb, ?_⟩
     rintro (h0 | ⟨i, s', hi, hbi⟩)
     ·exact hx (.inl h0)
     ·obtain ⟨i0, s0, h1, h2, _⟩ := hback i s' b hi hbi
      exact hx (.inr ⟨i0, s0, h1, h2⟩)
    have hC : ∀ c v, RepC β (XX F st β) w c v → RepC (upd β j (β k)) (XX F st' (upd β j (β k))) w (c.ren (toKey k j)) v := fun c v => RepC.ren hfr hρ
    refine ⟨upd β j (β k), h.defers, h.size, ?_, ?_, ?_, ?_, h.frame, ?_, h.sizes, h.outer, ?_, h.same⟩
    ·intro t v' ht
     have : st'.regs = ((⟨st.regs, del k (del j st.slots)⟩ : St).map (C.ren (toKey k j))).regs := by rw [← hg]
     rw [this, St.look_map] at ht
     obtain ⟨v, h1, h2⟩ := Option.map_eq_some_iff.1 ht
     subst h2
     exact RepV.map hC v (h.regs t v h1)
    ·intro i s' hi
     rcases hslot i s' hi with ⟨rfl, rfl⟩ | ⟨hij, hik, s0, h1, rfl⟩
     ·have : upd β i (β k) i = β k := by simp [upd]
      rw [this]
      exact RepS.map hfr hC (fun _ _ _ hb => hb) (h.slots k s hsl)
     ·have : upd β j (β k) i = β i := by simp [upd, hij]
      rw [this]
      exact RepS.map hfr hC (fun _ _ _ hb => hb) (h.slots i s0 h1)
    ·intro i1 i2 s1 s2 b h1 h2 hb1 hb2
     obtain ⟨j1, t1, g1, e1, d1⟩ := hback i1 s1 b h1 hb1
     obtain ⟨j2, t2, g2, e2, d2⟩ := hback i2 s2 b h2 hb2
     have := h.inj j1 j2 t1 t2 b g1 g2 e1 e2
     subst this
     have nk : ∀ i s', st'.slot i = some s' → i ≠ j → i ≠ k := by
      intro i s' hi hij
      rcases hslot i s' hi with ⟨rfl, _⟩ | ⟨_, hik, _⟩
      ·exact absurd rfl hij
      ·exact hik
     rcases d1 with ⟨rfl, rfl⟩ | ⟨d1, rfl⟩ <;> rcases d2 with ⟨rfl, d3⟩ | ⟨d2, d3⟩
     ·rfl
     ·exact absurd d3.symm (nk i2 s2 h2 d2)
     ·exact absurd d3 (nk _ s1 h1 d1)
     ·exact d3
    ·intro g t x hx; exact Rep.mono hfr (.ptr t) (h.glob g t x hx)
    ·intro i s' b hi hb
     obtain ⟨i0, s0, h1, h2, _⟩ := hback i s' b hi hb
     exact h.owned i0 s0 b h1 h2
    ·intro i v hi
     have hij : i ≠ j := fun e => by subst e; rw [show F.fix i = none from hF] at hi; cases hi
     refine ⟨by simp [upd, hij]; exact (h.fix i v hi).1, fun s' he => ?_⟩
     rcases hslot i _ he with ⟨rfl, _⟩ | ⟨_, _, s0, h1, rfl⟩
     ·exact (hij rfl).elim
     ·rw [Slot.fixd_map]; exact (h.fix i v hi).2 s0 h1
   ·rw [hkj] at hg
    simp only [cond_true, Option.some.injEq] at hg
    subst hg
    exact ⟨β, h⟩
  ·cases hg
theorem ghosts_sound : ∀ (gs : List Ghost) {st st' : St} {β : Nat → Value}, Rel cx F st β a w → (∀ g ∈ gs, GhFix F g) → ghosts gs st = some st' → ∃ β', Rel cx F st' β' a w
 | [], st, st', β, h, _, hg => by simp [ghosts] at hg; subst hg; exact ⟨β, h⟩
 | g :: gs, st, st', β, h, hF, hg => by
  simp only [ghosts] at hg
  split at hg
  ·rename_i st1 h1
   obtain ⟨β1, hr⟩ := ghost_sound h (hF g (List.mem_cons_self ..)) h1
   exact ghosts_sound gs hr (fun g hg => hF g (List.mem_cons_of_mem _ hg)) hg
  ·cases hg
end
end Go.AM
/- Soundness: calls. -/
set_option linter.unusedSimpArgs false
set_option linter.unusedVariables false
namespace Go.AM
open Go
def blocksOf (β : Nat → Value) (ss : List Slot) (b : Nat) : Prop := ∃ k s, nth ss k = some s ∧ blk (β k) = some b
def YY (X : Nat → Prop) (β : Nat → Value) (ss : List Slot) (b : Nat) : Prop := X b ∨ blocksOf β ss b
structure Pre (cx : Cx) (X : Nat → Prop) (β : Nat → Value) (w : World) (args : List V) (vs : List Value) (ss : List Slot) : Prop where
 outer : ∀ b, X b → b < w.heap.size
 args : RepVs β (YY X β ss) w args vs
 slots : ∀ k s, nth ss k = some s → RepS β (YY X β ss) w s (β k)
 inj : ∀ j k s s' b, nth ss j = some s → nth ss k = some s' → blk (β j) = some b → blk (β k) = some b → j = k
 apart : ∀ b, blocksOf β ss b → ¬X b
 glob : ∀ g t x, cx.G g = some ⟨t, x⟩ → Rep (YY X β ss) w (.ptr t) x [.pointer (some ⟨g, 0, none⟩)]
structure Ans (X : Nat → Prop) (β : Nat → Value) (w : World) (ss : List Slot) (r : V) (ss' : List Slot) (v : Value) (w' : World) (β' : Nat → Value) : Prop where
 val : RepV β' (YY X β' ss') w' r v
 slots : ∀ k s, nth ss' k = some s → RepS β' (YY X β' ss') w' s (β' k)
 inj : ∀ j k s s' b, nth ss' j = some s → nth ss' k = some s' → blk (β' j) = some b → blk (β' k) = some b → j = k
 frame : ∀ b o, w.heap[b]? = some o → ¬blocksOf β ss b → w'.heap[b]? = some o
 owned : ∀ b, blocksOf β' ss' b → (blocksOf β ss b ∨ w.heap.size ≤ b) ∧ ¬X b
 size : w.heap.size ≤ w'.heap.size
 same : Same w w'
 keep : ∀ k s, nth ss k = some s → s.fixd = true → β' k = β k
 kind : ∀ k s, nth ss k = some s → s.fixd = true → ∀ s', nth ss' k = some s' → s'.fixd = true
def Invk (P : Program) (f : Nat) (vs : Array Value) (w : World) (R : Ending → World → Prop) : Prop :=
 ((callFunc f vs).run P w = .ok (.enter f vs) w ∧ Calls P f vs w R) ∨ ∃ v w', (callFunc f vs).run P w = .ok (.value v) w' ∧ R (.returned v) w'
/-- The meaning of a contract. -/
def Phi (P : Program) (cx : Cx) : Con := fun f args ss r ss' =>
 ∀ (X : Nat → Prop) (β : Nat → Value) (w : World) (vs : List Value), Pre cx X β w args vs ss →
  Invk P f vs.toArray w fun e w' => ∃ v β', e = .returned v ∧ Ans X β w ss r ss' v w' β'
section
variable {P : Program} {cx : Cx} {F : Fm} {st : St} {β : Nat → Value} {a : Act} {w : World} {o : Oper}
theorem posOf_nth : ∀ {l : List Nat} {k n i : Nat}, posOf k l n = some i → n ≤ i ∧ nth l (i - n) = some k
 | [], k, n, i, h => by simp [posOf] at h
 | j :: l, k, n, i, h => by
  simp only [posOf] at h
  cases hb : Nat.beq k j
  ·rw [hb] at h
   simp only [cond_false] at h
   obtain ⟨h1, h2⟩ := posOf_nth h
   refine ⟨by omega, ?_⟩
   have : i - n = (i - (n + 1)) + 1 := by omega
   rw [this]; simp only [nth]; exact h2
  ·rw [hb] at h
   simp only [cond_true, Option.some.injEq] at h
   subst h
   have := (beq_iff _ _).1 hb
   subst this
   exact ⟨Nat.le_refl _, by simp [nth]⟩
theorem posOf_none : ∀ {l : List Nat} {k n : Nat}, posOf k l n = none ↔ k ∉ l
 | [], k, n => by simp [posOf]
 | j :: l, k, n => by
  simp only [posOf, List.mem_cons]
  cases hb : Nat.beq k j
  ·have : k ≠ j := fun e => by rw [(beq_iff k j).2 e] at hb; cases hb
   simp [posOf_none (l := l), this]
  ·simp [(beq_iff _ _).1 hb]
theorem nth_posOf : ∀ {l : List Nat} {k n i : Nat}, nodupB l = true → nth l i = some k → posOf k l n = some (n + i)
 | [], k, n, i, _, h => by simp [nth] at h
 | j :: l, k, n, 0, _, h => by
  simp [nth] at h; subst h
  simp [posOf, (beq_iff j j).2 rfl]
 | j :: l, k, n, i + 1, hd, h => by
  simp only [nth] at h
  simp only [nodupB] at hd
  cases hm : mem j l
  ·rw [hm] at hd; simp only [cond_false] at hd
   have hne : k ≠ j := fun e => by
    have := (mem_iff j l).2 (e ▸ nth_mem h)
    rw [hm] at this; cases this
   have hb : Nat.beq k j = false := by
    cases hb : Nat.beq k j
    ·rfl
    ·exact absurd ((beq_iff _ _).1 hb) hne
   simp only [posOf, hb, cond_false]
   rw [nth_posOf hd h]; congr 1; omega
  ·rw [hm] at hd; simp at hd
theorem look_zip {k : Nat} : ∀ (keys : List Nat) (l : List Slot) (r : List (Nat × Slot)) (n : Nat), l.length = keys.length →
    look k (zipS keys l ++ r) = match posOf k keys n with | some i => nth l (i - n) | none => look k r
 | [], [], r, n, _ => by simp [zipS, posOf]
 | j :: keys, s :: l, r, n, h => by
  simp only [zipS, List.cons_append, look_cons, posOf]
  cases hb : Nat.beq k j
  ·have : k ≠ j := fun e => by rw [(beq_iff k j).2 e] at hb; cases hb
   simp only [this, if_false, cond_false]
   rw [look_zip keys l r (n + 1) (by simpa using h)]
   cases hp : posOf k keys (n + 1) with
   | none => rfl
   | some i =>
    have := (posOf_nth hp).1
    have e : i - n = (i - (n + 1)) + 1 := by omega
    simp only [e, nth]
  ·simp [(beq_iff _ _).1 hb, nth]
 | [], _ :: _, _, _, h => by simp at h
 | _ :: _, [], _, _, h => by simp at h
theorem look_delAll {α : Type} (j : Nat) : ∀ (ks : List Nat) (l : List (Nat × α)), look j (delAll ks l) = if j ∈ ks then none else look j l
 | [], l => by simp [delAll]
 | k :: ks, l => by
  simp only [delAll, look_delAll j ks, look_del, List.mem_cons]
  by_cases h1 : j ∈ ks <;> by_cases h2 : j = k <;> simp [h1, h2]
theorem slotsOf_spec : ∀ {l : List Nat} {ss : List Slot}, slotsOf st l = some ss → ss.length = l.length ∧ ∀ i k, nth l i = some k → ∃ s, st.slot k = some s ∧ nth ss i = some s
 | [], ss, h => by simp [slotsOf] at h; subst h; exact ⟨rfl, fun i k h => by simp [nth] at h⟩
 | k :: l, ss, h => by
  simp only [slotsOf] at h
  split at h
  ·rename_i s ss' h1 h2
   simp only [Option.some.injEq] at h; subst h
   obtain ⟨g1, g2⟩ := slotsOf_spec h2
   refine ⟨by simp [g1], fun i j hi => ?_⟩
   cases i with
   | zero => simp [nth] at hi; subst hi; exact ⟨s, h1, rfl⟩
   | succ i => simp only [nth] at hi ⊢; exact g2 i j hi
  ·cases h
theorem nth_map {α γ : Type} (g : α → γ) : ∀ (l : List α) (i : Nat), nth (l.map g) i = (nth l i).map g
 | [], i => by simp [nth]
 | x :: l, 0 => by simp [nth]
 | x :: l, i + 1 => by simp [nth, nth_map g l i]
theorem nth_lt {α : Type} {l : List α} {i : Nat} {x : α} (h : nth l i = some x) : i < l.length := by
 rw [nth_get] at h; exact (List.getElem?_eq_some_iff.1 h).1
theorem nth_app {l m : List Nat} {i k : Nat} (h : nth l i = some k) : nth (l ++ m) i = some k := by
 rw [nth_get] at h ⊢; rw [List.getElem?_append_left (List.getElem?_eq_some_iff.1 h).1]; exact h
theorem maps_map (g : C → C) : ∀ (xs : List V), V.maps g xs = xs.map (V.map g)
 | [] => rfl
 | x :: xs => by simp [V.maps, maps_map g xs]
theorem nodupB_left : ∀ {l m : List Nat}, nodupB (l ++ m) = true → nodupB l = true
 | [], m, h => rfl
 | k :: l, m, h => by
  simp only [List.cons_append, nodupB] at h ⊢
  cases hm : mem k (l ++ m)
  ·rw [hm] at h; simp only [cond_false] at h
   have : mem k l = false := by
    cases h1 : mem k l
    ·rfl
    ·have := (mem_iff k (l ++ m)).2 (List.mem_append_left _ ((mem_iff k l).1 h1))
     rw [hm] at this; cases this
   rw [this]; simp only [cond_false]; exact nodupB_left h
  ·rw [hm] at h; simp at h
mutual
theorem V.map_map (g f : C → C) : ∀ (x : V), (x.map f).map g = x.map fun c => g (f c)
 | .one _ => rfl
 | .agg cs => by simp [V.map]
 | .undef => rfl
 | .top => rfl
 | .tup vs => by simp only [V.map, V.maps_maps g f vs]
theorem V.maps_maps (g f : C → C) : ∀ (xs : List V), V.maps g (V.maps f xs) = V.maps (fun c => g (f c)) xs
 | [] => rfl
 | x :: xs => by simp only [V.maps, V.map_map g f x, V.maps_maps g f xs]
end
/- What hangs on no row that stays. -/
theorem Rep.flat {X X' : Nat → Prop} {w w' : World} : ∀ (t : Ty) {x : t.El} {vs : List Value}, t.flat = true → Rep X w t x vs → Rep X' w' t x vs
 | .bool, _, _, _, h => h
 | .int _, _, _, _, h => h
 | .str, _, _, _, h => h
 | .unit, _, _, _, h => h
 | .pair a b, _, _, hf, ⟨us, us', h, h1, h2⟩ => by
  simp only [Ty.flat, Bool.and_eq_true] at hf
  exact ⟨us, us', h, Rep.flat a hf.1 h1, Rep.flat b hf.2 h2⟩
 | .arr n e, _, _, hf, ⟨hn, uss, h, hu⟩ => ⟨hn, uss, h, hu.mono fun _ _ => Rep.flat e hf⟩
theorem RepC.renF {β β' : Nat → Value} {X X' : Nat → Prop} {w w' : World} {ρ : Nat → Option Nat} (hρ : ∀ k j, ρ k = some j → β' j = β k) {c : C} {v : Value} (hc : c.flat = true) (h : RepC β X w c v) :
    RepC β' X' w' (c.ren ρ) v := by
 have h1 : RepC β (fun _ => False) w' c v := by cases c <;> first | exact h | (simp [C.flat] at hc)
 have h2 := RepC.ren (X := fun _ => False) (w := w') (X' := fun _ => False) (w' := w') (fun b o hb hx => ⟨hb, hx⟩) hρ h1
 have hcr : (c.ren ρ).flat = true := by
  cases c <;> first | rfl | (simp [C.flat] at hc; done) | (simp only [C.ren]; split <;> rfl)
 revert h2
 generalize c.ren ρ = d at hcr
 intro h2
 cases d <;> first | exact h2 | (simp [C.flat] at hcr)
theorem cell1_flat : ∀ (t : Ty) (x : t.El), t.flat = true → (cell1 t x).flat = true
 | .bool, _, _ => rfl
 | .int _, _, _ => rfl
 | .str, _, _ => rfl
 | .unit, _, _ => rfl
 | .pair _ _, _, _ => rfl
 | .arr _ _, _, _ => rfl
theorem CT.enc_flat : ∀ {ct : CT} {x : ct.El}, ct.flat = true → (ct.enc x).flat = true
 | .ty t, x, h => cell1_flat t x h
 | .con _, _, h => h
 | .fnv _, _, _ => rfl
 | .sbv _ _, _, _ => rfl
theorem CTs.enc_flat : ∀ {l : List CT} {x : CTs.El l}, l.all CT.flat = true → ∀ c ∈ CTs.enc l x, c.flat = true
 | [], _, _, c, hc => by simp [CTs.enc] at hc
 | ct :: r, x, h, c, hc => by
  simp only [List.all_cons, Bool.and_eq_true] at h
  simp only [CTs.enc, List.mem_cons] at hc
  rcases hc with rfl | hc
  ·exact CT.enc_flat h.1
  ·exact CTs.enc_flat h.2 c hc
theorem cellsOf_flat : ∀ (t : Ty) (x : t.El), t.flat = true → ∀ c ∈ cellsOf t x, c.flat = true
 | .bool, _, _, c, hc => by simp [cellsOf] at hc; subst hc; rfl
 | .int _, _, _, c, hc => by simp [cellsOf] at hc; subst hc; rfl
 | .str, _, _, c, hc => by simp [cellsOf] at hc; subst hc; rfl
 | .unit, _, _, c, hc => by simp [cellsOf] at hc
 | .pair a b, x, h, c, hc => by
  simp only [Ty.flat, Bool.and_eq_true] at h
  simp only [cellsOf, List.mem_append] at hc
  exact hc.elim (cellsOf_flat a _ h.1 c) (cellsOf_flat b _ h.2 c)
 | .arr n e, x, h, c, hc => by
  simp only [cellsOf, List.mem_flatMap] at hc
  obtain ⟨i, _, hi⟩ := hc
  exact cellsOf_flat e _ h c hi
def V.flat : V → Prop
 | .one c => c.flat = true
 | .agg cs => ∀ c ∈ cs, c.flat = true
 | .tup vs => ∀ v ∈ vs, match v with | .one c => c.flat = true | .agg cs => ∀ c ∈ cs, c.flat = true | _ => False
 | .undef => True
 | .top => False
theorem VT1.enc_flat {vt : VT1} {x : vt.El} (h : vt.flat = true) : match vt.enc x with | .one c => c.flat = true | .agg cs => ∀ c ∈ cs, c.flat = true | _ => False := by
 cases vt with
 | one ct => exact CT.enc_flat h
 | agg cts => exact CTs.enc_flat h
 | str t => exact cellsOf_flat t x h
theorem VT.enc_flat : ∀ {vt : VT} {x : vt.El}, vt.flat = true → (vt.enc x).flat
 | .v vt, x, h => by
  have := VT1.enc_flat (x := x) h
  simp only [VT.enc]
  revert this
  generalize vt.enc x = v
  cases v <;> first | exact id | exact False.elim
 | .tup l, x, h => by
  simp only [VT.enc, V.flat]
  have key : ∀ (l : List VT1) (x : VT1s.El l), l.all VT1.flat = true → ∀ v ∈ VT1s.enc l x, match v with | .one c => c.flat = true | .agg cs => ∀ c ∈ cs, c.flat = true | _ => False := by
   intro l
   induction l with
   | nil => intro x h v hv; simp [VT1s.enc] at hv
   | cons vt l ih =>
    intro x h v hv
    simp only [List.all_cons, Bool.and_eq_true] at h
    simp only [VT1s.enc, List.mem_cons] at hv
    rcases hv with rfl | hv
    ·exact VT1.enc_flat h.1
    ·exact ih x.2 h.2 v hv
  exact key l x h
 | .undef, _, _ => trivial
def Slot.flat : Slot → Prop
 | .box cs => ∀ c ∈ cs, c.flat = true
 | .bd _ c => c.flat = true
 | .mp k v _ _ => k.flat = true ∧ v.flat = true
 | .lst _ e _ => e.flat = true
 | .brow _ _ => True
 | .tb t _ => t.flat = true
theorem SS.enc_flat : ∀ {ss : SS} {x : ss.El}, ss.flat = true → (ss.enc x).flat
 | .box cts, x, h => CTs.enc_flat h
 | .bd _ ct, x, h => CT.enc_flat h
 | .mp k v _, x, h => by simp only [SS.flat, Bool.and_eq_true] at h; exact h
 | .str t, x, h => cellsOf_flat t x h
 | .lst _ _, _, h => h
 | .brow _, _, _ => trivial
 | .tb _, _, h => h
theorem SSs.enc_flat : ∀ {l : List SS} {x : SSs.El l}, l.all SS.flat = true → ∀ k s, nth (SSs.enc l x) k = some s → s.flat
 | [], _, _, k, s, h => by simp [SSs.enc, nth] at h
 | ss :: l, x, hf, 0, s, h => by
  simp only [List.all_cons, Bool.and_eq_true] at hf
  simp only [SSs.enc, nth, Option.some.injEq] at h; subst h
  exact SS.enc_flat hf.1
 | ss :: l, x, hf, k + 1, s, h => by
  simp only [List.all_cons, Bool.and_eq_true] at hf
  simp only [SSs.enc, nth] at h
  exact SSs.enc_flat hf.2 k s h
section
variable {β β' : Nat → Value} {X X' : Nat → Prop} {w w' : World} {ρ : Nat → Option Nat}
theorem All2.renF (hρ : ∀ k j, ρ k = some j → β' j = β k) : ∀ {cs : List C} {vs : List Value}, (∀ c ∈ cs, c.flat = true) → All2 (RepC β X w) cs vs → All2 (RepC β' X' w') (cs.map (C.ren ρ)) vs
 | [], [], _, _ => trivial
 | c :: cs, v :: vs, hc, ⟨h1, h2⟩ => ⟨RepC.renF hρ (hc c (List.mem_cons_self ..)) h1, All2.renF hρ (fun d hd => hc d (List.mem_cons_of_mem _ hd)) h2⟩
theorem RepV.renF (hρ : ∀ k j, ρ k = some j → β' j = β k) : ∀ {x : V} {v : Value}, x.flat → RepV β X w x v → RepV β' X' w' (x.map (C.ren ρ)) v
 | .one c, v, hf, h => RepC.renF hρ hf h
 | .agg cs, v, hf, ⟨vs, h, h1⟩ => ⟨vs, h, h1.renF hρ hf⟩
 | .undef, v, _, h => h
 | .tup xs, v, hf, ⟨us, h, h1⟩ => by
  refine ⟨us, h, ?_⟩
  clear h
  revert us
  simp only [V.flat] at hf
  induction xs with
  | nil => intro us h1; cases us with | nil => exact trivial | cons => exact h1.elim
  | cons x xs ih =>
   intro us h1
   cases us with
   | nil => exact h1.elim
   | cons u us =>
    refine ⟨?_, ih (fun v hv => hf v (List.mem_cons_of_mem _ hv)) us h1.2⟩
    have hx := hf x (List.mem_cons_self ..)
    have h2 := h1.1
    cases x with
    | one c => exact RepC.renF hρ hx h2
    | agg cs => obtain ⟨vs, e, h3⟩ := h2; exact ⟨vs, e, h3.renF hρ hx⟩
    | _ => exact hx.elim
theorem RepS.renF (hρ : ∀ k j, ρ k = some j → β' j = β k) : ∀ {s : Slot} {v : Value}, s.flat → RepS β X w s v → RepS β' X' w (s.map (C.ren ρ)) v
 | .box cs, v, hf, ⟨b, vs, el, fr, h1, h2, h3, h4⟩ => ⟨b, vs, el, fr, h1, h2, h3, h4.renF hρ hf⟩
 | .bd t c, v, hf, ⟨b, v0, v1, fr, h1, h2, h3, h4, h5⟩ => ⟨b, v0, v1, fr, h1, h2, h3, h4, RepC.renF hρ hf h5⟩
 | .mp k v ag es, u, hf, ⟨b, arr, h1, h2, h3, h4⟩ => ⟨b, arr, h1, h2, h3.mono fun _ _ ⟨g1, vs, g2, g3⟩ => ⟨Rep.flat k hf.1 g1, vs, Rep.flat v hf.2 g2, g3⟩, h4⟩
 | .tb t x, v, hf, ⟨b, vs, el, fr, h1, h2, h3, h4⟩ => ⟨b, vs, el, fr, h1, h2, h3, Rep.flat t hf h4⟩
 | .brow T xs, v, hf, h => h
 | .lst _ e xs, v, hf, h => by
  rcases h with h | ⟨b, cap, vals, el, fr, h1, h2, h3, h4, h5, h6⟩
  ·exact .inl h
  ·exact .inr ⟨b, cap, vals, el, fr, h1, h2, h3, h4, h5, fun i x hi => let ⟨us, hu, hc⟩ := h6 i x hi; ⟨us, Rep.flat e hf hu, hc⟩⟩
end
theorem call_sound (h : Rel cx F st β a w) {f : Nat} {args : List V} {vs : List Value} {pass news : List Nat} (hA : ∀ k ∈ news, F.fix k = none)
    (hv : RepVs β (XX F st β) w args vs) {ss : List Slot} (hss : slotsOf st pass = some ss) (hnd : nodupB (pass ++ news) = true) {r : V} {ss' : List Slot} {brw : List Nat}
    (hbl : ∀ k ∈ brw, ∃ fx e xs, st.slot k = some (.lst fx e xs)) (hbk : ∀ k ∈ brw, k ∉ pass ++ news) (hbf : brw = [] ∨ (r.flat ∧ ∀ k s, nth ss' k = some s → s.flat))
    (hΦ : Phi P cx f ((args.map (V.map (C.brw st brw))).map (V.map (C.ren fun k => posOf k pass 0))) (ss.map (Slot.map (C.ren fun k => posOf k pass 0))) r ss')
    (hlen : ss'.length = (pass ++ news).length) :
    Invk P f vs.toArray w fun e w' => ∃ v β', e = .returned v ∧ Rel cx F (afterCall st pass news ss') β' a w' ∧
     RepV β' (XX F (afterCall st pass news ss') β') w' (r.map (C.ren (nth (pass ++ news)))) v := by
 obtain ⟨hsl, hsn⟩ := slotsOf_spec hss
 have hndp := nodupB_left hnd
 -- the callee's names
 let β₀ : Nat → Value := fun i => match nth pass i with | some k => β k | none => .nilFunc
 have hβ₀ : ∀ i k, nth pass i = some k → β₀ i = β k := fun i k hi => by simp only [β₀, hi]
 let ssr := ss.map (Slot.map (C.ren fun k => posOf k pass 0))
 have hnthr : ∀ i s, nth ssr i = some s → ∃ k s0, nth pass i = some k ∧ st.slot k = some s0 ∧ s = s0.map (C.ren fun k => posOf k pass 0) := by
  intro i s hi
  simp only [ssr, nth_map] at hi
  obtain ⟨s0, h1, h2⟩ := Option.map_eq_some_iff.1 hi
  have hlt := nth_lt h1
  rw [hsl] at hlt
  have hk : nth pass i = some pass[i] := by rw [nth_get]; exact List.getElem?_eq_getElem hlt
  obtain ⟨s1, h3, h4⟩ := hsn i _ hk
  rw [h1] at h4; simp only [Option.some.injEq] at h4; subst h4
  exact ⟨_, s0, hk, h3, h2.symm⟩
 let X : Nat → Prop := fun b => XX F st β b ∧ (∀ k ∈ pass, blk (β k) ≠ some b) ∧ ∀ k ∈ brw, blk (β k) ≠ some b
 have hblk : ∀ b, blocksOf β₀ ssr b → ∃ k s0, k ∈ pass ∧ st.slot k = some s0 ∧ blk (β k) = some b := by
  rintro b ⟨i, s, hi, hb⟩
  obtain ⟨k, s0, h1, h2, _⟩ := hnthr i s hi
  rw [hβ₀ i k h1] at hb
  exact ⟨k, s0, nth_mem h1, h2, hb⟩
 have hblk' : ∀ k s0 b, k ∈ pass → st.slot k = some s0 → blk (β k) = some b → blocksOf β₀ ssr b := by
  intro k s0 b hk h1 h2
  obtain ⟨i, hi⟩ := List.mem_iff_getElem?.1 hk
  have hi' : nth pass i = some k := by rw [nth_get]; exact hi
  obtain ⟨s1, h3, h4⟩ := hsn i k hi'
  refine ⟨i, s1.map (C.ren fun k => posOf k pass 0), by simp only [ssr, nth_map, h4, Option.map_some], by rw [hβ₀ i k hi']; exact h2⟩
 have hYX : ∀ b, YY X β₀ ssr b → XX F st β b := by
  rintro b (hx | hx)
  ·exact hx.1
  ·obtain ⟨k, s0, _, h1, h2⟩ := hblk b hx
   exact .inr ⟨k, s0, h1, h2⟩
 have hfr0 : Fr (XX F st β) w (YY X β₀ ssr) w := fun b o hb hx => ⟨hb, fun hy => hx (hYX b hy)⟩
 have hρ0 : ∀ k i, posOf k pass 0 = some i → β₀ i = β k := fun k i hi => hβ₀ i k (by simpa using (posOf_nth hi).2)
 have hC0 : ∀ c v, RepC β (XX F st β) w c v → RepC β₀ (YY X β₀ ssr) w (c.ren fun k => posOf k pass 0) v := fun c v => RepC.ren hfr0 hρ0
 have hltX : ∀ b, XX F st β b → b < w.heap.size := by
  rintro b (hx | ⟨k, s, hk, hb⟩)
  ·exact Nat.lt_of_lt_of_le (h.outer b hx) h.sizes
  ·obtain ⟨o, ho⟩ := (h.slots k s hk).lt hb
   exact lt_of_heap ho
 have hCb : ∀ c v, RepC β (XX F st β) w c v → RepC β₀ (YY X β₀ ssr) w ((C.brw st brw c).ren fun k => posOf k pass 0) v := by
  intro c v hc
  have h0 := hC0 c v hc
  cases c <;> try exact h0
  rename_i k
  simp only [C.brw]
  cases hm : mem k brw
  ·exact h0
  ·simp only [cond_true]
   split
   ·rename_i e xs hsl
    have hkb := (mem_iff k brw).1 hm
    obtain ⟨rfl, _⟩ := hc
    rcases h.slots _ _ hsl with ⟨rfl, ad, hb⟩ | ⟨b, cap, vals, el, fr, hb, hb2, hth, hlc, hcap, hrow⟩
    ·exact ⟨ad, 0, by rw [hb]; rfl, Nat.le_refl _, .inl rfl⟩
    ·have hbk' : blk (β k) = some b := by rw [hb]; rfl
     refine ⟨_, _, by rw [hb], hlc, .inr ⟨b, 0, rfl, ?_, vals, el, fr, hb2, fun i x hi => ?_⟩⟩
     ·rintro (h0 | h0)
      ·exact h0.2.2 k hkb hbk'
      ·obtain ⟨k', s1, g1, g2, g3⟩ := hblk b h0
       have := h.inj k' k s1 _ b g2 hsl g3 hbk'
       subst this
       exact hbk _ hkb (List.mem_append_left _ g1)
     ·obtain ⟨us, h1, h2⟩ := hrow i x hi
      exact ⟨us, Rep.mono hfr0 e h1, by simpa using h2⟩
   ·exact h0
 have hmm : ∀ (xs : List V) {us : List Value}, RepVs β (XX F st β) w xs us → RepVs β₀ (YY X β₀ ssr) w ((xs.map (V.map (C.brw st brw))).map (V.map (C.ren fun k => posOf k pass 0))) us := by
  intro xs us hx
  have h1 := RepVs.map hCb xs hx
  have h2 : ∀ x : V, (x.map (C.brw st brw)).map (C.ren fun k => posOf k pass 0) = x.map fun c => (C.brw st brw c).ren fun k => posOf k pass 0 := by
   intro x
   exact V.map_map _ _ x
  rw [maps_map] at h1
  rw [List.map_map]
  have h3 : ((V.map (C.ren fun k => posOf k pass 0)) ∘ (V.map (C.brw st brw))) = V.map fun c => (C.brw st brw c).ren fun k => posOf k pass 0 := funext h2
  rw [h3]; exact h1
 have hpre : Pre cx X β₀ w ((args.map (V.map (C.brw st brw))).map (V.map (C.ren fun k => posOf k pass 0))) vs ssr := by
  refine ⟨fun b hb => hltX b hb.1, ?_, ?_, ?_, ?_, fun g t x hg => Rep.mono hfr0 (.ptr t) (h.glob g t x hg)⟩
  ·exact hmm args hv
  ·intro i s hi
   obtain ⟨k, s0, h1, h2, rfl⟩ := hnthr i s hi
   rw [hβ₀ i k h1]
   exact RepS.map hfr0 hC0 (fun _ _ _ hb => hb) (h.slots k s0 h2)
  ·intro i j s1 s2 b h1 h2 hb1 hb2
   obtain ⟨k1, t1, g1, g2, _⟩ := hnthr i s1 h1
   obtain ⟨k2, t2, g3, g4, _⟩ := hnthr j s2 h2
   rw [hβ₀ i k1 g1] at hb1; rw [hβ₀ j k2 g3] at hb2
   have := h.inj k1 k2 t1 t2 b g2 g4 hb1 hb2
   subst this
   have e1 := nth_posOf (n := 0) hndp g1
   have e2 := nth_posOf (n := 0) hndp g3
   rw [e1] at e2; simpa using e2
  ·intro b hb hx
   obtain ⟨k, s0, h1, h2, h3⟩ := hblk b hb
   exact hx.2.1 k h1 h3
 -- behind the call
 have after : ∀ v w' β', Ans X β₀ w ssr r ss' v w' β' → ∃ β'', Rel cx F (afterCall st pass news ss') β'' a w' ∧
     RepV β'' (XX F (afterCall st pass news ss') β'') w' (r.map (C.ren (nth (pass ++ news)))) v := by
  intro v w' β' A
  let keys := pass ++ news
  let β'' : Nat → Value := fun k => match posOf k keys 0 with | some i => β' i | none => β k
  let st' := afterCall st pass news ss'
  have hslot : ∀ k s, st'.slot k = some s → (∃ i s0, nth keys i = some k ∧ posOf k keys 0 = some i ∧ nth ss' i = some s0 ∧ s = s0.map (C.ren (nth keys))) ∨
      (k ∉ keys ∧ posOf k keys 0 = none ∧ ∃ s0, st.slot k = some s0 ∧ s = s0.map (C.ren (notKeys (news ++ lstKeys st pass)))) := by
   intro k s hk
   have : st'.slot k = look k (zipS keys (ss'.map (Slot.map (C.ren (nth keys)))) ++ (killAll (news ++ lstKeys st pass) (⟨st.regs, delAll keys st.slots⟩ : St)).slots) := rfl
   rw [this, look_zip keys _ _ 0 (by simp only [List.length_map]; exact hlen)] at hk
   cases hp : posOf k keys 0 with
   | some i =>
    rw [hp] at hk
    simp only [Nat.sub_zero, nth_map] at hk
    obtain ⟨s0, h1, h2⟩ := Option.map_eq_some_iff.1 hk
    exact .inl ⟨i, s0, by simpa using (posOf_nth hp).2, rfl, h1, h2.symm⟩
   | none =>
    rw [hp] at hk
    have hn := posOf_none.1 hp
    have h1 := St.slot_map (⟨st.regs, delAll keys st.slots⟩ : St) (C.ren (notKeys (news ++ lstKeys st pass))) k
    simp only [St.slot] at h1
    simp only [killAll] at hk
    rw [h1, look_delAll, if_neg hn] at hk
    obtain ⟨s0, h1, h2⟩ := Option.map_eq_some_iff.1 hk
    exact .inr ⟨hn, rfl, s0, h1, h2.symm⟩
  have hβs : ∀ k i, posOf k keys 0 = some i → β'' k = β' i := fun k i hi => by simp only [β'', hi]
  have hβn : ∀ k, posOf k keys 0 = none → β'' k = β k := fun k hi => by simp only [β'', hi]
  have hXY : ∀ b, XX F st' β'' b → YY X β' ss' b ∨ ∃ k ∈ brw, blk (β k) = some b := by
   rintro b (hx | ⟨k, s, hk, hb⟩)
   ·refine .inl (.inl ⟨.inl hx, fun k hk hbk => ?_, fun k hk hbk => ?_⟩)
    ·obtain ⟨i, hi⟩ := List.mem_iff_getElem?.1 hk
     obtain ⟨s1, h3, _⟩ := hsn i k (by rw [nth_get]; exact hi)
     exact (h.owned k s1 b h3 hbk).2 hx
    ·obtain ⟨fx, e, xs, h3⟩ := hbl k hk
     exact (h.owned k _ b h3 hbk).2 hx
   ·rcases hslot k s hk with ⟨i, s0, h1, h2, h3, _⟩ | ⟨h1, h2, s0, h3, _⟩
    ·rw [hβs k i h2] at hb
     exact .inl (.inr ⟨i, s0, h3, hb⟩)
    ·rw [hβn k h2] at hb
     by_cases hkb : ∃ k' ∈ brw, blk (β k') = some b
     ·exact .inr hkb
     refine .inl (.inl ⟨.inr ⟨k, s0, h3, hb⟩, fun k' hk' hbk => ?_, fun k' hk' hbk => hkb ⟨k', hk', hbk⟩⟩)
     obtain ⟨i, hi⟩ := List.mem_iff_getElem?.1 hk'
     obtain ⟨s1, h4, _⟩ := hsn i k' (by rw [nth_get]; exact hi)
     have := h.inj k' k s1 s0 b h4 h3 hbk hb
     subst this
     exact h1 (List.mem_append_left _ hk')
  have hfr1 : brw = [] → Fr (YY X β' ss') w' (XX F st' β'') w' := fun hnil b o hb hx => ⟨hb, fun hy => (hXY b hy).elim hx fun ⟨k, hk, _⟩ => by rw [hnil] at hk; cases hk⟩
  have hfr2 : Fr (XX F st β) w (XX F st' β'') w' := by
   intro b o hb hx
   refine ⟨A.frame b o hb fun hbo => ?_, fun hy => ?_⟩
   ·obtain ⟨k, s0, _, h2, h3⟩ := hblk b hbo
    exact hx (.inr ⟨k, s0, h2, h3⟩)
   ·rcases hXY b hy with (h1 | h1) | ⟨k, hk, h1⟩
    ·exact hx h1.1
    ·rcases (A.owned b h1).1 with h2 | h2
     ·obtain ⟨k, s0, _, h2, h3⟩ := hblk b h2
      exact hx (.inr ⟨k, s0, h2, h3⟩)
     ·have := lt_of_heap hb; omega
    ·obtain ⟨fx, e, xs, h3⟩ := hbl k hk
     exact hx (.inr ⟨k, _, h3, h1⟩)
  have hnth : ∀ i k, nth keys i = some k → β'' k = β' i := fun i k hi => hβs k i (by have := nth_posOf (n := 0) hnd hi; simpa using this)
  -- a passed box keeps its place
  have hold : ∀ k, k ∉ news → (∀ s0, st.slot k = some s0 → k ∈ pass → s0.fixd = true) → β'' k = β k := by
   intro k hk hbox
   cases hp : posOf k keys 0 with
   | none => exact hβn k hp
   | some i =>
    have hi : nth keys i = some k := by simpa using (posOf_nth hp).2
    have hmem : k ∈ pass := by
     rcases List.mem_append.1 (nth_mem hi) with h1 | h1
     ·exact h1
     ·exact absurd h1 hk
    obtain ⟨j, hj⟩ := List.mem_iff_getElem?.1 hmem
    have hj' : nth pass j = some k := by rw [nth_get]; exact hj
    obtain ⟨s1, h3, h4⟩ := hsn j k hj'
    have hfx := hbox s1 h3 hmem
    rw [hnth j k (nth_app hj'), A.keep j (s1.map (C.ren fun k => posOf k pass 0)) (by simp only [ssr, nth_map, h4, Option.map_some]) (by rw [Slot.fixd_map]; exact hfx), hβ₀ j k hj']
  have hdead : ∀ k j, notKeys (news ++ lstKeys st pass) k = some j → β'' j = β k := by
   intro k j hk
   simp only [notKeys] at hk
   cases hm : mem k (news ++ lstKeys st pass)
   ·rw [hm] at hk
    simp only [cond_false, Option.some.injEq] at hk
    subst hk
    have hn : k ∉ news ++ lstKeys st pass := fun hh => by rw [(mem_iff k _).2 hh] at hm; cases hm
    refine hold k (fun hh => hn (List.mem_append_left _ hh)) fun s0 hs0 hp => ?_
    cases s0 with
    | box cs => rfl
    | tb _ _ => rfl
    | bd _ _ => rfl
    | mp _ _ _ _ => rfl
    | lst fx e xs =>
     cases fx with
     | true => rfl
     | false =>
      refine absurd (List.mem_append_right _ ?_) hn
      clear hm hn
      have : ∀ l : List Nat, k ∈ l → k ∈ lstKeys st l := by
       intro l
       induction l with
       | nil => intro hh; cases hh
       | cons q l ih =>
        intro hh
        simp only [lstKeys]
        rcases List.mem_cons.1 hh with rfl | hh
        ·rw [hs0]; exact List.mem_cons_self ..
        ·split <;> (try split) <;>
         first | exact List.mem_cons_of_mem _ (ih hh) | exact ih hh
      exact this pass hp
    | brow T xs =>
     refine absurd (List.mem_append_right _ ?_) hn
     clear hm hn
     have : ∀ l : List Nat, k ∈ l → k ∈ lstKeys st l := by
      intro l
      induction l with
      | nil => intro hh; cases hh
      | cons q l ih =>
       intro hh
       simp only [lstKeys]
       rcases List.mem_cons.1 hh with rfl | hh
       ·rw [hs0]; exact List.mem_cons_self ..
       ·split <;> (try split) <;>
        first | exact List.mem_cons_of_mem _ (ih hh) | exact ih hh
     exact this pass hp
   ·rw [hm] at hk; simp at hk
  have hC2 : ∀ c v, RepC β (XX F st β) w c v → RepC β'' (XX F st' β'') w' (c.ren (notKeys (news ++ lstKeys st pass))) v := fun c v => RepC.ren hfr2 hdead
  have hVal : RepV β'' (XX F st' β'') w' (r.map (C.ren (nth keys))) v := by
   rcases hbf with hb | ⟨hb, _⟩
   ·exact RepV.map (fun c v => RepC.ren (hfr1 hb) hnth) r A.val
   ·exact RepV.renF hnth hb A.val
  have hNew : ∀ i s0, nth ss' i = some s0 → RepS β'' (XX F st' β'') w' (s0.map (C.ren (nth keys))) (β' i) := by
   intro i s0 hi
   rcases hbf with hb | ⟨_, hb⟩
   ·exact RepS.map (hfr1 hb) (fun c v => RepC.ren (hfr1 hb) hnth) (fun _ _ _ hb => hb) (A.slots i s0 hi)
   ·exact RepS.renF hnth (hb i s0 hi) (A.slots i s0 hi)
  have hpassed : ∀ k s0 b, k ∉ keys → st.slot k = some s0 → blk (β k) = some b → ¬blocksOf β₀ ssr b := by
   intro k s0 b hk h1 h2 hbo
   obtain ⟨k', s1, g1, g2, g3⟩ := hblk b hbo
   have := h.inj k' k s1 s0 b g2 h1 g3 h2
   subst this
   exact hk (List.mem_append_left _ g1)
  refine ⟨β'', ⟨h.defers, h.size, ?_, ?_, ?_, fun g t x hg => Rep.mono hfr2 (.ptr t) (h.glob g t x hg), ?_, ?_, Nat.le_trans h.sizes A.size, h.outer, ?_, h.same.trans A.same⟩, hVal⟩
  ·intro t v' ht
   have e : st'.regs = ((⟨st.regs, delAll keys st.slots⟩ : St).map (C.ren (notKeys (news ++ lstKeys st pass)))).regs := rfl
   rw [e, St.look_map] at ht
   obtain ⟨v0, h1, h2⟩ := Option.map_eq_some_iff.1 ht
   subst h2
   exact RepV.map hC2 v0 (h.regs t v0 h1)
  ·intro k s hk
   rcases hslot k s hk with ⟨i, s0, h1, h2, h3, rfl⟩ | ⟨h1, h2, s0, h3, rfl⟩
   ·rw [hβs k i h2]
    exact hNew i s0 h3
   ·rw [hβn k h2]
    exact RepS.map hfr2 hC2 (fun b o hb ho => A.frame b o ho (hpassed k s0 b h1 h3 hb)) (h.slots k s0 h3)
  ·intro k1 k2 s1 s2 b g1 g2 hb1 hb2
   have mix : ∀ i k s0 t0, nth ss' i = some t0 → blk (β' i) = some b → k ∉ keys → st.slot k = some s0 → blk (β k) = some b → False := by
    intro i k s0 t0 e1 e2 e3 e4 e5
    rcases (A.owned b ⟨i, t0, e1, e2⟩).1 with e6 | e6
    ·exact hpassed k s0 b e3 e4 e5 e6
    ·obtain ⟨o, ho⟩ := (h.slots k s0 e4).lt e5
     have := lt_of_heap ho; omega
   rcases hslot k1 s1 g1 with ⟨i, t1, h1, h2, h3, _⟩ | ⟨h1, h2, t1, h3, _⟩ <;> rcases hslot k2 s2 g2 with ⟨j, t2, e1, e2, e3, _⟩ | ⟨e1, e2, t2, e3, _⟩
   ·rw [hβs k1 i h2] at hb1; rw [hβs k2 j e2] at hb2
    have := A.inj i j t1 t2 b h3 e3 hb1 hb2
    subst this
    rw [h1] at e1; simpa using e1
   ·rw [hβs k1 i h2] at hb1; rw [hβn k2 e2] at hb2
    exact (mix i k2 t2 t1 h3 hb1 e1 e3 hb2).elim
   ·rw [hβn k1 h2] at hb1; rw [hβs k2 j e2] at hb2
    exact (mix j k1 t1 t2 e3 hb2 h1 h3 hb1).elim
   ·rw [hβn k1 h2] at hb1; rw [hβn k2 e2] at hb2
    exact h.inj k1 k2 t1 t2 b h3 e3 hb1 hb2
  ·intro b o hb ho
   refine A.frame b o (h.frame b o hb ho) fun hbo => ?_
   obtain ⟨k, s0, _, g2, g3⟩ := hblk b hbo
   rcases (h.owned k s0 b g2 g3).1 with h1 | h1
   ·exact ho h1
   ·have := lt_of_heap hb; omega
  ·intro k s b hk hb
   rcases hslot k s hk with ⟨i, s0, h1, h2, h3, _⟩ | ⟨h1, h2, s0, h3, _⟩
   ·rw [hβs k i h2] at hb
    rcases (A.owned b ⟨i, s0, h3, hb⟩).1 with e | e
    ·obtain ⟨k', t0, _, g2, g3⟩ := hblk b e
     exact h.owned k' t0 b g2 g3
    ·refine ⟨.inr (Nat.le_trans h.sizes e), fun hx => ?_⟩
     have := h.outer b hx; have := h.sizes; omega
   ·rw [hβn k h2] at hb
    exact h.owned k s0 b h3 hb
  ·intro k v' hk
   have hkn : k ∉ news := fun hh => by rw [hA k hh] at hk; cases hk
   have hbox : ∀ s0, st.slot k = some s0 → k ∈ pass → s0.fixd = true := fun s0 hs0 _ => (h.fix k v' hk).2 s0 hs0
   refine ⟨by rw [hold k hkn hbox]; exact (h.fix k v' hk).1, fun s' he => ?_⟩
   rcases hslot k _ he with ⟨i, s0, h1, h2, h3, rfl⟩ | ⟨h1, h2, s0, h3, rfl⟩
   ·have hmem : k ∈ pass := by
     rcases List.mem_append.1 (nth_mem h1) with h1 | h1
     ·exact h1
     ·exact absurd h1 hkn
    obtain ⟨j, hj⟩ := List.mem_iff_getElem?.1 hmem
    have hj' : nth pass j = some k := by rw [nth_get]; exact hj
    obtain ⟨s1, g3, g4⟩ := hsn j k hj'
    have hfx := hbox s1 g3 hmem
    have hij : i = j := by
     have e1 := nth_posOf (n := 0) hnd (nth_app (m := news) hj')
     rw [show posOf k (pass ++ news) 0 = some i from h2] at e1; simpa using e1
    subst hij
    rw [Slot.fixd_map]
    exact A.kind i (s1.map (C.ren fun k => posOf k pass 0)) (by simp only [ssr, nth_map, g4, Option.map_some]) (by rw [Slot.fixd_map]; exact hfx) s0 h3
   ·rw [Slot.fixd_map]; exact (h.fix k v' hk).2 s0 h3
 rcases hΦ X β₀ w vs hpre with ⟨h1, h2⟩ | ⟨v, w', h1, v', β', he, A⟩
 ·refine .inl ⟨h1, h2.mono ?_⟩
  rintro e w' ⟨v, β', rfl, A⟩
  obtain ⟨β'', h3, h4⟩ := after v w' β' A
  exact ⟨v, β'', rfl, h3, h4⟩
 ·cases he
  obtain ⟨β'', h3, h4⟩ := after v w' β' A
  exact .inr ⟨v, w', h1, v, β'', rfl, h3, h4⟩
end
end Go.AM
/- Soundness: one operation, regions in order, code, functions. -/
set_option linter.unusedSimpArgs false
set_option linter.unusedVariables false
namespace Go.AM
open Go
section
variable {P : Program} {cx : Cx} {F : Fm} {st : St} {β : Nat → Value} {a : Act} {w : World} {o : Oper}
theorem evI_sound (T : TOk P cx) (h : Rel cx F st β a w) {an : Ann} (hA : AnnFix F an) (hc : ∀ c, o.op ≠ .call c) : Sound P cx F a w (execOp a.eval o) (evI cx o.op an st) := by
 cases ho : o.op with
 | move x => exact sound_move h hA (.inl ho) _ (.inl rfl)
 | assign x => exact sound_move h hA (.inr ho) _ (.inr rfl)
 | pick c x y => exact sound_pick h ho
 | nilCheck x => exact sound_nilCheck h ho
 | binOp op t x y u => exact sound_binOp T h ho
 | unOp op t x => exact sound_unOp h ho
 | convert s d x => exact sound_convert T h hA ho
 | makeFunc f first caps =>
  cases f with
  | func f => exact sound_makeFunc h ho
  | _ => exact fun hs => False.elim hs
 | extract x i => exact sound_extract h ho
 | field t x f => exact sound_field T h ho
 | index t x i => exact sound_index T h ho
 | slice t x lo hi mx =>
  cases mx with
  | none => exact sound_slice T h ho
  | some m => exact fun hs => False.elim hs
 | indexAddr t x i => exact sound_indexAddr T h ho
 | fieldAddr t x f => exact sound_fieldAddr T h ho
 | load t x => exact sound_load T h ho
 | store t x y => exact sound_store T h ho
 | alloc t => exact sound_alloc T h hA ho
 | box t x => exact sound_box T h hA ho
 | build t ps => exact sound_build T h ho
 | buildSlice t n ps => exact sound_buildSlice T h hA ho
 | makeSlice t l c => exact sound_makeSlice T h hA ho
 | makeMap t r =>
  cases r with
  | none => exact sound_makeMap T h hA ho
  | some m => exact fun hs => False.elim hs
 | lookup t m x cok => exact sound_lookup T h ho
 | mapUpdate t m x y => exact sound_mapUpdate T h ho
 | call c => exact absurd ho (hc c)
 | _ => exact fun hs => False.elim hs
def QC (cx : Cx) (F : Fm) (Q : Exit → St → Prop) : Exit → Act → World → Prop := fun e a w => ∃ st β, Q e st ∧ Rel cx F st β a w
theorem args_rep (h : Rel cx F st β a w) : ∀ (l : List Operand), RepVs β (XX F st β) w (l.map (st.eval cx)) (l.map a.eval)
 | [] => trivial
 | x :: l => ⟨h.eval x, args_rep h l⟩
theorem RepVs.append {X : Nat → Prop} : ∀ {xs ys : List V} {us vs : List Value}, RepVs β X w xs us → RepVs β X w ys vs → RepVs β X w (xs ++ ys) (us ++ vs)
 | [], _, [], _, _, h => h
 | _ :: _, _, _ :: _, _, ⟨h1, h2⟩, h => ⟨h1, RepVs.append h2 h⟩
 | [], _, _ :: _, _, h, _ => h.elim
 | _ :: _, _, [], _, h, _ => h.elim
theorem SSs.enc_length : ∀ (l : List SS) (x : SSs.El l), (SSs.enc l x).length = l.length
 | [], _ => rfl
 | s :: r, x => by simp [SSs.enc, SSs.enc_length r x.2]
theorem op_sound (T : TOk P cx) (h : Rel cx F st β a w) {an : Ann} (hA : AnnFix F an) {κ : V → St → Prop} {next : Act → World → Prop} {Q : Exit → Act → World → Prop}
    (hw : wpOp cx (Phi P cx) o an st κ) (hn : ∀ v st' β' w' u, κ v st' → Rel cx F st' β' a w' → RepV β' (XX F st' β') w' v u → next (a.put o.dst u) w') :
    o.wp P a w next Q := by
 have gives : ∀ {v : Value} {w' : World}, Gives P (execOp a.eval o) w v w' → next (a.put o.dst v) w' → o.wp P a w next Q := by
  intro v w' hg hnx
  unfold Oper.wp
  rcases hg with hg | ⟨hg, rfl⟩
  ·rw [hg]; exact hnx
  ·rw [hg]; exact hnx
 by_cases hc : ∃ c, o.op = .call c
 ·obtain ⟨c, hc⟩ := hc
  unfold wpOp at hw
  rw [hc] at hw
  simp only at hw
  cases hcal : c.callee with
  | invoke x m => rw [hcal] at hw; exact hw.elim
  | builtin b =>
   rw [hcal] at hw
   simp only at hw
   obtain ⟨hs, hk⟩ := Side.and_iff hw
   have hexec : ∀ {v : Value} {w' : World} {s : Sem Value}, (∀ cs, builtin b c.argTypes o.type cs (c.args.map a.eval) = (do pure (.value (← s)))) → s.run P w = .ok v w' →
       Gives P (execOp a.eval o) w v w' := by
    intro v w' s hb hs
    left
    simp only [execOp, hc, resolve, hcal, pure_bind, invoke]
    refine (congrArg (fun q => Sem.run P q w) (hb _)).trans ?_
    simp only [Sem.run_bind, hs]; rfl
   have hargs := args_rep (cx := cx) h c.args.toList
   generalize hxs : c.args.toList.map (st.eval cx) = xs at hs hk hargs
   have hvs : c.args.map a.eval = (c.args.toList.map a.eval).toArray := by apply Array.ext'; simp
   generalize hus : c.args.toList.map a.eval = us at hargs hvs
   generalize htys : c.argTypes.toList = tys at hs hk
   have htys' : c.argTypes = tys.toArray := by rw [← htys]
   rw [hvs] at hexec
   cases b <;> try exact False.elim hs
   case append =>
    rcases tys with _ | ⟨t, _ | ⟨u, _ | ⟨t3, tys⟩⟩⟩ <;> rcases xs with _ | ⟨x, _ | ⟨y, _ | ⟨x3, xs⟩⟩⟩ <;> try exact False.elim hs
    match us, hargs with
    | [vx, vy], hargs =>
     obtain ⟨v, β', w', h1, h2, h3⟩ := sound_append (ty := o.type) T h hA hargs.1 hargs.2.1 hs
     exact gives (hexec (s := Builtin.append_ #[t, u] o.type #[vx, vy]) (fun cs => by rw [htys']; rfl) h1) (hn _ _ _ _ _ hk h2 h3)
   case len =>
    rcases tys with _ | ⟨t, tys⟩ <;> rcases xs with _ | ⟨x, _ | ⟨y, xs⟩⟩ <;> try exact False.elim hs
    match us, hargs with
    | [vx], hargs =>
     obtain ⟨v, β', w', h1, h2, h3⟩ := sound_len (ty := o.type) T h htys hargs.1 hs
     exact gives (hexec (s := Builtin.len_ c.argTypes o.type #[vx]) (fun cs => rfl) h1) (hn _ _ _ _ _ hk h2 h3)
   case clear =>
    rcases tys with _ | ⟨t, _ | ⟨u, tys⟩⟩ <;> rcases xs with _ | ⟨x, _ | ⟨y, xs⟩⟩ <;> try exact False.elim hs
    match us, hargs with
    | [vx], hargs =>
     obtain ⟨v, β', w', h1, h2, h3⟩ := sound_clear (ty := o.type) T h htys hargs.1 hs
     exact gives (hexec (s := Builtin.clear_ c.argTypes o.type #[vx]) (fun cs => rfl) h1) (hn _ _ _ _ _ hk h2 h3)
   case copy =>
    rcases tys with _ | ⟨t, tys⟩ <;> rcases xs with _ | ⟨x, _ | ⟨y, _ | ⟨x3, xs⟩⟩⟩ <;> try exact False.elim hs
    match us, hargs with
    | [vx, vy], hargs =>
     obtain ⟨v, β', w', h1, h2, h3⟩ := sound_copy (ty := o.type) T h htys hargs.1 hargs.2.1 hs
     exact gives (hexec (s := Builtin.copy_ c.argTypes o.type #[vx, vy]) (fun cs => rfl) h1) (hn _ _ _ _ _ hk h2 h3)
   case min =>
    rcases xs with _ | ⟨x, _ | ⟨y, _ | ⟨x3, xs⟩⟩⟩ <;> try exact False.elim hs
    match us, hargs with
    | [vx, vy], hargs =>
     obtain ⟨v, β', w', h1, h2, h3⟩ := sound_min (ty := o.type) (arr := c.argTypes) h hargs.1 hargs.2.1 hs
     exact gives (hexec (s := Builtin.min_ c.argTypes o.type #[vx, vy]) (fun cs => rfl) h1) (hn _ _ _ _ _ hk h2 h3)
  | value f =>
   rw [hcal] at hw
   simp only at hw
   have core : ∀ (g : Nat) (caps pass news brw : List Nat) (rt : VT) (sss : List SS), st.eval cx f = .one (.fn g caps) → (∀ k ∈ news, F.fix k = none) →
       wpCall (Phi P cx) st g (c.args.toList.map (st.eval cx) ++ caps.map fun k => V.one (.ref k 0)) pass news brw rt sss κ → o.wp P a w next Q := by
    intro g caps pass news brw rt sss hf hnews hw
    have hfv := h.eval f
    rw [hf] at hfv
    obtain ⟨hcaps, hfe⟩ := hfv
    have hrep : RepVs β (XX F st β) w (c.args.toList.map (st.eval cx) ++ caps.map fun k => V.one (.ref k 0)) (c.args.toList.map a.eval ++ caps.map β) := by
     refine (args_rep h _).append ?_
     clear hw hfe hf
     induction caps with
     | nil => exact trivial
     | cons k caps ih =>
      obtain ⟨b, hb⟩ := hcaps k (List.mem_cons_self ..)
      exact ⟨⟨b, hb, hb⟩, ih fun j hj => hcaps j (List.mem_cons_of_mem _ hj)⟩
    unfold wpCall at hw
    split at hw
    ·rename_i ss hss hnd
     obtain ⟨x, y, hΦ, hk⟩ := hw
     simp only [Bool.and_eq_true, beq_iff] at hnd
     obtain ⟨⟨hnd, hln⟩, hbo⟩ := hnd
     have hb3 : (∀ k ∈ brw, ∃ fx e xs, st.slot k = some (.lst fx e xs)) ∧ (∀ k ∈ brw, k ∉ pass ++ news) ∧ (brw = [] ∨ ((rt.enc x).flat ∧ ∀ k s, nth (SSs.enc sss y) k = some s → s.flat)) := by
      unfold brwOk at hbo
      split at hbo
      ·exact ⟨fun k hk => (by cases hk), fun k hk => (by cases hk), .inl rfl⟩
      ·simp only [Bool.and_eq_true] at hbo
       obtain ⟨h1, h2, h3⟩ := hbo
       refine ⟨fun k hk => ?_, fun k hk => ?_, .inr ⟨VT.enc_flat h1, SSs.enc_flat h2⟩⟩
       ·have := List.all_eq_true.1 h3 k hk
        simp only [Bool.and_eq_true] at this
        have h4 := this.1
        unfold isLst at h4
        split at h4
        ·rename_i fx e xs hsl; exact ⟨fx, e, xs, hsl⟩
        ·cases h4
       ·have := List.all_eq_true.1 h3 k hk
        simp only [Bool.and_eq_true, Bool.not_eq_true'] at this
        intro hm
        have h4 := this.2
        rw [(mem_iff k _).2 hm] at h4; cases h4
     have hlen : (SSs.enc sss y).length = (pass ++ news).length := by rw [← hln, SSs.enc_length]
     have hexec : (execOp a.eval o) = callFunc g (c.args.toList.map a.eval ++ caps.map β).toArray := by
      simp only [execOp, hc, resolve, hcal, hfe, Deferred.ofValue, pure_bind, invoke]
      congr 1
      apply Array.ext'; simp
     unfold Oper.wp
     rw [hexec]
     rcases call_sound h hnews hrep hss hnd hb3.1 hb3.2.1 hb3.2.2 hΦ hlen with ⟨h1, h2⟩ | ⟨v, w', h1, v', β', he, h2, h3⟩
     ·rw [h1]
      refine h2.mono ?_
      rintro e w' ⟨v, β', rfl, h3, h4⟩
      exact hn _ _ _ _ _ hk h3 h4
     ·rw [h1]
      cases he
      exact hn _ _ _ _ _ hk h2 h3
    ·exact hw.elim
   split at hw
   ·rename_i g caps pass news brw rt sss fx hf
    exact core g caps pass news brw rt sss hf hA hw
   ·exact hw.elim
 ·have hc' : ∀ c, o.op ≠ .call c := fun c e => hc ⟨c, e⟩
  have hs : (evI cx o.op an st).side.holds ∧ κ (evI cx o.op an st).val (evI cx o.op an st).st := by
   unfold wpOp at hw
   split at hw
   ·rename_i c hh; exact absurd hh (hc' c)
   ·exact Side.and_iff hw
  obtain ⟨v, β', w', hg, hr, hv⟩ := evI_sound T h hA hc' hs.1
  exact gives hg (hn _ _ _ _ _ hs.2 hr hv)
theorem yielded_spec (h : Rel cx F st β a w) {ops : Array Oper} {j t : Nat} (hj : (ops[j]?).bind (·.dst) = some t) (ht : t < F.n) {b : Bool} (hb : st.get t = .one (.bool b)) :
    yielded ops a.tmps j = some b := by
 have hv := h.get t
 rw [hb] at hv
 have hv' : a.tmps.getD t Go.undef = .bool b := hv
 have hlt : t < a.tmps.size := by rw [h.size]; exact ht
 unfold yielded
 rw [hj]
 simp only [Option.bind_some]
 have : a.tmps[t]? = some (.bool b) := by
  rw [← hv']; simp [Array.getD, hlt]
 rw [this]
theorem yielded_undef (h : Rel cx F st β a w) {ops : Array Oper} {j t : Nat} (hj : (ops[j]?).bind (·.dst) = some t) (ht : t < F.n) (hb : st.get t = .undef) :
    yielded ops a.tmps j = none := by
 have hv := h.get t
 rw [hb] at hv
 have hv' : a.tmps.getD t Go.undef = Go.undef := hv
 have hlt : t < a.tmps.size := by rw [h.size]; exact ht
 unfold yielded
 rw [hj]
 simp only [Option.bind_some]
 have : a.tmps[t]? = some Go.undef := by
  rw [← hv']; simp [Array.getD, hlt]
 rw [this]; rfl
def opsOk (n : Nat) (ops : List Oper) : Bool := ops.all fun o => match o.dst with | some t => Nat.blt t n | none => true
theorem opsOk_spec {n : Nat} {ops : List Oper} (h : opsOk n ops = true) : ∀ o ∈ ops, ∀ t, o.dst = some t → t < n := by
 intro o ho t ht
 have := List.all_eq_true.1 h o ho
 rw [ht] at this
 exact Nat.le_of_ble_eq_true this
def AnOk1 (F : Fm) (p : List Ghost × Ann) : Prop := (∀ g ∈ p.1, GhFix F g) ∧ AnnFix F p.2
theorem ops_sound (T : TOk P cx) {ops : Array Oper} {Q : Exit → St → Prop} (hd : ∀ o ∈ ops.toList, ∀ t, o.dst = some t → t < F.n) :
    ∀ (l : List Oper) (as : List (List Ghost × Ann)) (i : Nat) (st : St) (β : Nat → Value) (a : Act) (w : World), ops.toList.drop i = l → (∀ p ∈ as, AnOk1 F p) → Rel cx F st β a w →
     wpOpsA cx (Phi P cx) ops Q l as st → wpOps P ops (QC cx F Q) (List.range' i l.length) a w
 | [], as, i, st, β, a, w, _, _, h, hw => by
  simp only [wpOpsA] at hw
  exact ⟨st, β, hw, h⟩
 | o :: l, [], i, st, β, a, w, _, _, h, hw => hw.elim
 | o :: l, (gs, an) :: as, i, st, β, a, w, hdrop, has, h, hw => by
  have hoi : ops[i]? = some o := by
   have : (ops.toList.drop i)[0]? = some o := by rw [hdrop]; rfl
   simpa using this
  have hmem : o ∈ ops.toList := by
   have : o ∈ ops.toList.drop i := by rw [hdrop]; exact List.mem_cons_self ..
   exact List.mem_of_mem_drop this
  have hdst := hd o hmem
  have hdrop' : ops.toList.drop (i + 1) = l := by
   rw [← List.drop_drop, hdrop]; rfl
  have hok := has (gs, an) (List.mem_cons_self ..)
  have has' : ∀ p ∈ as, AnOk1 F p := fun p hp => has p (List.mem_cons_of_mem _ hp)
  simp only [wpOpsA] at hw
  split at hw
  ·exact hw.elim
  ·rename_i st1 hg
   obtain ⟨β1, h1⟩ := ghosts_sound gs h hok.1 hg
   have run : ∀ (st2 : St), Rel cx F st2 β1 a w → wpOp cx (Phi P cx) o an st2 (fun v st' => wpOpsA cx (Phi P cx) ops Q l as (st'.put o.dst v)) →
       o.wp P a w (wpOps P ops (QC cx F Q) (List.range' (i + 1) l.length)) (QC cx F Q) := by
    intro st2 h2 hw
    exact op_sound T h2 hok.2 hw fun v st' β' w' u hk hr hv => ops_sound T hd l as (i + 1) _ β' _ w' hdrop' has' (hr.put hdst hv) hk
   have skip : ∀ (st2 : St), Rel cx F st2 β1 a w → wpOpsA cx (Phi P cx) ops Q l as (st2.put o.dst .undef) →
       wpOps P ops (QC cx F Q) (List.range' (i + 1) l.length) (a.put o.dst Go.undef) w := by
    intro st2 h2 hw
    exact ops_sound T hd l as (i + 1) _ β1 _ w hdrop' has' (h2.put hdst (show RepV β1 _ w .undef Go.undef from rfl)) hw
   rw [List.length_cons, List.range'_succ]
   simp only [wpOps, hoi]
   split at hw
   ·rename_i hgd
    have : Region.wanted o (yielded ops a.tmps) = true := by simp [Region.wanted, hgd]
    rw [if_pos this]
    exact .inl (run st1 h1 hw)
   ·rename_i j want hgd
    split at hw
    ·exact hw.elim
    ·rename_i t ht
     have htn : t < F.n := by
      cases hoj : ops[j]? with
      | none => rw [hoj] at ht; cases ht
      | some oj =>
       rw [hoj] at ht
       exact hd oj (by rw [Array.mem_toList_iff]; exact Array.mem_of_getElem? hoj) t ht
     split at hw
     ·rename_i b hb
      have hy := yielded_spec h1 ht htn hb
      have hk1 : ∀ c, c = b → Rel cx F (st1.put (some t) (.one (.bool c))) β1 a w := by
       rintro c rfl
       refine h1.know ?_
       have := h1.get t
       rw [hb] at this; exact this
      cases want
      ·cases b
       ·have : Region.wanted o (yielded ops a.tmps) = true := by simp [Region.wanted, hgd, hy]
        rw [if_pos this]
        exact .inl (run _ (hk1 false rfl) hw)
       ·have : ¬ Region.wanted o (yielded ops a.tmps) = true := by simp [Region.wanted, hgd, hy]
        rw [if_neg this]
        exact skip _ (hk1 true rfl) hw
      ·cases b
       ·have : ¬ Region.wanted o (yielded ops a.tmps) = true := by simp [Region.wanted, hgd, hy]
        rw [if_neg this]
        exact skip _ (hk1 false rfl) hw
       ·have : Region.wanted o (yielded ops a.tmps) = true := by simp [Region.wanted, hgd, hy]
        rw [if_pos this]
        exact .inl (run _ (hk1 true rfl) hw)
     ·rename_i hb
      have hy := yielded_undef h1 ht htn hb
      have : ¬ Region.wanted o (yielded ops a.tmps) = true := by simp [Region.wanted, hgd, hy]
      rw [if_neg this]
      exact skip _ h1 hw
     ·exact hw.elim
end
end Go.AM
/- Regions that draw their order: operations that change no slot. -/
set_option linter.unusedSimpArgs false
set_option linter.unusedVariables false
namespace Go.AM
open Go
def Res.out (r : Res) : Side × V := (r.side, r.val)
theorem evI_still_st (cx : Cx) (op : Op) (st : St) (h : still op = true) : (evI cx op .no st).st = st := by
 unfold still at h
 split at h <;> first | (cases h; done) | skip
 all_goals (try simp only [evI])
 all_goals (try (repeat' split))
 all_goals (first | rfl | skip)
 all_goals (try contradiction)
 all_goals (try simp only [Bool.cond_eq_ite])
 all_goals (try (repeat' split))
 all_goals (first | rfl | contradiction | skip)
theorem tailOf_congr {st st' : St} (hs : st.slots = st'.slots) (ty : Ty) (v : V) : tailOf st ty v = tailOf st' ty v := by
 unfold tailOf St.slot; rw [hs]
theorem readAt_congr {st st' : St} (hs : st.slots = st'.slots) (v : V) (n : Nat) : readAt st v n = readAt st' v n := by
 unfold readAt St.slot; rw [hs]
theorem slot_congr {st st' : St} (hs : st.slots = st'.slots) (k : Nat) : st.slot k = st'.slot k := by unfold St.slot; rw [hs]
theorem evI_congr (cx : Cx) (op : Op) (st st' : St) (h : still op = true) (he : ∀ x ∈ op.operands, st.eval cx x = st'.eval cx x) (hs : st.slots = st'.slots) :
    (evI cx op .no st).out = (evI cx op .no st').out := by
 have h1 := tailOf_congr hs
 have h2 := readAt_congr hs
 have h3 := slot_congr hs
 unfold still at h
 split at h <;> first | (cases h; done) | skip
 all_goals (simp only [Op.operands] at he)
 case _ x => rw [show evI cx (.move x) .no st = ok st (st.eval cx x) from rfl, show evI cx (.move x) .no st' = ok st' (st'.eval cx x) from rfl, he x (by simp)]; rfl
 case _ x => rw [show evI cx (.assign x) .no st = ok st (st.eval cx x) from rfl, show evI cx (.assign x) .no st' = ok st' (st'.eval cx x) from rfl, he x (by simp)]; rfl
 case _ c x y => simp only [evI, he c (by simp), he x (by simp), he y (by simp)]; (repeat' split) <;> rfl
 case _ x => simp only [evI, he x (by simp)]; (repeat' split) <;> rfl
 case _ x y _ => simp only [evI, he x (by simp), he y (by simp)]; rfl
 case _ x => simp only [evI, he x (by simp)]; rfl
 case _ x =>
  simp only [evI, he x (by simp), h1, Bool.cond_eq_ite]
  (repeat' split) <;> first | rfl | contradiction
 case _ f first caps =>
  have e1 : caps.toList.map (st.eval cx) = caps.toList.map (st'.eval cx) := List.map_congr_left fun x hx => he x (by simp at hx ⊢; exact .inr hx)
  cases f <;> first | rfl | skip
  simp only [evI, e1]; (repeat' split) <;> rfl
 case _ x i => simp only [evI, he x (by simp)]; (repeat' split) <;> rfl
 case _ t x f => simp only [evI, he x (by simp), Bool.cond_eq_ite]; (repeat' split) <;> rfl
 case _ t x i => simp only [evI, he x (by simp), he i (by simp)]; (repeat' split) <;> rfl
 case _ t x lo hi =>
  have e1 : lo.map (st.eval cx) = lo.map (st'.eval cx) := by
   cases lo with
   | none => rfl
   | some y => simp only [Option.map_some]; rw [he y (by simp)]
  have e2 : hi.map (st.eval cx) = hi.map (st'.eval cx) := by
   cases hi with
   | none => rfl
   | some y => simp only [Option.map_some]; rw [he y (by simp)]
  simp only [evI, he x (by simp), e1, e2, h3, Bool.cond_eq_ite]; (repeat' split) <;> rfl
 case _ t x i => simp only [evI, he x (by simp), he i (by simp), h3, Bool.cond_eq_ite]; (repeat' split) <;> rfl
 case _ t x f => simp only [evI, he x (by simp), Bool.cond_eq_ite]; (repeat' split) <;> rfl
 case _ t x => simp only [evI, he x (by simp), h2, Bool.cond_eq_ite]; (repeat' split) <;> rfl
 case _ t parts =>
  have e1 : (parts.toList.map fun p => (p.1, st.eval cx p.2)) = parts.toList.map fun p => (p.1, st'.eval cx p.2) := List.map_congr_left fun p hp => by
   rw [he p.2 (by simp; exact ⟨p.1, by simpa using hp⟩)]
  simp only [evI, e1]; (repeat' split) <;> rfl
 case _ t n parts =>
  have e1 : (parts.toList.map fun p => (p.1, st.eval cx p.2)) = parts.toList.map fun p => (p.1, st'.eval cx p.2) := List.map_congr_left fun p hp => by
   rw [he p.2 (by simp; exact ⟨p.1, by simpa using hp⟩)]
  simp only [evI, e1, Bool.cond_eq_ite]; (repeat' split) <;> rfl
end Go.AM
/- Regions that draw their order: every order ends as the text's order does. -/
set_option linter.unusedSimpArgs false
set_option linter.unusedVariables false
namespace Go.AM
open Go
theorem pairsFrom_spec {ops : Array Oper} {i : Nat} {oi : Oper} : ∀ {l : List Oper} {j : Nat}, pairsFrom ops i oi j l = true → ∀ {k : Nat} {o : Oper}, l[k]? = some o → pairOk ops i oi (j + k) o = true
 | [], j, _, k, o, h => by simp at h
 | x :: l, j, hp, 0, o, h => by
  simp only [pairsFrom, Bool.and_eq_true] at hp
  simp at h; subst h; exact hp.1
 | x :: l, j, hp, k + 1, o, h => by
  simp only [pairsFrom, Bool.and_eq_true] at hp
  have := pairsFrom_spec hp.2 (k := k) (o := o) (by simpa using h)
  rwa [show j + 1 + k = j + (k + 1) by omega] at this
theorem drawOkL_spec {ops : Array Oper} : ∀ {l : List Oper} {i : Nat}, drawOkL ops i l = true →
    (∀ {k : Nat} {o : Oper}, l[k]? = some o → backOk (i + k) o = true) ∧ (∀ {k m : Nat} {o p : Oper}, k < m → l[k]? = some o → l[m]? = some p → pairOk ops (i + k) o (i + m) p = true)
 | [], i, _ => ⟨fun h => by simp at h, fun _ h => by simp at h⟩
 | x :: l, i, hd => by
  simp only [drawOkL, Bool.and_eq_true] at hd
  obtain ⟨h1, h2, h3⟩ := hd
  obtain ⟨g1, g2⟩ := drawOkL_spec h3
  refine ⟨fun {k o} h => ?_, fun {k m o p} hlt ho hp => ?_⟩
  ·cases k with
   | zero => simp at h; subst h; exact h1
   | succ k => have := g1 (k := k) (o := o) (by simpa using h); rwa [show i + 1 + k = i + (k + 1) by omega] at this
  ·cases m with
   | zero => omega
   | succ m =>
    have hp' : l[m]? = some p := by simpa using hp
    cases k with
    | zero =>
     simp at ho; subst ho
     have := pairsFrom_spec h2 hp'
     rwa [show i + 1 + m = i + (m + 1) by omega] at this
    | succ k =>
     have := g2 (k := k) (m := m) (by omega) (by simpa using ho) hp'
     rwa [show i + 1 + k = i + (k + 1) by omega, show i + 1 + m = i + (m + 1) by omega] at this
structure Drawn (ops : Array Oper) : Prop where
 back : ∀ (i : Nat) o, ops[i]? = some o → ∀ e ∈ o.after, Region.binds .any e = true → e.on < i
 apart : ∀ (i j : Nat) oi oj t, i ≠ j → ops[i]? = some oi → ops[j]? = some oj → oi.dst = some t → oj.dst ≠ some t
 after1 : ∀ (i j : Nat) oi oj t, i < j → ops[i]? = some oi → ops[j]? = some oj → oi.dst = some t → t ∈ readsT ops oj → ∃ e ∈ oj.after, Region.binds .any e = true ∧ e.on = i
 after2 : ∀ (i j : Nat) oi oj t, i < j → ops[i]? = some oi → ops[j]? = some oj → oj.dst = some t → t ∈ readsT ops oi → ∃ e ∈ oj.after, Region.binds .any e = true ∧ e.on = i
theorem edgeTo_spec {o : Oper} {i : Nat} (h : edgeTo o i = true) : ∃ e ∈ o.after, Region.binds .any e = true ∧ e.on = i := by
 obtain ⟨e, he, hb⟩ := List.any_eq_true.1 h
 simp only [Bool.and_eq_true, beq_iff] at hb
 exact ⟨e, by simpa using he, hb⟩
theorem drawOk_spec {ops : Array Oper} (h : drawOk ops = true) : Drawn ops := by
 obtain ⟨h1, h2⟩ := drawOkL_spec h
 have get : ∀ (i : Nat) o, ops[i]? = some o → ops.toList[i]? = some o := fun i o h => by simpa using h
 have pair : ∀ (i j : Nat) oi oj, i < j → ops[i]? = some oi → ops[j]? = some oj → pairOk ops i oi j oj = true := fun i j oi oj hlt hi hj => by
  simpa using h2 hlt (get i oi hi) (get j oj hj)
 refine ⟨?_, ?_, ?_, ?_⟩
 ·intro i o hi e he hb
  have := h1 (get i o hi)
  simp only [Nat.zero_add, backOk] at this
  have := List.all_eq_true.1 this e (by simpa using he)
  rw [hb] at this
  simpa [Nat.blt_eq] using this
 ·have key : ∀ (i j : Nat) oi oj t, i < j → ops[i]? = some oi → ops[j]? = some oj → oi.dst = some t → oj.dst = some t → False := by
   intro i j oi oj t hlt hi hj hd1 hd2
   have := pair i j oi oj hlt hi hj
   simp only [pairOk, hd1, hd2, Bool.and_eq_true, Bool.not_eq_true'] at this
   have e := this.1.1
   rw [(beq_iff t t).2 rfl] at e; cases e
  intro i j oi oj t hne hi hj hd1 hd2
  rcases Nat.lt_or_gt_of_ne hne with hlt | hlt
  ·exact key i j oi oj t hlt hi hj hd1 hd2
  ·exact key j i oj oi t hlt hj hi hd2 hd1
 ·intro i j oi oj t hlt hi hj hd hr
  have := pair i j oi oj hlt hi hj
  simp only [pairOk, hd, Bool.and_eq_true, Bool.or_eq_true, Bool.not_eq_true'] at this
  have h3 := this.1.2
  rcases h3 with h3 | h3
  ·rw [(mem_iff t _).2 hr] at h3; cases h3
  ·exact edgeTo_spec h3
 ·intro i j oi oj t hlt hi hj hd hr
  have := pair i j oi oj hlt hi hj
  simp only [pairOk, hd, Bool.and_eq_true, Bool.or_eq_true, Bool.not_eq_true'] at this
  rcases this.2 with h3 | h3
  ·rw [(mem_iff t _).2 hr] at h3; cases h3
  ·exact edgeTo_spec h3
end Go.AM
/- Regions that draw their order: every order ends as the text's order does. -/
set_option linter.unusedSimpArgs false
set_option linter.unusedVariables false
namespace Go.AM
open Go
section
variable {P : Program} {cx : Cx} {F : Fm} {st : St} {β : Nat → Value} {a : Act} {w : World} {o : Oper}
theorem renL_some : ∀ (l : List Nat), renL (notKeys []) l = some l
 | [] => rfl
 | k :: l => by simp [renL, notKeys, mem, renL_some l]
theorem C.ren_none (c : C) : c.ren (notKeys []) = c := by
 cases c <;> first | rfl | (simp [C.ren, notKeys, mem]; done) | simp [C.ren, renL_some]
mutual
theorem V.ren_none : ∀ (x : V), x.map (C.ren (notKeys [])) = x
 | .one c => by simp [V.map, C.ren_none]
 | .agg cs => by simp [V.map, List.map_id'' C.ren_none]
 | .tup vs => by simp [V.map, V.rens_none vs]
 | .undef => rfl
 | .top => rfl
theorem V.rens_none : ∀ (xs : List V), V.maps (C.ren (notKeys [])) xs = xs
 | [] => rfl
 | x :: xs => by simp [V.maps, V.ren_none x, V.rens_none xs]
end
theorem Slot.ren_none : ∀ (s : Slot), s.map (C.ren (notKeys [])) = s
 | .box cs => by simp [Slot.map, List.map_id'' C.ren_none]
 | .bd t c => by simp [Slot.map, C.ren_none]
 | .mp _ _ _ _ => rfl
 | .lst _ _ _ => rfl
 | .brow _ _ => rfl
 | .tb _ _ => rfl
theorem afterCall_none (st : St) : afterCall st [] [] [] = st := by
 cases st with | mk r s =>
 simp only [afterCall, lstKeys, List.append_nil, killAll, St.map, delAll, zipS, List.map_nil, List.nil_append]
 congr 1
 ·induction r with
  | nil => rfl
  | cons p r ih => simp only [List.map_cons, V.ren_none] at ih ⊢; rw [ih]
 ·induction s with
  | nil => rfl
  | cons p s ih => simp only [List.map_cons, Slot.ren_none] at ih ⊢; rw [ih]
def Run (cx : Cx) (Φ : Con) (o : Oper) (an : Ann) (st : St) (v : V) : Prop := wpOp cx Φ o an st fun v' st' => v' = v ∧ st' = st
theorem Side.mk_and {s : Side} {k : Prop} (h : s.holds) (hk : k) : s.and k := by
 cases s with
 | t => exact hk
 | f => exact False.elim h
 | p q => exact ⟨h, hk⟩
theorem evB_len_st (cx : Cx) (tys : List Nat) (xs : List V) (st : St) : (evB cx .len tys xs .no st).st = st := by
 unfold evB
 (repeat' split) <;> first | rfl | contradiction | (simp only [evMin]; (repeat' split) <;> rfl)
theorem evB_min_st (cx : Cx) (tys : List Nat) (xs : List V) (st : St) : (evB cx .min tys xs .no st).st = st := by
 unfold evB
 (repeat' split) <;> first | rfl | contradiction | (simp only [evMin]; (repeat' split) <;> rfl)
def PB (b : Builtin) (an : Ann) : Prop := (b = .len ∧ an = .no) ∨ (b = .min ∧ an = .no) ∨ (b = .append ∧ an = .viewA)
def PI (op : Op) (an : Ann) : Prop := (still op = true ∧ an = .no) ∨ (∃ t n ps, op = .buildSlice t n ps ∧ an = .viewA)
theorem evB_app_st (cx : Cx) (tys : List Nat) (xs : List V) (st : St) : (evB cx .append tys xs .viewA st).st = st := by
 unfold evB
 (repeat' split) <;> first | rfl | contradiction | skip
 all_goals (try contradiction)
 all_goals (unfold evAppP; (repeat' split) <;> rfl)
theorem evB_st {b : Builtin} {an : Ann} (h : PB b an) (cx : Cx) (tys : List Nat) (xs : List V) (st : St) : (evB cx b tys xs an st).st = st := by
 rcases h with ⟨rfl, rfl⟩ | ⟨rfl, rfl⟩ | ⟨rfl, rfl⟩
 ·exact evB_len_st ..
 ·exact evB_min_st ..
 ·exact evB_app_st ..
theorem evI_st {op : Op} {an : Ann} (h : PI op an) (cx : Cx) (st : St) : (evI cx op an st).st = st := by
 rcases h with ⟨h, rfl⟩ | ⟨t, n, ps, rfl, rfl⟩
 ·exact evI_still_st cx op st h
 ·simp only [evI]
  (repeat' split) <;> first | rfl | contradiction | simp_all [fail, ok]
theorem plain_cases {an : Ann} (hp : plainOp o an = true) :
    (∃ c f rt, o.op = .call c ∧ c.callee = .value f ∧ ∃ fx, an = .call [] [] [] rt [] fx) ∨ (∃ c b, o.op = .call c ∧ c.callee = .builtin b ∧ PB b an) ∨
    ((∀ c, o.op ≠ .call c) ∧ PI o.op an) := by
 unfold plainOp at hp
 split at hp
 ·rename_i c ho
  split at hp
  ·rename_i f rt fx hc; exact .inl ⟨c, f, rt, ho, hc, fx, rfl⟩
  ·rename_i hc; exact .inr (.inl ⟨c, _, ho, hc, .inl ⟨rfl, rfl⟩⟩)
  ·rename_i hc; exact .inr (.inl ⟨c, _, ho, hc, .inr (.inl ⟨rfl, rfl⟩)⟩)
  ·rename_i hc; exact .inr (.inl ⟨c, _, ho, hc, .inr (.inr ⟨rfl, rfl⟩)⟩)
  ·cases hp
 ·rename_i t n ps ho
  refine .inr (.inr ⟨(fun c h => by rw [ho] at h; cases h), ?_⟩)
  split at hp
  ·exact .inl ⟨by rw [ho]; rfl, rfl⟩
  ·exact .inr ⟨t, n, ps, ho, rfl⟩
  ·cases hp
 ·rename_i ho _
  split at hp
  ·exact .inr (.inr ⟨ho, .inl ⟨hp, rfl⟩⟩)
  ·cases hp
theorem wpOp_value {Φ : Con} {κ : V → St → Prop} {c : Call} {f : Operand} {rt : VT} {fx : FX rt []} (ho : o.op = .call c) (hc : c.callee = .value f) :
    wpOp cx Φ o (.call [] [] [] rt [] fx) st κ ↔ ∃ g caps x, st.eval cx f = .one (.fn g caps) ∧
     Φ g (((c.args.toList.map (st.eval cx) ++ caps.map fun k => V.one (.ref k 0)).map (V.map (C.brw st []))).map (V.map (C.ren fun k => posOf k [] 0))) [] (rt.enc x) [] ∧ κ ((rt.enc x).map (C.ren (nth []))) st := by
 unfold wpOp
 simp only [ho, hc]
 constructor
 ·intro h
  split at h
  ·rename_i g caps pass news brw rt' sss fx' hf heq
   cases heq
   simp only [wpCall, slotsOf, List.append_nil, nodupB, List.length_nil] at h
   obtain ⟨x, y, h1, h2⟩ := h
   have : SSs.enc [] y = [] := rfl
   rw [this, afterCall_none] at h2
   exact ⟨g, caps, x, hf, h1, h2⟩
  ·exact h.elim
 ·rintro ⟨g, caps, x, hf, h1, h2⟩
  rw [hf]
  simp only [wpCall, slotsOf, List.append_nil, nodupB, List.length_nil]
  refine ⟨x, (), h1, ?_⟩
  have : SSs.enc [] () = [] := rfl
  rw [this, afterCall_none]; exact h2
theorem wpOp_builtin {Φ : Con} {κ : V → St → Prop} {c : Call} {b : Builtin} {an : Ann} (ho : o.op = .call c) (hc : c.callee = .builtin b) :
    wpOp cx Φ o an st κ = (evB cx b c.argTypes.toList (c.args.toList.map (st.eval cx)) an st).side.and (κ (evB cx b c.argTypes.toList (c.args.toList.map (st.eval cx)) an st).val (evB cx b c.argTypes.toList (c.args.toList.map (st.eval cx)) an st).st) := by
 unfold wpOp
 simp only [ho, hc]
theorem wpOp_still {Φ : Con} {κ : V → St → Prop} {an : Ann} (ho : ∀ c, o.op ≠ .call c) :
    wpOp cx Φ o an st κ = (evI cx o.op an st).side.and (κ (evI cx o.op an st).val (evI cx o.op an st).st) := by
 unfold wpOp
 split
 ·rename_i c h; exact absurd h (ho c)
 ·rfl
/-- The value is settled. -/
theorem wpOp_run {Φ : Con} {an : Ann} {κ : V → St → Prop} (hp : plainOp o an = true) (h : wpOp cx Φ o an st κ) : ∃ v, Run cx Φ o an st v ∧ κ v st := by
 unfold Run
 rcases plain_cases hp with ⟨c, f, rt, ho, hc, fx, rfl⟩ | ⟨c, b, ho, hc, hb⟩ | ⟨ho, hs⟩
 ·obtain ⟨g, caps, x, h1, h2, h3⟩ := (wpOp_value ho hc).1 h
  exact ⟨_, (wpOp_value ho hc).2 ⟨g, caps, x, h1, h2, rfl, rfl⟩, h3⟩
 ·rw [wpOp_builtin ho hc] at h
  obtain ⟨h1, h2⟩ := Side.and_iff h
  have hst : (evB cx b c.argTypes.toList (c.args.toList.map (st.eval cx)) an st).st = st := evB_st hb ..
  rw [hst] at h2
  refine ⟨_, ?_, h2⟩
  rw [wpOp_builtin ho hc]
  exact Side.mk_and h1 ⟨rfl, hst⟩
 ·rw [wpOp_still ho] at h
  obtain ⟨h1, h2⟩ := Side.and_iff h
  have hst := evI_st hs cx st
  rw [hst] at h2
  refine ⟨_, ?_, h2⟩
  rw [wpOp_still ho]
  exact Side.mk_and h1 ⟨rfl, hst⟩
theorem evAppP_congr {st st' : St} (cx : Cx) (t u : Nat) (x y : V) (hs : st.slots = st'.slots) : (evAppP cx t u x y st).out = (evAppP cx t u x y st').out := by
 have h1 := tailOf_congr hs
 unfold evAppP
 simp only [h1]
 (repeat' split) <;> first | rfl | contradiction
theorem evI_congr' {op : Op} {an : Ann} {st st' : St} (h : PI op an) (cx : Cx) (he : ∀ x ∈ op.operands, st.eval cx x = st'.eval cx x) (hs : st.slots = st'.slots) :
    (evI cx op an st).out = (evI cx op an st').out := by
 rcases h with ⟨h, rfl⟩ | ⟨t, n, ps, rfl, rfl⟩
 ·exact evI_congr cx op st st' h he hs
 ·simp only [evI]
  (repeat' split) <;> first | rfl | contradiction | simp_all [fail, ok]
theorem evB_congr {st st' : St} (cx : Cx) (b : Builtin) {an : Ann} (hb : PB b an) (tys : List Nat) (xs : List V) (hs : st.slots = st'.slots) :
    (evB cx b tys xs an st).out = (evB cx b tys xs an st').out := by
 have h3 := slot_congr hs
 rcases hb with ⟨rfl, rfl⟩ | ⟨rfl, rfl⟩ | ⟨rfl, rfl⟩
 ·unfold evB
  simp only [h3, evMin]
  (repeat' split) <;> first | rfl | contradiction
 ·unfold evB
  simp only [h3, evMin]
  (repeat' split) <;> first | rfl | contradiction
 ·unfold evB
  (repeat' split) <;> first | rfl | contradiction | exact evAppP_congr cx _ _ _ _ hs
/-- It hangs on the operands and the slots alone. -/
theorem Run.congr {Φ : Con} {an : Ann} {st st' : St} {v : V} (hp : plainOp o an = true) (he : ∀ x ∈ o.op.operands, st.eval cx x = st'.eval cx x) (hs : st.slots = st'.slots)
    (h : Run cx Φ o an st v) : Run cx Φ o an st' v := by
 unfold Run at *
 have out : ∀ {r r' : Res}, r.out = r'.out → r.side = r'.side ∧ r.val = r'.val := fun h => ⟨congrArg Prod.fst h, congrArg Prod.snd h⟩
 rcases plain_cases hp with ⟨c, f, rt, ho, hc, fx, rfl⟩ | ⟨c, b, ho, hc, hb⟩ | ⟨ho, hst⟩
 ·obtain ⟨g, caps, x, h1, h2, h3, _⟩ := (wpOp_value ho hc).1 h
  have hops : ∀ y, y = f ∨ y ∈ c.args.toList → st.eval cx y = st'.eval cx y := by
   intro y hy
   refine he y ?_
   rw [ho]
   simp only [Op.operands, Call.operands, hc]
   rcases hy with rfl | hy
   ·simp
   ·simp; exact .inr (by simpa using hy)
  refine (wpOp_value ho hc).2 ⟨g, caps, x, by rw [← hops f (.inl rfl)]; exact h1, ?_, h3, rfl⟩
  rw [← List.map_congr_left fun y hy => hops y (.inr hy)]; exact h2
 ·have hargs : c.args.toList.map (st.eval cx) = c.args.toList.map (st'.eval cx) := List.map_congr_left fun y hy => he y (by
   rw [ho]; simp only [Op.operands, Call.operands, hc]; simpa using hy)
  rw [wpOp_builtin ho hc] at h ⊢
  rw [← hargs]
  obtain ⟨h1, h2, _⟩ := Side.and_iff h
  obtain ⟨e1, e2⟩ := out (evB_congr cx b hb c.argTypes.toList (c.args.toList.map (st.eval cx)) hs)
  rw [e1] at h1
  rw [e2] at h2
  refine Side.mk_and h1 ⟨h2, ?_⟩
  exact evB_st hb ..
 ·rw [wpOp_still ho] at h ⊢
  obtain ⟨h1, h2, _⟩ := Side.and_iff h
  obtain ⟨e1, e2⟩ := out (evI_congr' hst cx he hs)
  rw [e1] at h1
  rw [e2] at h2
  exact Side.mk_and h1 ⟨h2, evI_st hst cx st'⟩
end
end Go.AM
/- Regions that draw their order: every order ends as the text's order does. -/
set_option linter.unusedSimpArgs false
set_option linter.unusedVariables false
namespace Go.AM
open Go
section
variable {P : Program} {cx : Cx} {F : Fm} {st : St} {β : Nat → Value} {a : Act} {w : World} {o : Oper}
def StepAt (cx : Cx) (Φ : Con) (ops : Array Oper) (o : Oper) (an : Ann) (st : St) (v : V) : Prop :=
 match o.guard with
 | none => Run cx Φ o an st v
 | some (j, want) => ∃ t, (ops[j]?).bind (·.dst) = some t ∧
     ((st.get t = .one (.bool want) ∧ Run cx Φ o an st v) ∨ (v = .undef ∧ (st.get t = .one (.bool !want) ∨ st.get t = .undef)))
theorem get_put (st : St) (d : Option Nat) (v : V) (t : Nat) : (st.put d v).get t = if d = some t then v else st.get t := by
 cases d with
 | none => simp [St.put]
 | some u =>
  simp only [St.put, St.get, look_cons]
  by_cases h : t = u
  ·simp [h]
  ·have : ¬ (some u = some t) := fun e => h (by simpa using e.symm)
   simp [h, this]
theorem put_slots (st : St) (d : Option Nat) (v : V) : (st.put d v).slots = st.slots := by cases d <;> rfl
theorem mem_tmpsOf {t : Nat} : ∀ {l : List Operand}, Operand.tmp t ∈ l → t ∈ tmpsOf l
 | [], h => by cases h
 | x :: l, h => by
  rcases List.mem_cons.1 h with rfl | h
  ·simp [tmpsOf]
  ·have := mem_tmpsOf h
   cases x <;> simp [tmpsOf, this]
theorem StepAt.congr {Φ : Con} {ops : Array Oper} {an : Ann} {st st' : St} {v : V} (hp : plainOp o an = true) (hr : ∀ t ∈ readsT ops o, st.get t = st'.get t) (hs : st.slots = st'.slots)
    (h : StepAt cx Φ ops o an st v) : StepAt cx Φ ops o an st' v := by
 have he : ∀ x ∈ o.op.operands, st.eval cx x = st'.eval cx x := by
  intro x hx
  cases x with
  | tmp t => exact hr t (List.mem_append_left _ (mem_tmpsOf (by simpa using hx)))
  | _ => rfl
 unfold StepAt at *
 split at h
 ·exact h.congr hp he hs
 ·rename_i j want hg
  obtain ⟨t, ht, h⟩ := h
  have hget : st.get t = st'.get t := hr t (List.mem_append_right _ (by unfold guardT; rw [hg]; simp [ht]))
  refine ⟨t, ht, ?_⟩
  rw [← hget]
  rcases h with ⟨h1, h2⟩ | h
  ·exact .inl ⟨h1, h2.congr hp he hs⟩
  ·exact .inr h
def Trace (cx : Cx) (Φ : Con) (ops : Array Oper) : List Oper → List Ann → St → List V → St → Prop
 | [], _, st, [], stf => (∀ t, st.get t = stf.get t) ∧ stf.slots = st.slots
 | o :: l, a :: as, st, v :: vs, stf => plainOp o a = true ∧ StepAt cx Φ ops o a st v ∧ Trace cx Φ ops l as (st.put o.dst v) vs stf
 | _, _, _, _, _ => False
theorem Trace.congr {Φ : Con} {ops : Array Oper} : ∀ {l : List Oper} {as : List Ann} {st st' stf : St} {vs : List V}, (∀ t, st.get t = st'.get t) → st.slots = st'.slots →
    Trace cx Φ ops l as st vs stf → Trace cx Φ ops l as st' vs stf
 | [], as, st, st', stf, [], hg, hs, h => ⟨fun t => by rw [← hg]; exact h.1 t, by rw [← hs]; exact h.2⟩
 | o :: l, a :: as, st, st', stf, v :: vs, hg, hs, ⟨h1, h2, h3⟩ =>
  ⟨h1, h2.congr h1 (fun t _ => hg t) hs, h3.congr (fun t => by rw [get_put, get_put, hg]) (by rw [put_slots, put_slots, hs])⟩
 | [], as, _, _, _, _ :: _, _, _, h => h.elim
 | _ :: _, [], _, _, _, _, _, _, h => h.elim
 | _ :: _, _ :: _, _, _, _, [], _, _, h => h.elim
theorem seq_trace {Φ : Con} {ops : Array Oper} {Q : Exit → St → Prop} : ∀ (l : List Oper) (as : List (List Ghost × Ann)) (st : St), plainL l as = true → wpOpsA cx Φ ops Q l as st →
    ∃ vs stf, Trace cx Φ ops l (as.map (·.2)) st vs stf ∧ Q .normal stf
 | [], as, st, _, h => ⟨[], st, ⟨fun _ => rfl, rfl⟩, by simpa only [wpOpsA] using h⟩
 | o :: l, [], st, hp, _ => by simp [plainL] at hp
 | o :: l, (gs, an) :: as, st, hp, h => by
  simp only [plainL, Bool.and_eq_true] at hp
  obtain ⟨hg, hpo, hpl⟩ := hp
  cases gs with
  | cons _ _ => simp at hg
  | nil =>
   simp only [wpOpsA, ghosts] at h
   -- a run at a state that says no more
   have run : ∀ (st1 : St), (∀ t, st1.get t = st.get t) → st1.slots = st.slots → wpOp cx Φ o an st1 (fun v st' => wpOpsA cx Φ ops Q l as (st'.put o.dst v)) →
       ∃ v vs stf, Run cx Φ o an st v ∧ Trace cx Φ ops l (as.map (·.2)) (st.put o.dst v) vs stf ∧ Q .normal stf := by
    intro st1 hget hsl h
    obtain ⟨v, h1, h2⟩ := wpOp_run hpo h
    obtain ⟨vs, stf, h3, h4⟩ := seq_trace l as _ hpl h2
    refine ⟨v, vs, stf, h1.congr hpo (fun x _ => ?_) hsl, h3.congr (fun t => by rw [get_put, get_put, hget]) (by rw [put_slots, put_slots, hsl]), h4⟩
    cases x with
    | tmp t => exact hget t
    | _ => rfl
   have skip : ∀ (st1 : St), (∀ t, st1.get t = st.get t) → st1.slots = st.slots → wpOpsA cx Φ ops Q l as (st1.put o.dst .undef) →
       ∃ vs stf, Trace cx Φ ops l (as.map (·.2)) (st.put o.dst .undef) vs stf ∧ Q .normal stf := by
    intro st1 hget hsl h
    obtain ⟨vs, stf, h3, h4⟩ := seq_trace l as _ hpl h
    exact ⟨vs, stf, h3.congr (fun t => by rw [get_put, get_put, hget]) (by rw [put_slots, put_slots, hsl]), h4⟩
   split at h
   ·rename_i hgd
    obtain ⟨v, vs, stf, h1, h2, h3⟩ := run st (fun _ => rfl) rfl h
    exact ⟨v :: vs, stf, ⟨hpo, by unfold StepAt; rw [hgd]; exact h1, h2⟩, h3⟩
   ·rename_i j want hgd
    split at h
    ·exact h.elim
    ·rename_i t ht
     have same : ∀ c, st.get t = .one (.bool c) → ∀ u, (st.put (some t) (.one (.bool c))).get u = st.get u := by
      intro c hc u
      rw [get_put]
      split
      ·rename_i e; simp only [Option.some.injEq] at e; subst e; exact hc.symm
      ·rfl
     have fin1 : ∀ c, st.get t = .one (.bool c) → c = want → wpOp cx Φ o an (st.put (some t) (.one (.bool c))) (fun v st' => wpOpsA cx Φ ops Q l as (st'.put o.dst v)) →
         ∃ vs stf, Trace cx Φ ops (o :: l) (((([] : List Ghost), an) :: as).map (·.2)) st vs stf ∧ Q .normal stf := by
      intro c hc hw h
      obtain ⟨v, vs, stf, h1, h2, h3⟩ := run _ (same c hc) rfl h
      exact ⟨v :: vs, stf, ⟨hpo, by unfold StepAt; rw [hgd]; exact ⟨t, ht, .inl ⟨by rw [← hw]; exact hc, h1⟩⟩, h2⟩, h3⟩
     have fin2 : ∀ c, st.get t = .one (.bool c) → c = !want → wpOpsA cx Φ ops Q l as ((st.put (some t) (.one (.bool c))).put o.dst .undef) →
         ∃ vs stf, Trace cx Φ ops (o :: l) (((([] : List Ghost), an) :: as).map (·.2)) st vs stf ∧ Q .normal stf := by
      intro c hc hw h
      obtain ⟨vs, stf, h2, h3⟩ := skip _ (same c hc) rfl h
      exact ⟨.undef :: vs, stf, ⟨hpo, by unfold StepAt; rw [hgd]; exact ⟨t, ht, .inr ⟨rfl, .inl (by rw [← hw]; exact hc)⟩⟩, h2⟩, h3⟩
     split at h
     ·rename_i b hb
      cases want <;> cases b
      ·exact fin1 false hb rfl h
      ·exact fin2 true hb rfl h
      ·exact fin2 false hb rfl h
      ·exact fin1 true hb rfl h
     ·rename_i hb
      obtain ⟨vs, stf, h2, h3⟩ := skip st (fun _ => rfl) rfl h
      exact ⟨.undef :: vs, stf, ⟨hpo, by unfold StepAt; rw [hgd]; exact ⟨t, ht, .inr ⟨rfl, .inr hb⟩⟩, h2⟩, h3⟩
     ·exact h.elim
/-- What the trace says of each operation, and of the end. -/
theorem trace_facts {Φ : Con} {ops : Array Oper} : ∀ (l : List Oper) (as : List Ann) (st stf : St) (vs : List V),
    (∀ (i j : Nat) p q t, i ≠ j → l[i]? = some p → l[j]? = some q → p.dst = some t → q.dst ≠ some t) → Trace cx Φ ops l as st vs stf →
    vs.length = l.length ∧ stf.slots = st.slots ∧
    (∀ (k : Nat), k ≤ l.length → ∃ stk : St, stk.slots = st.slots ∧ (∀ t, (∀ m p, m < k → l[m]? = some p → p.dst ≠ some t) → stk.get t = st.get t) ∧
     (∀ m p u t, m < k → l[m]? = some p → p.dst = some t → vs[m]? = some u → stk.get t = u) ∧
     (∀ o v, l[k]? = some o → vs[k]? = some v → ∃ an, as[k]? = some an ∧ plainOp o an = true ∧ StepAt cx Φ ops o an stk v) ∧
     (k = l.length → ∀ t, stk.get t = stf.get t))
 | [], as, st, stf, [], hd, h => by
  refine ⟨rfl, h.2, fun k hk => ⟨st, rfl, fun _ _ => rfl, fun m p u t hm => ?_, fun o v ho => ?_, fun _ t => h.1 t⟩⟩
  ·simp at hk; omega
  ·simp at ho
 | o :: l, an :: as, st, stf, v :: vs, hd, ⟨h1, h2, h3⟩ => by
  obtain ⟨g1, g2, g3⟩ := trace_facts l as _ stf vs (fun i j p q t hne hp hq => hd (i + 1) (j + 1) p q t (by omega) (by simpa using hp) (by simpa using hq)) h3
  refine ⟨by simp [g1], by rw [g2, put_slots], fun k hk => ?_⟩
  cases k with
  | zero =>
   refine ⟨st, rfl, fun _ _ => rfl, fun m p u t hm => by omega, fun o' v' ho hv => ?_, fun e => by simp at e⟩
   simp at ho hv
   subst ho; subst hv
   exact ⟨an, rfl, h1, h2⟩
  | succ k =>
   obtain ⟨stk, e1, e2, e3, e4, e5⟩ := g3 k (by simpa using hk)
   refine ⟨stk, by rw [e1, put_slots], fun t ht => ?_, fun m p u t hm hp hpd hu => ?_, fun o' v' ho hv => ?_, fun e t => e5 (by simpa using e) t⟩
   ·rw [e2 t fun m p hm hp => ht (m + 1) p (by omega) (by simpa using hp), get_put, if_neg (ht 0 o (by omega) rfl)]
   ·cases m with
    | zero =>
     simp at hp hu
     subst hp; subst hu
     rw [e2 t fun m q hm hq => hd 0 (m + 1) o q t (by omega) rfl (by simpa using hq) hpd, get_put, if_pos hpd]
    | succ m => exact e3 m p u t (by omega) (by simpa using hp) hpd (by simpa using hu)
   ·obtain ⟨an', f1, f2⟩ := e4 o' v' (by simpa using ho) (by simpa using hv)
    exact ⟨an', by simpa using f1, f2⟩
 | [], as, st, stf, _ :: _, hd, h => h.elim
 | _ :: _, [], st, stf, _, hd, h => h.elim
 | _ :: _, _ :: _, st, stf, [], hd, h => h.elim
end
end Go.AM
/- Regions that draw their order: every order ends as the text's order does. -/
set_option linter.unusedSimpArgs false
set_option linter.unusedVariables false
namespace Go.AM
open Go
section
variable {P : Program} {cx : Cx} {F : Fm} {st : St} {β : Nat → Value} {a : Act} {w : World} {o : Oper}
def open' (listed : Array Bool) (n : Nat) : Nat := ((List.range n).filter fun i => !listed.getD i true).length
structure Inv (ops : Array Oper) (st0 : St) (vs : List V) (listed : Array Bool) (st : St) : Prop where
 size : listed.size = ops.size
 slots : st.slots = st0.slots
 closed : ∀ i o, listed.getD i false = true → ops[i]? = some o → ∀ e ∈ o.after, Region.binds .any e = true → listed.getD e.on false = true
 got : ∀ i o t v, listed.getD i false = true → ops[i]? = some o → o.dst = some t → vs[i]? = some v → st.get t = v
 rest : ∀ t, (∀ i o, listed.getD i false = true → ops[i]? = some o → o.dst ≠ some t) → st.get t = st0.get t
theorem listed_set {listed : Array Bool} {i j : Nat} (hi : i < listed.size) : (listed.setIfInBounds i true).getD j false = true ↔ j = i ∨ listed.getD j false = true := by
 by_cases h : j = i
 ·subst h; simp [hi]
 ·have : ¬ i = j := fun e => h e.symm
  simp [Array.getElem?_setIfInBounds, h, this]
theorem Inv.step {ops : Array Oper} (hD : Drawn ops) {st0 : St} {vs : List V} {listed : Array Bool} {st : St} (I : Inv ops st0 vs listed st) {i : Nat} {o : Oper} {v : V} (hi : ops[i]? = some o) (hv : vs[i]? = some v)
    (hr : ∀ e ∈ o.after, Region.binds .any e = true → listed.getD e.on false = true) : Inv ops st0 vs (listed.setIfInBounds i true) (st.put o.dst v) := by
 have hlt : i < listed.size := by rw [I.size]; exact (Array.getElem?_eq_some_iff.1 hi).1
 refine ⟨by simp [I.size], by rw [put_slots, I.slots], ?_, ?_, ?_⟩
 ·intro j p hj hp e he hb
  rw [listed_set hlt] at hj ⊢
  rcases hj with rfl | hj
  ·rw [hi] at hp; simp only [Option.some.injEq] at hp; subst hp
   exact .inr (hr e he hb)
  ·exact .inr (I.closed j p hj hp e he hb)
 ·intro j p t u hj hp hd hu
  rw [listed_set hlt] at hj
  rw [get_put]
  by_cases hji : j = i
  ·subst hji
   rw [hi] at hp; simp only [Option.some.injEq] at hp; subst hp
   rw [hv] at hu; simp only [Option.some.injEq] at hu; subst hu
   rw [if_pos hd]
  ·have hne : ¬ o.dst = some t := hD.apart j i p o t hji hp hi hd
   rw [if_neg hne]
   exact I.got j p t u (hj.resolve_left hji) hp hd hu
 ·intro t ht
  have h1 : ¬ o.dst = some t := ht i o (by rw [listed_set hlt]; exact .inl rfl) hi
  rw [get_put, if_neg h1]
  exact I.rest t fun j p hj hp => ht j p (by rw [listed_set hlt]; exact .inr hj) hp
theorem open_step {listed : Array Bool} {n i : Nat} (hs : listed.size = n) (hi : i < n) (hu : listed.getD i true = false) : open' (listed.setIfInBounds i true) n + 1 ≤ open' listed n := by
 unfold open'
 have key : ∀ l : List Nat, i ∈ l → l.Nodup → (l.filter fun j => !(listed.setIfInBounds i true).getD j true).length + 1 ≤ (l.filter fun j => !listed.getD j true).length := by
  intro l
  induction l with
  | nil => intro h; cases h
  | cons j l ih =>
   intro hm hn
   have hn' := List.nodup_cons.1 hn
   by_cases hji : j = i
   ·subst hji
    have e1 : (listed.setIfInBounds j true).getD j true = true := by simp [hs, hi]
    have e2 : (l.filter fun k => !(listed.setIfInBounds j true).getD k true) = l.filter fun k => !listed.getD k true := by
     apply List.filter_congr
     intro k hk
     have : ¬ j = k := fun e => hn'.1 (e ▸ hk)
     simp [Array.getElem?_setIfInBounds, this]
    rw [List.filter_cons, List.filter_cons, e1, hu]
    simp only [Bool.not_true, Bool.false_eq_true, if_false, Bool.not_false, if_true, List.length_cons]
    rw [e2]; exact Nat.le_refl _
   ·have hm' : i ∈ l := (List.mem_cons.1 hm).resolve_left (fun e => hji e.symm)
    have := ih hm' hn'.2
    have hne : ¬ i = j := fun e => hji e.symm
    have e1 : (listed.setIfInBounds i true).getD j true = listed.getD j true := by simp [Array.getElem?_setIfInBounds, hne]
    rw [List.filter_cons, List.filter_cons, e1]
    split
    ·simp only [List.length_cons]; omega
    ·exact this
 exact key _ (List.mem_range.2 hi) List.nodup_range
theorem all_listed {ops : Array Oper} (hD : Drawn ops) {listed : Array Bool} (hs : listed.size = ops.size) (hr : Region.ready .any ops listed = []) : ∀ i, i < ops.size → listed.getD i false = true := by
 intro i
 induction i using Nat.strongRecOn with
 | _ i ih =>
  intro hi
  cases hl : listed.getD i true
  ·have ho : ops[i]? = some ops[i] := Array.getElem?_eq_getElem hi
   have : i ∈ Region.ready .any ops listed := by
    unfold Region.ready
    rw [List.mem_filter]
    refine ⟨List.mem_range.2 hi, ?_⟩
    rw [hl, ho]
    simp only [Bool.not_false, Option.map_some, Option.getD_some, Bool.true_and, Array.all_eq_true_iff_forall_mem]
    intro e he
    cases hb : Region.binds .any e
    ·rfl
    ·have hlt := hD.back i _ ho e he hb
     simp [ih e.on hlt (by omega)]
   rw [hr] at this; cases this
  ·have : i < listed.size := by rw [hs]; exact hi
   simpa [this] using hl
theorem drawn_any (T : TOk P cx) {ops : Array Oper} {Q : Exit → St → Prop} (hD : Drawn ops) (hd : ∀ o ∈ ops.toList, ∀ t, o.dst = some t → t < F.n) {as : List Ann} {st0 stf : St} {vs : List V}
    (hA : ∀ x ∈ as, AnnFix F x) (hT : Trace cx (Phi P cx) ops ops.toList as st0 vs stf) (hQ : Q .normal stf) :
    ∀ (fuel : Nat) (listed : Array Bool) (st : St) (β : Nat → Value) (a : Act) (w : World), open' listed ops.size ≤ fuel → Inv ops st0 vs listed st → Rel cx F st β a w →
     wpAny P .any ops (QC cx F Q) fuel listed a w := by
 have hget : ∀ (i : Nat) (p : Oper), ops.toList[i]? = some p ↔ ops[i]? = some p := fun i p => by simp
 obtain ⟨hvl, hsl, hfacts⟩ := trace_facts ops.toList as st0 stf vs (fun i j p q t hne hp hq => hD.apart i j p q t hne ((hget i p).1 hp) ((hget j q).1 hq)) hT
 have fin : ∀ (listed : Array Bool) (st : St) (β : Nat → Value) (a : Act) (w : World), Inv ops st0 vs listed st → Rel cx F st β a w → Region.ready .any ops listed = [] → QC cx F Q .normal a w := by
  intro listed st β a w I h hr
  have hall := all_listed hD I.size hr
  obtain ⟨stk, e1, e2, e3, _, e5⟩ := hfacts ops.toList.length (Nat.le_refl _)
  have hst : ∀ t, st.get t = stf.get t := by
   intro t
   rw [← e5 rfl t]
   by_cases hex : ∃ (m : Nat) (p : Oper), ops[m]? = some p ∧ p.dst = some t
   ·obtain ⟨m, p, hp, hpd⟩ := hex
    have hm : m < ops.size := (Array.getElem?_eq_some_iff.1 hp).1
    have hmv : m < vs.length := by rw [hvl]; simpa using hm
    have hu : vs[m]? = some vs[m] := List.getElem?_eq_getElem hmv
    rw [I.got m p t _ (hall m hm) hp hpd hu, e3 m p _ t (by simpa using hm) ((hget m p).2 hp) hpd hu]
   ·rw [I.rest t fun i o _ ho hod => hex ⟨i, o, ho, hod⟩, e2 t fun m p _ hp hpd => hex ⟨m, p, (hget m p).1 hp, hpd⟩]
  refine ⟨stf, β, hQ, ?_⟩
  have := h.regs' stf.regs fun t v ht => by
   have : stf.get t = v := by unfold St.get; rw [ht]
   rw [← this, ← hst t]; exact h.get t
  have e : (⟨stf.regs, st.slots⟩ : St) = stf := by rw [I.slots, ← hsl]
  rw [e] at this; exact this
 intro fuel
 induction fuel with
 | zero =>
  intro listed st β a w hf I h
  have hr : Region.ready .any ops listed = [] := by
   have h0 : (List.range ops.size).filter (fun i => !listed.getD i true) = [] := List.eq_nil_of_length_eq_zero (by unfold open' at hf; omega)
   unfold Region.ready
   rw [List.filter_eq_nil_iff] at h0 ⊢
   intro i hi
   have := h0 i hi
   simp only [Bool.not_eq_true, Bool.not_eq_false'] at this
   rw [this]; simp
  exact ⟨hr, fin listed st β a w I h hr⟩
 | succ fuel ih =>
  intro listed st β a w hf I h
  refine ⟨fun hr => fin listed st β a w I h hr, fun i hi => ?_⟩
  unfold Region.ready at hi
  rw [List.mem_filter] at hi
  obtain ⟨hir, hi⟩ := hi
  have hlt := List.mem_range.1 hir
  have ho : ops[i]? = some ops[i] := Array.getElem?_eq_getElem hlt
  generalize ops[i] = o at ho
  rw [ho] at hi
  simp only [Option.map_some, Option.getD_some, Bool.and_eq_true, Bool.not_eq_true', Array.all_eq_true_iff_forall_mem, Bool.or_eq_true] at hi
  obtain ⟨hun, hready⟩ := hi
  have hready' : ∀ e ∈ o.after, Region.binds .any e = true → listed.getD e.on false = true := fun e he hb => (hready e he).resolve_left (by rw [hb]; simp)
  have hunf : ¬ listed.getD i false = true := by
   have : i < listed.size := by rw [I.size]; exact hlt
   simp [this] at hun ⊢; exact hun
  have hiv : i < vs.length := by rw [hvl]; simpa using hlt
  have hv : vs[i]? = some vs[i] := List.getElem?_eq_getElem hiv
  generalize vs[i] = v at hv
  obtain ⟨stk, e1, e2, e3, e4, _⟩ := hfacts i (by simpa using Nat.le_of_lt hlt)
  obtain ⟨an, han, hpl, hstep⟩ := e4 o v ((hget i o).2 ho) hv
  -- the operands stand as in the text's order
  have hread : ∀ t ∈ readsT ops o, stk.get t = st.get t := by
   intro t ht
   by_cases hex : ∃ (m : Nat) (p : Oper), ops[m]? = some p ∧ p.dst = some t
   ·obtain ⟨m, p, hp, hpd⟩ := hex
    have hm : m < ops.size := (Array.getElem?_eq_some_iff.1 hp).1
    have hmv : m < vs.length := by rw [hvl]; simpa using hm
    have hu : vs[m]? = some vs[m] := List.getElem?_eq_getElem hmv
    have only : ∀ m' p', ops[m']? = some p' → p'.dst = some t → m' = m := fun m' p' hp' hd' => by
     refine Decidable.byContradiction fun hne => ?_
     exact hD.apart m' m p' p t hne hp' hp hd' hpd
    rcases Nat.lt_trichotomy m i with hlt' | rfl | hgt
    ·obtain ⟨e, he, hb, hon⟩ := hD.after1 m i p o t hlt' hp ho hpd ht
     have hl := hready' e he hb
     rw [hon] at hl
     rw [e3 m p _ t hlt' ((hget m p).2 hp) hpd hu, I.got m p t _ hl hp hpd hu]
    ·rw [e2 t fun m' p' hm' hp' hd' => by have := only m' p' ((hget m' p').1 hp') hd'; omega,
      I.rest t fun m' p' hl hp' hd' => by have := only m' p' hp' hd'; subst this; exact hunf hl]
    ·obtain ⟨e, he, hb, hon⟩ := hD.after2 i m o p t hgt ho hp hpd ht
     rw [e2 t fun m' p' hm' hp' hd' => by have := only m' p' ((hget m' p').1 hp') hd'; omega,
      I.rest t fun m' p' hl hp' hd' => by
       have := only m' p' hp' hd'
       subst this
       have := I.closed _ p hl hp e he hb
       rw [hon] at this
       exact hunf this]
   ·rw [e2 t fun m p _ hp hpd => hex ⟨m, p, (hget m p).1 hp, hpd⟩, I.rest t fun i o _ ho hod => hex ⟨i, o, ho, hod⟩]
  have hstep' := hstep.congr hpl hread (e1.trans I.slots.symm)
  have hdst := hd o (by rw [Array.mem_toList_iff]; exact Array.mem_of_getElem? ho)
  have hopen : open' (listed.setIfInBounds i true) ops.size ≤ fuel := by
   have := open_step I.size hlt hun; omega
  have I' := I.step hD ho hv hready'
  have hfix := hA an (List.mem_of_getElem? han)
  have run : Run cx (Phi P cx) o an st v → o.wp P a w (wpAny P .any ops (QC cx F Q) fuel (listed.setIfInBounds i true)) (QC cx F Q) := by
   intro hrun
   refine op_sound T h hfix hrun ?_
   rintro v' st' β' w' u ⟨rfl, rfl⟩ hr hu
   exact ih _ _ β' _ w' hopen I' (hr.put hdst hu)
  unfold Go.wpOp
  simp only [ho]
  unfold StepAt at hstep'
  split at hstep'
  ·rename_i hg
   have hw : Region.wanted o (yielded ops a.tmps) = true := by simp [Region.wanted, hg]
   rw [if_pos hw]
   exact .inl (run hstep')
  ·rename_i j want hg
   obtain ⟨t, ht, hc⟩ := hstep'
   have htn : t < F.n := by
    cases hoj : ops[j]? with
    | none => rw [hoj] at ht; cases ht
    | some oj =>
     rw [hoj] at ht
     exact hd oj (by rw [Array.mem_toList_iff]; exact Array.mem_of_getElem? hoj) t ht
   rcases hc with ⟨hb, hrun⟩ | ⟨rfl, hb | hb⟩
   ·have hy := yielded_spec h ht htn hb
    have hw : Region.wanted o (yielded ops a.tmps) = true := by simp [Region.wanted, hg, hy]
    rw [if_pos hw]
    exact .inl (run hrun)
   ·have hy := yielded_spec h ht htn hb
    have hw : ¬ Region.wanted o (yielded ops a.tmps) = true := by simp [Region.wanted, hg, hy]
    rw [if_neg hw]
    exact ih _ _ β _ w hopen I' (h.put hdst (show RepV β _ w .undef Go.undef from rfl))
   ·have hy := yielded_undef h ht htn hb
    have hw : ¬ Region.wanted o (yielded ops a.tmps) = true := by simp [Region.wanted, hg, hy]
    rw [if_neg hw]
    exact ih _ _ β _ w hopen I' (h.put hdst (show RepV β _ w .undef Go.undef from rfl))
end
end Go.AM
