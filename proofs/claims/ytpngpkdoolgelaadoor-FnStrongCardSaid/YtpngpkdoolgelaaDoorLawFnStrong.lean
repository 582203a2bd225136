/- the strong sum is the blocks of the padded text mixed in order, the padded text begins with the text and is whole blocks, and a seed is four bytes ahead. -/
import Derived.Test.YtpngpkdoolgelaaDoorRows
import Derived.Test.YtpngpkdoolgelaaDoorWkFnStrong
import Derived.Test.YtpngpkdoolgelaaDoorPuFnStrong
import Derived.Test.YtpngpkdoolgelaaDoorTie
import Derived.Test.YtpngpkdoolgelaaDoorCards
import Derived.LaidMore
import Derived.Lay
import Derived.SevenTiedAt
import Derived.Stop.Joined
import Derived.WalkKit
import Derived.ProofKit
import Derived.OpenShut
import Derived.ShutString
import Derived.ChangeOld
import Derived.Below
import Derived.SizedLaws
import Derived.Carry
import Derived.Shelf.Vars
namespace Go.Proofs.YtpngpkdoolgelaaDoor.fnStrong
open Go.ChangeShapes Go.WideShapes Go.ChangeAt Go.RowKit
open Go.ChangeMaps (open_string shut_string)
set_option linter.unusedVariables false
theorem own : ownKnob Tryd.prog.godebug = none := by kernel_rfl
theorem laidOut : laidOutB Tryd.prog = true := by kernel_rfl
theorem repStr (a : ByteArray) : Value.string a = Value.string ⟨a.data.toList.toArray⟩ := by cases a; simp
theorem repAgg (a : Array Value) : Value.agg a = Value.agg (List.toArray a.toList) := by simp
set_option maxRecDepth 100000 in
theorem lifted (os : Os) (started : os.Started) (H : Type) (enc : TypeId × Value → H) :
    ReturnsInHanded {} Tryd.checked os 4 .any (fun w args => (Rows.fnStrongSpec.pre enc Tryd.prog Tryd.f4 Rows.fnStrongRow.domain false w args ∧ laidMetH Tryd.prog Rows.fnStrongRow.laid w) ∧ sizedMet enc Tryd.prog Tryd.f4 (OpenSpec.ofChange Rows.fnStrongSpec) false w args) (Rows.fnStrongSpec.post enc Tryd.prog Tryd.f4 false true false false) := by
  refine returnsInHanded_of_change_and (C := Tryd.checked) (X := fun w _ => laidMetH Tryd.prog Rows.fnStrongRow.laid w) (fun _ _ _ hh h => h.of_heap hh) own started (by kernel_rfl) Tryd.func4
    (ChangeSpec.witness_shaped (enc := enc) (C := Tryd.checked) (os := os) (X := fun w _ => laidMetH Tryd.prog Rows.fnStrongRow.laid w) false (World.laidAll Tryd.prog os Rows.fnStrongRow.laid) #[.slice none 0 0] 8 (World.laidAll_os _ _ _)
      (World.shaped_of_ZipB (by kernel_rfl) (by kernel_rfl)) (by kernel_rfl) (by kernel_rfl) (by kernel_rfl)
      (by rw [MakeChecks.laidMetH_plain _ _ _ (by kernel_rfl)]; exact laidMet_laidAll _ (by kernel_rfl) (by kernel_rfl))) ?_
  intro W base args ds gs before hval0 hW hcnd hsz0 hL hSh
  have hsz : (DataW.weightsEach Tryd.prog (Tryd.f4.params.toList ++ Rows.fnStrongSpec.plain.varTypes Tryd.prog) (ds ++ gs)).all (· ≤ reachBytes) = true := hsz0
  have hval : ∀ (j : Nat) t v, Tryd.f4.params[j]? = some t → args[j]? = some v → Value.okWide Tryd.prog W .any base t v := hval0
  have hW' := hW
  obtain ⟨p, q, hA0, hV, rfl, hfz, hnd⟩ := hW
  have hA : DataW.TrodAll enc Tryd.prog W 0 (fun _ => true) true Tryd.f4.params.toList args.toList ds p := hA0
  rw [Tryd.params4] at hA hval hsz
  obtain ⟨v0, vs0, d0, ds0, p0, q0, hargs, rfl, rfl, h0, r0⟩ := trodAll_cons hA
  obtain ⟨rfl, rfl, rfl⟩ := trodAll_nil r0
  obtain rfl : args = #[v0] := by cases args; simp_all
  have hV0 := hV
  obtain ⟨u0, gs0, rfl⟩ : ∃ u r, gs = u :: r := by
    cases gs with
    | nil => exact False.elim hV
    | cons u r => exact ⟨u, r, rfl⟩
  obtain ⟨_, _, _, _, _, _, _, _, _, _, hV, _⟩ := hV
  obtain ⟨u1, gs1, rfl⟩ : ∃ u r, gs0 = u :: r := by
    cases gs0 with
    | nil => exact False.elim hV
    | cons u r => exact ⟨u, r, rfl⟩
  obtain ⟨_, _, _, _, _, _, _, _, _, _, hV, _⟩ := hV
  obtain rfl : gs1 = [] := by
    cases gs1 with
    | nil => rfl
    | cons u r => exact False.elim hV
  have hLm : laidMet Tryd.prog Rows.fnStrongRow.laid W := by
    have h := hL
    rw [MakeChecks.laidMetH_plain _ _ _ (by kernel_rfl)] at h
    exact h
  have e900 : (Rows.laid_loop_example_g00100_impl_sines : DataW Unit) = .agg (List.map (α := Int) (fun n => .lit (.int .u32 n)) AM.gv0) := by kernel_rfl
  have m900 : ("loop.example/g00100/impl.sines", (.agg (List.map (α := Int) (fun n => .lit (.int .u32 n)) AM.gv0) : DataW Unit)) ∈ Rows.fnStrongRow.laid := by
    rw [← e900]
    exact .head _
  have r900 := AM.globVar hLm m900 (show Tryd.prog.globalNamed "loop.example/g00100/impl.sines" = some 0 by kernel_rfl) (show (Tryd.prog.globals[0]?).map (·.type) = some 85 by kernel_rfl) (AM.opD_arr1 Tryd.underlying85 Tryd.underlying24 (by kernel_rfl) (by kernel_rfl) AM.gv0 (by kernel_rfl))
  have e901 : (Rows.laid_loop_example_g00100_impl_turns : DataW Unit) = .agg (List.map (α := List Int) (fun l => .agg (List.map (α := Int) (fun n => .lit (.int .i64 n)) l)) AM.gv1) := by kernel_rfl
  have m901 : ("loop.example/g00100/impl.turns", (.agg (List.map (α := List Int) (fun l => .agg (List.map (α := Int) (fun n => .lit (.int .i64 n)) l)) AM.gv1) : DataW Unit)) ∈ Rows.fnStrongRow.laid := by
    rw [← e901]
    exact .tail _ (.head _)
  have r901 := AM.globVar hLm m901 (show Tryd.prog.globalNamed "loop.example/g00100/impl.turns" = some 1 by kernel_rfl) (show (Tryd.prog.globals[1]?).map (·.type) = some 88 by kernel_rfl) (AM.opD_arr2 Tryd.underlying88 Tryd.underlying87 Tryd.underlying3 (by kernel_rfl) (by kernel_rfl) (by kernel_rfl) (by kernel_rfl) AM.gv1 (by kernel_rfl) (by decide))
  have k0 := h0
  have lt0 : ∀ x ∈ p0, x.block < W.heap.size := by obtain ⟨m, hm⟩ := k0; exact DataW.trod_lt m _ _ _ hm
  obtain ⟨fuel0, hf0⟩ := h0
  obtain ⟨b0, n0, c0, rfl⟩ := okWide_slice Tryd.underlying22 (hval 0 22 v0 rfl rfl)
  obtain ⟨l0, hK0, hQ0⟩ := (AM.opR_list Tryd.underlying22 (by kernel_rfl) (by decide) (AM.opR_int Tryd.underlying5)) enc W 0 _ _ fuel0 _ _ hf0
  clear hA0 hval0 hsz0 hsz
  have hΦ : AM.Phi AM.YtpngpkdoolgelaaDoor.P AM.YtpngpkdoolgelaaDoor.cx 4 [.one (.list (.int .u8) l0)] [] (.one (.bool true)) [] := AM.YtpngpkdoolgelaaDoor.v_laws_FnStrong ((l0, ()), ()) (true, ()) (AM.law_Strong l0 (fun a ha => (Bool.and_eq_true_iff.1 (hQ0.2 a ha)).imp of_decide_eq_true of_decide_eq_true))
  have hr : AM.RepVs AM.nb0 AM.X0 W [.one (.list (.int .u8) l0)] [.slice b0 n0 c0] := ⟨hK0, trivial⟩
  have hc := AM.Phi.calls_bool Tryd.func4 (by kernel_rfl) (by kernel_rfl) hΦ hr (AM.globCons r901 (AM.globCons r900 (fun g t x h => by cases h)))
  refine hc.mono fun e W' ⟨he, bel0⟩ => ?_
  have bel : Below W.heap.size W W' := bel0
  subst he
  exact ⟨_, rfl, _, _, _, [], _, _, hW', trodAll_mk1 (shut_bool Tryd.underlying4 _), (trodAll_cons_mk (Below.trod laidOut (by kernel_rfl) (of_decide_eq_true (by kernel_rfl)) k0 bel lt0) trodAll_mk0), (bel.trodVars laidOut (by kernel_rfl) hV0), bel.frame _, fun h => by cases h⟩
theorem over : Rows.fnStrongRow.holds Tryd.pinned (OpenSpec.ofChange Rows.fnStrongSpec) :=
  OpenClaim.holds_of_wide 4 Tryd.f4 rfl rfl rfl rfl rfl rfl rfl ⟨rfl, rfl, rfl, rfl, rfl⟩ rfl rfl rfl rfl rfl (by kernel_rfl) Tryd.func4 (by kernel_rfl)
    (of_decide_eq_true (by kernel_rfl)) (by unfold Func.isWrapper; first | (rw [if_pos (by decide +kernel)]; kernel_rfl) | (rw [if_neg (by decide +kernel)]; exact ⟨rfl, rfl⟩))
    (fun os started H enc _ => lifted os started H enc)
theorem row_holds : Rows.FnStrongSaid := over
theorem proved : Rows.FnStrongCardSaid :=
  Claim7.holds_tied_plain_at .later [] [.data, .data] true (true, "0e341a9d7b8039f86eb4bac984a12ecbe5288b355849b70635b6f257b01a033c") false row_holds (fun _ h => by cases h) (by kernel_rfl) (fun _ h => by cases h) fnStrong_row_tie rfl ⟨rfl, rfl⟩ (by kernel_rfl) rfl
    (fun f fn hf hfn => by
      obtain rfl : f = 4 := Option.some.inj ((show Tryd.prog.funcNamed "loop.example/g00100/laws.FnStrong" = some 4 by kernel_rfl).symm.trans hf) |>.symm
      obtain rfl : fn = Tryd.f4 := (Option.some.inj (Tryd.func4.symm.trans hfn)).symm
      exact ⟨by kernel_rfl, fun j t ht => by
        rw [Tryd.params4] at ht
        have hm : t ∈ [22] := by simpa using Array.mem_of_getElem? ht
        have hall : ([22].all fun u => !Tryd.prog.wantsStandIn u) = true := by kernel_rfl
        exact (show Tryd.prog.wantsStandIn t = false by simpa using List.all_eq_true.1 hall t hm)⟩)
    (by kernel_rfl)
#print axioms proved
end Go.Proofs.YtpngpkdoolgelaaDoor.fnStrong
namespace Go.Proofs.YtpngpkdoolgelaaDoor
/-- The statement, under a short name, for the claim. -/
theorem fnStrong_holds : Rows.FnStrongCardSaid := fnStrong.proved
end Go.Proofs.YtpngpkdoolgelaaDoor
