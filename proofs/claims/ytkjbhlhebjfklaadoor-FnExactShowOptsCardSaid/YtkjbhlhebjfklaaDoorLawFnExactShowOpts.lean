/- ShowOpts of the program answers as the reference's ShowOpts. -/
import Derived.Test.YtkjbhlhebjfklaaDoorRows
import Derived.Test.YtkjbhlhebjfklaaDoorWkFnExactShowOpts
import Derived.Test.YtkjbhlhebjfklaaDoorPuFnExactShowOpts
import Derived.Test.YtkjbhlhebjfklaaDoorTie
import Derived.Test.YtkjbhlhebjfklaaDoorCards
import Derived.LaidMore
import Derived.Lay
import Derived.SevenTiedAt
import Derived.Stop.Joined
import Derived.WalkKit
import Derived.ProofKit
import Derived.OpenShut
import Derived.ShutString
import Derived.ChangeOld
import Derived.Below
import Derived.SizedLaws
import Derived.Carry
import Derived.Shelf.Vars
namespace Go.Proofs.YtkjbhlhebjfklaaDoor.fnExactShowOpts
open Go.ChangeShapes Go.WideShapes Go.ChangeAt Go.RowKit
open Go.ChangeMaps (open_string shut_string)
set_option linter.unusedVariables false
theorem own : ownKnob Tryd.prog.godebug = none := by kernel_rfl
theorem laidOut : laidOutB Tryd.prog = true := by kernel_rfl
theorem repStr (a : ByteArray) : Value.string a = Value.string ⟨a.data.toList.toArray⟩ := by cases a; simp
theorem repAgg (a : Array Value) : Value.agg a = Value.agg (List.toArray a.toList) := by simp
set_option maxRecDepth 100000 in
theorem lifted (os : Os) (started : os.Started) (H : Type) (enc : TypeId × Value → H) :
    ReturnsInHanded {} Tryd.checked os 4 .any (fun w args => (Rows.fnExactShowOptsSpec.pre enc Tryd.prog Tryd.f4 Rows.fnExactShowOptsRow.domain false w args ∧ laidMetH Tryd.prog Rows.fnExactShowOptsRow.laid w) ∧ sizedMet enc Tryd.prog Tryd.f4 (OpenSpec.ofChange Rows.fnExactShowOptsSpec) false w args) (Rows.fnExactShowOptsSpec.post enc Tryd.prog Tryd.f4 false true false false) := by
  refine returnsInHanded_of_change_and (C := Tryd.checked) (X := fun w _ => laidMetH Tryd.prog Rows.fnExactShowOptsRow.laid w) (fun _ _ _ hh h => h.of_heap hh) own started (by kernel_rfl) Tryd.func4
    (ChangeSpec.witness_shaped (enc := enc) (C := Tryd.checked) (os := os) (X := fun w _ => laidMetH Tryd.prog Rows.fnExactShowOptsRow.laid w) false (World.laidAll Tryd.prog os Rows.fnExactShowOptsRow.laid) #[.agg #[.bool false, .bool false, .bool false, .bool false, .bool false, .bool false, .bool false, .bool false, .bool false, .bool false, .bool false, .bool false, .bool false, .int .i64 0, .bool false, .string ByteArray.empty, .string ByteArray.empty]] 8 (World.laidAll_os _ _ _)
      (World.shaped_of_ZipB (by kernel_rfl) (by kernel_rfl)) (by kernel_rfl) (by kernel_rfl) (by kernel_rfl)
      (by rw [MakeChecks.laidMetH_plain _ _ _ (by kernel_rfl)]; exact laidMet_laidAll _ (by kernel_rfl) (by kernel_rfl))) ?_
  intro W base args ds gs before hval0 hW hcnd hsz0 hL hSh
  have hsz : (DataW.weightsEach Tryd.prog (Tryd.f4.params.toList ++ Rows.fnExactShowOptsSpec.plain.varTypes Tryd.prog) (ds ++ gs)).all (· ≤ reachBytes) = true := hsz0
  have hval : ∀ (j : Nat) t v, Tryd.f4.params[j]? = some t → args[j]? = some v → Value.okWide Tryd.prog W .any base t v := hval0
  have hW' := hW
  obtain ⟨p, q, hA0, hV, rfl, hfz, hnd⟩ := hW
  have hA : DataW.TrodAll enc Tryd.prog W 0 (fun _ => true) true Tryd.f4.params.toList args.toList ds p := hA0
  rw [Tryd.params4] at hA hval hsz
  obtain ⟨v0, vs0, d0, ds0, p0, q0, hargs, rfl, rfl, h0, r0⟩ := trodAll_cons hA
  obtain ⟨rfl, rfl, rfl⟩ := trodAll_nil r0
  obtain rfl : args = #[v0] := by cases args; simp_all
  obtain ⟨rfl, rfl⟩ := trodVars_none hV
  have k0 := h0
  have lt0 : ∀ x ∈ p0, x.block < W.heap.size := by obtain ⟨m, hm⟩ := k0; exact DataW.trod_lt m _ _ _ hm
  obtain ⟨fuel0, hf0⟩ := h0
  obtain ⟨cs0, rfl, _⟩ := okWide_struct Tryd.underlying45 (hval 0 45 v0 rfl rfl)
  obtain ⟨l0, hK0, hQ0⟩ := (AM.opR_struct 17 Tryd.underlying45 (by kernel_rfl) (AM.opR_cons (AM.opR_bool Tryd.underlying4) (by kernel_rfl) (AM.opR_cons (AM.opR_bool Tryd.underlying4) (by kernel_rfl) (AM.opR_cons (AM.opR_bool Tryd.underlying4) (by kernel_rfl) (AM.opR_cons (AM.opR_bool Tryd.underlying4) (by kernel_rfl) (AM.opR_cons (AM.opR_bool Tryd.underlying4) (by kernel_rfl) (AM.opR_cons (AM.opR_bool Tryd.underlying4) (by kernel_rfl) (AM.opR_cons (AM.opR_bool Tryd.underlying4) (by kernel_rfl) (AM.opR_cons (AM.opR_bool Tryd.underlying4) (by kernel_rfl) (AM.opR_cons (AM.opR_bool Tryd.underlying4) (by kernel_rfl) (AM.opR_cons (AM.opR_bool Tryd.underlying4) (by kernel_rfl) (AM.opR_cons (AM.opR_bool Tryd.underlying4) (by kernel_rfl) (AM.opR_cons (AM.opR_bool Tryd.underlying4) (by kernel_rfl) (AM.opR_cons (AM.opR_bool Tryd.underlying4) (by kernel_rfl) (AM.opR_cons (AM.opR_int Tryd.underlying3) (by kernel_rfl) (AM.opR_cons (AM.opR_bool Tryd.underlying4) (by kernel_rfl) (AM.opR_cons (AM.opR_str Tryd.underlying9) (by kernel_rfl) (AM.opR_last (AM.opR_str Tryd.underlying9) (by kernel_rfl) (by kernel_rfl))))))))))))))))))) enc W 0 _ _ fuel0 _ _ hf0
  clear hA0 hval0 hsz0 hsz
  have hΦ : AM.Phi AM.YtkjbhlhebjfklaaDoor.P AM.YtkjbhlhebjfklaaDoor.cx 4 [.agg (AM.cellsOf (.pair .bool (.pair .bool (.pair .bool (.pair .bool (.pair .bool (.pair .bool (.pair .bool (.pair .bool (.pair .bool (.pair .bool (.pair .bool (.pair .bool (.pair .bool (.pair (.int .i64) (.pair .bool (.pair .str .str)))))))))))))))) l0)] [] (.one (.bool true)) [] := AM.YtkjbhlhebjfklaaDoor.v_laws_FnExactShowOpts ((l0, ()), ()) (true, ()) (AM.law_ShowOpts l0 (hQ0.2.2.2.2.2.2.2.2.2.2.2.2.2.2.2.1) (hQ0.2.2.2.2.2.2.2.2.2.2.2.2.2.2.2.2))
  have hr : AM.RepVs AM.nb0 AM.X0 W [.agg (AM.cellsOf (.pair .bool (.pair .bool (.pair .bool (.pair .bool (.pair .bool (.pair .bool (.pair .bool (.pair .bool (.pair .bool (.pair .bool (.pair .bool (.pair .bool (.pair .bool (.pair (.int .i64) (.pair .bool (.pair .str .str)))))))))))))))) l0)] [.agg cs0] := ⟨⟨cs0.toList, repAgg cs0, AM.cellsOf_rep _ hK0⟩, trivial⟩
  have hc := AM.Phi.calls_bool Tryd.func4 (by kernel_rfl) (by kernel_rfl) hΦ hr (fun g t x h => by cases h)
  refine hc.mono fun e W' ⟨he, bel0⟩ => ?_
  have bel : Below W.heap.size W W' := bel0
  subst he
  exact ⟨_, rfl, _, _, _, [], _, [], hW', trodAll_mk1 (shut_bool Tryd.underlying4 _), (trodAll_cons_mk (Below.trod laidOut (by kernel_rfl) (of_decide_eq_true (by kernel_rfl)) k0 bel lt0) trodAll_mk0), rfl, bel.frame _, fun h => by cases h⟩
theorem over : Rows.fnExactShowOptsRow.holds Tryd.pinned (OpenSpec.ofChange Rows.fnExactShowOptsSpec) :=
  OpenClaim.holds_of_wide 4 Tryd.f4 rfl rfl rfl rfl rfl rfl rfl ⟨rfl, rfl, rfl, rfl, rfl⟩ rfl rfl rfl rfl rfl (by kernel_rfl) Tryd.func4 (by kernel_rfl)
    (of_decide_eq_true (by kernel_rfl)) (by unfold Func.isWrapper; first | (rw [if_pos (by decide +kernel)]; kernel_rfl) | (rw [if_neg (by decide +kernel)]; exact ⟨rfl, rfl⟩))
    (fun os started H enc _ => lifted os started H enc)
theorem row_holds : Rows.FnExactShowOptsSaid := over
theorem proved : Rows.FnExactShowOptsCardSaid :=
  Claim7.holds_tied_plain_at .later [] [.data, .pinned] true (true, "6a583b7f616b351d00d7d357a7fc42aafb0e8f77966b8f1f2041e42f42403504") false row_holds (fun _ h => by cases h) (by kernel_rfl) (fun _ h => by cases h) fnExactShowOpts_row_tie rfl ⟨rfl, rfl⟩ (by kernel_rfl) rfl
    (fun f fn hf hfn => by
      obtain rfl : f = 4 := Option.some.inj ((show Tryd.prog.funcNamed "loop.example/g00100/laws.FnExactShowOpts" = some 4 by kernel_rfl).symm.trans hf) |>.symm
      obtain rfl : fn = Tryd.f4 := (Option.some.inj (Tryd.func4.symm.trans hfn)).symm
      exact ⟨by kernel_rfl, fun j t ht => by
        rw [Tryd.params4] at ht
        have hm : t ∈ [45] := by simpa using Array.mem_of_getElem? ht
        have hall : ([45].all fun u => !Tryd.prog.wantsStandIn u) = true := by kernel_rfl
        exact (show Tryd.prog.wantsStandIn t = false by simpa using List.all_eq_true.1 hall t hm)⟩)
    (by kernel_rfl)
#print axioms proved
end Go.Proofs.YtkjbhlhebjfklaaDoor.fnExactShowOpts
namespace Go.Proofs.YtkjbhlhebjfklaaDoor
/-- The statement, under a short name, for the claim. -/
theorem fnExactShowOpts_holds : Rows.FnExactShowOptsCardSaid := fnExactShowOpts.proved
end Go.Proofs.YtkjbhlhebjfklaaDoor
