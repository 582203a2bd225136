/- ParseOpts of the program answers as the reference's ParseOpts. -/
import Derived.Test.YtkjbhlhebjfklaaDoorRows
import Derived.Test.YtkjbhlhebjfklaaDoorWkFnExactParseOpts
import Derived.Test.YtkjbhlhebjfklaaDoorPuFnExactParseOpts
import Derived.Test.YtkjbhlhebjfklaaDoorTie
import Derived.Test.YtkjbhlhebjfklaaDoorCards
import Derived.LaidMore
import Derived.Lay
import Derived.SevenTiedAt
import Derived.Stop.Joined
import Derived.WalkKit
import Derived.ProofKit
import Derived.OpenShut
import Derived.ShutString
import Derived.ChangeOld
import Derived.Below
import Derived.SizedLaws
import Derived.Carry
import Derived.Shelf.Vars
namespace Go.Proofs.YtkjbhlhebjfklaaDoor.fnExactParseOpts
open Go.ChangeShapes Go.WideShapes Go.ChangeAt Go.RowKit
open Go.ChangeMaps (open_string shut_string)
set_option linter.unusedVariables false
theorem own : ownKnob Tryd.prog.godebug = none := by kernel_rfl
theorem laidOut : laidOutB Tryd.prog = true := by kernel_rfl
theorem repStr (a : ByteArray) : Value.string a = Value.string ⟨a.data.toList.toArray⟩ := by cases a; simp
theorem repAgg (a : Array Value) : Value.agg a = Value.agg (List.toArray a.toList) := by simp
set_option maxRecDepth 100000 in
theorem lifted (os : Os) (started : os.Started) (H : Type) (enc : TypeId × Value → H) :
    ReturnsInHanded {} Tryd.checked os 5 .any (fun w args => (Rows.fnExactParseOptsSpec.pre enc Tryd.prog Tryd.f5 Rows.fnExactParseOptsRow.domain false w args ∧ laidMetH Tryd.prog Rows.fnExactParseOptsRow.laid w) ∧ sizedMet enc Tryd.prog Tryd.f5 (OpenSpec.ofChange Rows.fnExactParseOptsSpec) false w args) (Rows.fnExactParseOptsSpec.post enc Tryd.prog Tryd.f5 false true false false) := by
  refine returnsInHanded_of_change_and (C := Tryd.checked) (X := fun w _ => laidMetH Tryd.prog Rows.fnExactParseOptsRow.laid w) (fun _ _ _ hh h => h.of_heap hh) own started (by kernel_rfl) Tryd.func5
    (ChangeSpec.witness_shaped (enc := enc) (C := Tryd.checked) (os := os) (X := fun w _ => laidMetH Tryd.prog Rows.fnExactParseOptsRow.laid w) false (World.laidAll Tryd.prog os Rows.fnExactParseOptsRow.laid) #[.string ByteArray.empty] 8 (World.laidAll_os _ _ _)
      (World.shaped_of_ZipB (by kernel_rfl) (by kernel_rfl)) (by kernel_rfl) (by kernel_rfl) (by kernel_rfl)
      (by rw [MakeChecks.laidMetH_plain _ _ _ (by kernel_rfl)]; exact laidMet_laidAll _ (by kernel_rfl) (by kernel_rfl))) ?_
  intro W base args ds gs before hval0 hW hcnd hsz0 hL hSh
  have hsz : (DataW.weightsEach Tryd.prog (Tryd.f5.params.toList ++ Rows.fnExactParseOptsSpec.plain.varTypes Tryd.prog) (ds ++ gs)).all (· ≤ reachBytes) = true := hsz0
  have hval : ∀ (j : Nat) t v, Tryd.f5.params[j]? = some t → args[j]? = some v → Value.okWide Tryd.prog W .any base t v := hval0
  have hW' := hW
  obtain ⟨p, q, hA0, hV, rfl, hfz, hnd⟩ := hW
  have hA : DataW.TrodAll enc Tryd.prog W 0 (fun _ => true) true Tryd.f5.params.toList args.toList ds p := hA0
  rw [Tryd.params5] at hA hval hsz
  obtain ⟨v0, vs0, d0, ds0, p0, q0, hargs, rfl, rfl, h0, r0⟩ := trodAll_cons hA
  obtain ⟨rfl, rfl, rfl⟩ := trodAll_nil r0
  obtain rfl : args = #[v0] := by cases args; simp_all
  obtain ⟨rfl, rfl⟩ := trodVars_none hV
  obtain ⟨a0, rfl, rfl, rfl, y0⟩ := open_string Tryd.underlying9 (hval 0 9 v0 rfl rfl) h0
  have w0 : a0.size ≤ 140737488351232 := by
    have z := sized_string hsz (j := 0) (t := 9) rfl rfl
    rw [Array.length_toList] at z
    exact z
  clear hA0 hval0 hsz0 hsz
  have hΦ : AM.Phi AM.YtkjbhlhebjfklaaDoor.P AM.YtkjbhlhebjfklaaDoor.cx 5 [.one (.str a0.data.toList)] [] (.one (.bool true)) [] := AM.YtkjbhlhebjfklaaDoor.v_laws_FnExactParseOpts ((a0.data.toList, ()), ()) (true, ()) (AM.law_ParseOpts a0.data.toList)
  have hr : AM.RepVs AM.nb0 AM.X0 W [.one (.str a0.data.toList)] [.string a0] := ⟨repStr a0, trivial⟩
  have hc := AM.Phi.calls_bool Tryd.func5 (by kernel_rfl) (by kernel_rfl) hΦ hr (fun g t x h => by cases h)
  refine hc.mono fun e W' ⟨he, bel0⟩ => ?_
  have bel : Below W.heap.size W W' := bel0
  subst he
  exact ⟨_, rfl, _, _, _, [], _, [], hW', trodAll_mk1 (shut_bool Tryd.underlying4 _), (trodAll_cons_mk (shut_string Tryd.underlying9 y0) trodAll_mk0), rfl, bel.frame _, fun h => by cases h⟩
theorem over : Rows.fnExactParseOptsRow.holds Tryd.pinned (OpenSpec.ofChange Rows.fnExactParseOptsSpec) :=
  OpenClaim.holds_of_wide 5 Tryd.f5 rfl rfl rfl rfl rfl rfl rfl ⟨rfl, rfl, rfl, rfl, rfl⟩ rfl rfl rfl rfl rfl (by kernel_rfl) Tryd.func5 (by kernel_rfl)
    (of_decide_eq_true (by kernel_rfl)) (by unfold Func.isWrapper; first | (rw [if_pos (by decide +kernel)]; kernel_rfl) | (rw [if_neg (by decide +kernel)]; exact ⟨rfl, rfl⟩))
    (fun os started H enc _ => lifted os started H enc)
theorem row_holds : Rows.FnExactParseOptsSaid := over
theorem proved : Rows.FnExactParseOptsCardSaid :=
  Claim7.holds_tied_plain_at .later [] [.data, .pinned] true (true, "6a583b7f616b351d00d7d357a7fc42aafb0e8f77966b8f1f2041e42f42403504") false row_holds (fun _ h => by cases h) (by kernel_rfl) (fun _ h => by cases h) fnExactParseOpts_row_tie rfl ⟨rfl, rfl⟩ (by kernel_rfl) rfl
    (fun f fn hf hfn => by
      obtain rfl : f = 5 := Option.some.inj ((show Tryd.prog.funcNamed "loop.example/g00100/laws.FnExactParseOpts" = some 5 by kernel_rfl).symm.trans hf) |>.symm
      obtain rfl : fn = Tryd.f5 := (Option.some.inj (Tryd.func5.symm.trans hfn)).symm
      exact ⟨by kernel_rfl, fun j t ht => by
        rw [Tryd.params5] at ht
        have hm : t ∈ [9] := by simpa using Array.mem_of_getElem? ht
        have hall : ([9].all fun u => !Tryd.prog.wantsStandIn u) = true := by kernel_rfl
        exact (show Tryd.prog.wantsStandIn t = false by simpa using List.all_eq_true.1 hall t hm)⟩)
    (by kernel_rfl)
#print axioms proved
end Go.Proofs.YtkjbhlhebjfklaaDoor.fnExactParseOpts
namespace Go.Proofs.YtkjbhlhebjfklaaDoor
/-- The statement, under a short name, for the claim. -/
theorem fnExactParseOpts_holds : Rows.FnExactParseOptsCardSaid := fnExactParseOpts.proved
end Go.Proofs.YtkjbhlhebjfklaaDoor
