/- The program's BackupPath returns what the reference's returns, for all arguments. -/
import Derived.Test.YtkbaoeklchdioaaDoorRows
import Derived.Test.YtkbaoeklchdioaaDoorWkFnExactBackupPath
import Derived.Test.YtkbaoeklchdioaaDoorPuFnExactBackupPath
import Derived.Test.YtkbaoeklchdioaaDoorTie
import Derived.Test.YtkbaoeklchdioaaDoorCards
import Derived.LaidMore
import Derived.Lay
import Derived.SevenTiedAt
import Derived.Stop.Joined
import Derived.WalkKit
import Derived.ProofKit
import Derived.OpenShut
import Derived.ShutString
import Derived.ChangeOld
import Derived.Below
import Derived.SizedLaws
import Derived.Carry
namespace Go.Proofs.YtkbaoeklchdioaaDoor.fnExactBackupPath
open Go.ChangeShapes Go.WideShapes Go.ChangeAt Go.RowKit
open Go.ChangeMaps (open_string shut_string)
set_option linter.unusedVariables false
theorem own : ownKnob Tryd.prog.godebug = none := by kernel_rfl
theorem laidOut : laidOutB Tryd.prog = true := by kernel_rfl
theorem repStr (a : ByteArray) : Value.string a = Value.string ⟨a.data.toList.toArray⟩ := by cases a; simp
theorem repAgg (a : Array Value) : Value.agg a = Value.agg (List.toArray a.toList) := by simp
set_option maxRecDepth 100000 in
theorem lifted (os : Os) (started : os.Started) (H : Type) (enc : TypeId × Value → H) :
    ReturnsInHanded {} Tryd.checked os 4 .any (fun w args => (Rows.fnExactBackupPathSpec.pre enc Tryd.prog Tryd.f4 Rows.fnExactBackupPathRow.domain false w args ∧ laidMetH Tryd.prog Rows.fnExactBackupPathRow.laid w) ∧ sizedMet enc Tryd.prog Tryd.f4 (OpenSpec.ofChange Rows.fnExactBackupPathSpec) false w args) (Rows.fnExactBackupPathSpec.post enc Tryd.prog Tryd.f4 false true false false) := by
  refine returnsInHanded_of_change_and (C := Tryd.checked) (X := fun w _ => laidMetH Tryd.prog Rows.fnExactBackupPathRow.laid w) (fun _ _ _ hh h => h.of_heap hh) own started (by kernel_rfl) Tryd.func4
    (ChangeSpec.witness_shaped (enc := enc) (C := Tryd.checked) (os := os) (X := fun w _ => laidMetH Tryd.prog Rows.fnExactBackupPathRow.laid w) false (World.laidAll Tryd.prog os Rows.fnExactBackupPathRow.laid) #[.agg #[.bool false, .bool false, .bool false, .bool false, .bool false, .bool false, .bool false, .bool false, .bool false, .bool false, .bool false, .bool false, .bool false, .int .i64 0, .bool false, .string ByteArray.empty, .string ByteArray.empty], .string ByteArray.empty] 8 (World.laidAll_os _ _ _)
      (World.shaped_of_ZipB (by kernel_rfl) (by kernel_rfl)) (by kernel_rfl) (by kernel_rfl) (by kernel_rfl)
      (by rw [MakeChecks.laidMetH_plain _ _ _ (by kernel_rfl)]; exact laidMet_laidAll _ (by kernel_rfl) (by kernel_rfl))) ?_
  intro W base args ds gs before hval0 hW hcnd hsz0 hL _
  have hsz : (DataW.weightsEach Tryd.prog (Tryd.f4.params.toList ++ Rows.fnExactBackupPathSpec.plain.varTypes Tryd.prog) (ds ++ gs)).all (· ≤ reachBytes) = true := hsz0
  have hval : ∀ (j : Nat) t v, Tryd.f4.params[j]? = some t → args[j]? = some v → Value.okWide Tryd.prog W .any base t v := hval0
  have hW' := hW
  obtain ⟨p, q, hA0, hV, rfl, hfz, hnd⟩ := hW
  have hA : DataW.TrodAll enc Tryd.prog W 0 (fun _ => true) true Tryd.f4.params.toList args.toList ds p := hA0
  rw [Tryd.params4] at hA hval hsz
  obtain ⟨v0, vs0, d0, ds0, p0, q0, hargs, rfl, rfl, h0, r0⟩ := trodAll_cons hA
  obtain ⟨v1, vs1, d1, ds1, p1, q1, rfl, rfl, rfl, h1, r1⟩ := trodAll_cons r0
  obtain ⟨rfl, rfl, rfl⟩ := trodAll_nil r1
  obtain rfl : args = #[v0, v1] := by cases args; simp_all
  obtain ⟨rfl, rfl⟩ := trodVars_none hV
  have k0 := h0
  have lt0 : ∀ x ∈ p0, x.block < W.heap.size := by obtain ⟨m, hm⟩ := k0; exact DataW.trod_lt m _ _ _ hm
  obtain ⟨fuel0, hf0⟩ := h0
  obtain ⟨cs0, rfl, _⟩ := okWide_struct Tryd.underlying23 (hval 0 23 v0 rfl rfl)
  obtain ⟨l0, hK0, hQ0⟩ := (AM.opR_struct 17 Tryd.underlying23 (by kernel_rfl) (AM.opR_cons (AM.opR_bool Tryd.underlying4) (by kernel_rfl) (AM.opR_cons (AM.opR_bool Tryd.underlying4) (by kernel_rfl) (AM.opR_cons (AM.opR_bool Tryd.underlying4) (by kernel_rfl) (AM.opR_cons (AM.opR_bool Tryd.underlying4) (by kernel_rfl) (AM.opR_cons (AM.opR_bool Tryd.underlying4) (by kernel_rfl) (AM.opR_cons (AM.opR_bool Tryd.underlying4) (by kernel_rfl) (AM.opR_cons (AM.opR_bool Tryd.underlying4) (by kernel_rfl) (AM.opR_cons (AM.opR_bool Tryd.underlying4) (by kernel_rfl) (AM.opR_cons (AM.opR_bool Tryd.underlying4) (by kernel_rfl) (AM.opR_cons (AM.opR_bool Tryd.underlying4) (by kernel_rfl) (AM.opR_cons (AM.opR_bool Tryd.underlying4) (by kernel_rfl) (AM.opR_cons (AM.opR_bool Tryd.underlying4) (by kernel_rfl) (AM.opR_cons (AM.opR_bool Tryd.underlying4) (by kernel_rfl) (AM.opR_cons (AM.opR_int Tryd.underlying3) (by kernel_rfl) (AM.opR_cons (AM.opR_bool Tryd.underlying4) (by kernel_rfl) (AM.opR_cons (AM.opR_str Tryd.underlying9) (by kernel_rfl) (AM.opR_last (AM.opR_str Tryd.underlying9) (by kernel_rfl) (by kernel_rfl))))))))))))))))))) enc W 0 _ _ fuel0 _ _ hf0
  obtain ⟨a1, rfl, rfl, rfl, y1⟩ := open_string Tryd.underlying9 (hval 1 9 v1 rfl rfl) h1
  have w1 : a1.size ≤ 140737488351232 := by
    have z := sized_string hsz (j := 1) (t := 9) rfl rfl
    rw [Array.length_toList] at z
    exact z
  clear hA0 hval0 hsz0 hsz
  have hΦ : AM.Phi AM.YtkbaoeklchdioaaDoor.P AM.YtkbaoeklchdioaaDoor.cx 4 [.agg (AM.cellsOf (.pair .bool (.pair .bool (.pair .bool (.pair .bool (.pair .bool (.pair .bool (.pair .bool (.pair .bool (.pair .bool (.pair .bool (.pair .bool (.pair .bool (.pair .bool (.pair (.int .i64) (.pair .bool (.pair .str .str)))))))))))))))) l0), .one (.str a1.data.toList)] [] (.one (.bool true)) [] := AM.YtkbaoeklchdioaaDoor.v_laws_FnExactBackupPath ((l0, a1.data.toList, ()), ()) (true, ()) (AM.law_BackupPath l0 hQ0.2.2.2.2.2.2.2.2.2.2.2.2.2.2.2.1 hQ0.2.2.2.2.2.2.2.2.2.2.2.2.2.2.2.2 a1.data.toList)
  have hr : AM.RepVs AM.nb0 AM.X0 W [.agg (AM.cellsOf (.pair .bool (.pair .bool (.pair .bool (.pair .bool (.pair .bool (.pair .bool (.pair .bool (.pair .bool (.pair .bool (.pair .bool (.pair .bool (.pair .bool (.pair .bool (.pair (.int .i64) (.pair .bool (.pair .str .str)))))))))))))))) l0), .one (.str a1.data.toList)] [.agg cs0, .string a1] := ⟨⟨cs0.toList, repAgg cs0, AM.cellsOf_rep _ hK0⟩, repStr a1, trivial⟩
  have hc := AM.Phi.calls_bool Tryd.func4 (by kernel_rfl) (by kernel_rfl) hΦ hr (fun g t x h => by cases h)
  refine hc.mono fun e W' ⟨he, bel0⟩ => ?_
  have bel : Below W.heap.size W W' := bel0
  subst he
  exact ⟨_, rfl, _, _, _, [], _, [], hW', trodAll_mk1 (shut_bool Tryd.underlying4 _), (trodAll_cons_mk (Below.trod laidOut (by kernel_rfl) (of_decide_eq_true (by kernel_rfl)) k0 bel lt0) (trodAll_cons_mk (shut_string Tryd.underlying9 y1) trodAll_mk0)), rfl, bel.frame _, fun h => by cases h⟩
theorem over : Rows.fnExactBackupPathRow.holds Tryd.pinned (OpenSpec.ofChange Rows.fnExactBackupPathSpec) :=
  OpenClaim.holds_of_wide 4 Tryd.f4 rfl rfl rfl rfl rfl rfl rfl ⟨rfl, rfl, rfl, rfl, rfl⟩ rfl rfl rfl rfl rfl (by kernel_rfl) Tryd.func4 (by kernel_rfl)
    (of_decide_eq_true (by kernel_rfl)) (by unfold Func.isWrapper; first | (rw [if_pos (by decide +kernel)]; kernel_rfl) | (rw [if_neg (by decide +kernel)]; exact ⟨rfl, rfl⟩))
    (fun os started H enc _ => lifted os started H enc)
theorem row_holds : Rows.FnExactBackupPathSaid := over
theorem proved : Rows.FnExactBackupPathCardSaid :=
  Claim7.holds_tied_plain_at .later [] [.data, .pinned] true (true, "23a9990f060375b33b471dbcc2cd37ca88997fd8f46e72755301175d3646229b") false row_holds (fun _ h => by cases h) (by kernel_rfl) (fun _ h => by cases h) fnExactBackupPath_row_tie rfl ⟨rfl, rfl⟩ (by kernel_rfl) rfl
    (fun f fn hf hfn => by
      obtain rfl : f = 4 := Option.some.inj ((show Tryd.prog.funcNamed "loop.example/g00100/laws.FnExactBackupPath" = some 4 by kernel_rfl).symm.trans hf) |>.symm
      obtain rfl : fn = Tryd.f4 := (Option.some.inj (Tryd.func4.symm.trans hfn)).symm
      exact ⟨by kernel_rfl, fun j t ht => by
        rw [Tryd.params4] at ht
        have hm : t ∈ [23, 9] := by simpa using Array.mem_of_getElem? ht
        have hall : ([23, 9].all fun u => !Tryd.prog.wantsStandIn u) = true := by kernel_rfl
        exact (show Tryd.prog.wantsStandIn t = false by simpa using List.all_eq_true.1 hall t hm)⟩)
    (by kernel_rfl)
#print axioms proved
end Go.Proofs.YtkbaoeklchdioaaDoor.fnExactBackupPath
namespace Go.Proofs.YtkbaoeklchdioaaDoor
/-- The statement, under a short name, for the claim. -/
theorem fnExactBackupPath_holds : Rows.FnExactBackupPathCardSaid := fnExactBackupPath.proved
end Go.Proofs.YtkbaoeklchdioaaDoor
