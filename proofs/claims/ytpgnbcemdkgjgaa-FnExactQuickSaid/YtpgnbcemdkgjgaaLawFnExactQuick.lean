/- The program's Quick returns what the reference's returns, for all arguments. -/
import Derived.Test.YtpgnbcemdkgjgaaRows
import Derived.Test.YtpgnbcemdkgjgaaWkFnExactQuick
import Derived.Test.YtpgnbcemdkgjgaaPuFnExactQuick
import Derived.WalkKit
import Derived.ProofKit
import Derived.OpenShut
import Derived.ShutString
import Derived.ChangeOld
import Derived.Below
import Derived.SizedLaws
import Derived.Carry
namespace Go.Proofs.Ytpgnbcemdkgjgaa.fnExactQuick
open Go.ChangeShapes Go.WideShapes Go.ChangeAt Go.RowKit
open Go.ChangeMaps (open_string shut_string)
set_option linter.unusedVariables false
theorem own : ownKnob Try.prog.godebug = none := by kernel_rfl
theorem laidOut : laidOutB Try.prog = true := by kernel_rfl
theorem repStr (a : ByteArray) : Value.string a = Value.string ⟨a.data.toList.toArray⟩ := by cases a; simp
theorem repAgg (a : Array Value) : Value.agg a = Value.agg (List.toArray a.toList) := by simp
set_option maxRecDepth 100000 in
theorem lifted (os : Os) (started : os.Started) (H : Type) (enc : TypeId × Value → H) :
    ReturnsInHanded {} Try.checked os 4 .any (Rows.fnExactQuickSpec.pre6 enc Try.prog Try.f4 Rows.fnExactQuickRow.domain false) (Rows.fnExactQuickSpec.post enc Try.prog Try.f4 false true false false) := by
  refine returnsInHanded_of_change_sized (C := Try.checked) own started (by kernel_rfl) Try.func4
    (ChangeSpec.witness6 (enc := enc) (C := Try.checked) false ⟨#[], #[.agg #[.string ByteArray.empty, .int .i64 0, .int .i64 0, .int .i64 0, .string ByteArray.empty, .string ByteArray.empty, .int .i64 0], .agg #[.string ByteArray.empty, .int .i64 0, .int .i64 0, .int .i64 0, .string ByteArray.empty, .string ByteArray.empty, .int .i64 0], .agg #[.bool false, .bool false, .bool false, .bool false, .bool false, .bool false, .bool false, .bool false, .bool false, .bool false, .bool false, .bool false, .bool false, .int .i64 0, .bool false, .string ByteArray.empty, .string ByteArray.empty]], []⟩ 8 (by kernel_rfl) (by kernel_rfl) (by kernel_rfl) (by kernel_rfl)) ?_
  intro W base args ds gs before hval0 hW hcnd hsz0 _
  have hsz : (DataW.weightsEach Try.prog (Try.f4.params.toList ++ Rows.fnExactQuickSpec.plain.varTypes Try.prog) (ds ++ gs)).all (· ≤ reachBytes) = true := hsz0
  have hval : ∀ (j : Nat) t v, Try.f4.params[j]? = some t → args[j]? = some v → Value.okWide Try.prog W .any base t v := hval0
  have hW' := hW
  obtain ⟨p, q, hA0, hV, rfl, hfz, hnd⟩ := hW
  have hA : DataW.TrodAll enc Try.prog W 0 (fun _ => true) true Try.f4.params.toList args.toList ds p := hA0
  rw [Try.params4] at hA hval hsz
  obtain ⟨v0, vs0, d0, ds0, p0, q0, hargs, rfl, rfl, h0, r0⟩ := trodAll_cons hA
  obtain ⟨v1, vs1, d1, ds1, p1, q1, rfl, rfl, rfl, h1, r1⟩ := trodAll_cons r0
  obtain ⟨v2, vs2, d2, ds2, p2, q2, rfl, rfl, rfl, h2, r2⟩ := trodAll_cons r1
  obtain ⟨rfl, rfl, rfl⟩ := trodAll_nil r2
  obtain rfl : args = #[v0, v1, v2] := by cases args; simp_all
  obtain ⟨rfl, rfl⟩ := trodVars_none hV
  have k0 := h0
  have lt0 : ∀ x ∈ p0, x.block < W.heap.size := by obtain ⟨m, hm⟩ := k0; exact DataW.trod_lt m _ _ _ hm
  obtain ⟨fuel0, hf0⟩ := h0
  obtain ⟨cs0, rfl, _⟩ := okWide_struct Try.underlying23 (hval 0 23 v0 rfl rfl)
  obtain ⟨l0, hK0, hQ0⟩ := (AM.opR_struct 7 Try.underlying23 (by kernel_rfl) (AM.opR_cons (AM.opR_str Try.underlying9) (by kernel_rfl) (AM.opR_cons (AM.opR_int Try.underlying3) (by kernel_rfl) (AM.opR_cons (AM.opR_int Try.underlying3) (by kernel_rfl) (AM.opR_cons (AM.opR_int Try.underlying3) (by kernel_rfl) (AM.opR_cons (AM.opR_str Try.underlying9) (by kernel_rfl) (AM.opR_cons (AM.opR_str Try.underlying9) (by kernel_rfl) (AM.opR_last (AM.opR_int Try.underlying3) (by kernel_rfl) (by kernel_rfl))))))))) enc W 0 _ _ fuel0 _ _ hf0
  have k1 := h1
  have lt1 : ∀ x ∈ p1, x.block < W.heap.size := by obtain ⟨m, hm⟩ := k1; exact DataW.trod_lt m _ _ _ hm
  obtain ⟨fuel1, hf1⟩ := h1
  obtain ⟨cs1, rfl, _⟩ := okWide_struct Try.underlying23 (hval 1 23 v1 rfl rfl)
  obtain ⟨l1, hK1, hQ1⟩ := (AM.opR_struct 7 Try.underlying23 (by kernel_rfl) (AM.opR_cons (AM.opR_str Try.underlying9) (by kernel_rfl) (AM.opR_cons (AM.opR_int Try.underlying3) (by kernel_rfl) (AM.opR_cons (AM.opR_int Try.underlying3) (by kernel_rfl) (AM.opR_cons (AM.opR_int Try.underlying3) (by kernel_rfl) (AM.opR_cons (AM.opR_str Try.underlying9) (by kernel_rfl) (AM.opR_cons (AM.opR_str Try.underlying9) (by kernel_rfl) (AM.opR_last (AM.opR_int Try.underlying3) (by kernel_rfl) (by kernel_rfl))))))))) enc W 0 _ _ fuel1 _ _ hf1
  have k2 := h2
  have lt2 : ∀ x ∈ p2, x.block < W.heap.size := by obtain ⟨m, hm⟩ := k2; exact DataW.trod_lt m _ _ _ hm
  obtain ⟨fuel2, hf2⟩ := h2
  obtain ⟨cs2, rfl, _⟩ := okWide_struct Try.underlying33 (hval 2 33 v2 rfl rfl)
  obtain ⟨l2, hK2, hQ2⟩ := (AM.opR_struct 17 Try.underlying33 (by kernel_rfl) (AM.opR_cons (AM.opR_bool Try.underlying4) (by kernel_rfl) (AM.opR_cons (AM.opR_bool Try.underlying4) (by kernel_rfl) (AM.opR_cons (AM.opR_bool Try.underlying4) (by kernel_rfl) (AM.opR_cons (AM.opR_bool Try.underlying4) (by kernel_rfl) (AM.opR_cons (AM.opR_bool Try.underlying4) (by kernel_rfl) (AM.opR_cons (AM.opR_bool Try.underlying4) (by kernel_rfl) (AM.opR_cons (AM.opR_bool Try.underlying4) (by kernel_rfl) (AM.opR_cons (AM.opR_bool Try.underlying4) (by kernel_rfl) (AM.opR_cons (AM.opR_bool Try.underlying4) (by kernel_rfl) (AM.opR_cons (AM.opR_bool Try.underlying4) (by kernel_rfl) (AM.opR_cons (AM.opR_bool Try.underlying4) (by kernel_rfl) (AM.opR_cons (AM.opR_bool Try.underlying4) (by kernel_rfl) (AM.opR_cons (AM.opR_bool Try.underlying4) (by kernel_rfl) (AM.opR_cons (AM.opR_int Try.underlying3) (by kernel_rfl) (AM.opR_cons (AM.opR_bool Try.underlying4) (by kernel_rfl) (AM.opR_cons (AM.opR_str Try.underlying9) (by kernel_rfl) (AM.opR_last (AM.opR_str Try.underlying9) (by kernel_rfl) (by kernel_rfl))))))))))))))))))) enc W 0 _ _ fuel2 _ _ hf2
  clear hA0 hval0 hsz0 hsz
  have hΦ : AM.Phi AM.Ytpgnbcemdkgjgaa.P AM.Ytpgnbcemdkgjgaa.cx 4 [.agg (AM.cellsOf (.pair .str (.pair (.int .i64) (.pair (.int .i64) (.pair (.int .i64) (.pair .str (.pair .str (.int .i64))))))) l0), .agg (AM.cellsOf (.pair .str (.pair (.int .i64) (.pair (.int .i64) (.pair (.int .i64) (.pair .str (.pair .str (.int .i64))))))) l1), .agg (AM.cellsOf (.pair .bool (.pair .bool (.pair .bool (.pair .bool (.pair .bool (.pair .bool (.pair .bool (.pair .bool (.pair .bool (.pair .bool (.pair .bool (.pair .bool (.pair .bool (.pair (.int .i64) (.pair .bool (.pair .str .str)))))))))))))))) l2)] [] (.one (.bool true)) [] := AM.Ytpgnbcemdkgjgaa.v_laws_FnExactQuick ((l0, l1, l2, ()), ()) (true, ()) (AM.law_Quick l0 l1 l2)
  have hr : AM.RepVs AM.nb0 AM.X0 W [.agg (AM.cellsOf (.pair .str (.pair (.int .i64) (.pair (.int .i64) (.pair (.int .i64) (.pair .str (.pair .str (.int .i64))))))) l0), .agg (AM.cellsOf (.pair .str (.pair (.int .i64) (.pair (.int .i64) (.pair (.int .i64) (.pair .str (.pair .str (.int .i64))))))) l1), .agg (AM.cellsOf (.pair .bool (.pair .bool (.pair .bool (.pair .bool (.pair .bool (.pair .bool (.pair .bool (.pair .bool (.pair .bool (.pair .bool (.pair .bool (.pair .bool (.pair .bool (.pair (.int .i64) (.pair .bool (.pair .str .str)))))))))))))))) l2)] [.agg cs0, .agg cs1, .agg cs2] := ⟨⟨cs0.toList, repAgg cs0, AM.cellsOf_rep _ hK0⟩, ⟨cs1.toList, repAgg cs1, AM.cellsOf_rep _ hK1⟩, ⟨cs2.toList, repAgg cs2, AM.cellsOf_rep _ hK2⟩, trivial⟩
  have hc := AM.Phi.calls_bool Try.func4 (by kernel_rfl) (by kernel_rfl) hΦ hr (fun g t x h => by cases h)
  refine hc.mono fun e W' ⟨he, bel0⟩ => ?_
  have bel : Below W.heap.size W W' := bel0
  subst he
  exact ⟨_, rfl, _, _, _, [], _, [], hW', trodAll_mk1 (shut_bool Try.underlying4 _), (trodAll_cons_mk (Below.trod laidOut (by kernel_rfl) (of_decide_eq_true (by kernel_rfl)) k0 bel lt0) (trodAll_cons_mk (Below.trod laidOut (by kernel_rfl) (of_decide_eq_true (by kernel_rfl)) k1 bel lt1) (trodAll_cons_mk (Below.trod laidOut (by kernel_rfl) (of_decide_eq_true (by kernel_rfl)) k2 bel lt2) trodAll_mk0))), rfl, bel.frame _, fun h => by cases h⟩
theorem over : Rows.fnExactQuickRow.holds Try.pinned (OpenSpec.ofChange Rows.fnExactQuickSpec) :=
  OpenClaim.holds_of_wide 4 Try.f4 rfl rfl rfl rfl rfl rfl rfl ⟨rfl, rfl, rfl, rfl, rfl⟩ rfl rfl rfl rfl rfl (by kernel_rfl) Try.func4 (by kernel_rfl)
    (of_decide_eq_true (by kernel_rfl)) (by unfold Func.isWrapper; first | (rw [if_pos (by decide +kernel)]; kernel_rfl) | (rw [if_neg (by decide +kernel)]; exact ⟨rfl, rfl⟩))
    (fun os started H enc _ => lifted os started H enc)
theorem proved : Rows.FnExactQuickSaid := over
#print axioms proved
end Go.Proofs.Ytpgnbcemdkgjgaa.fnExactQuick
namespace Go.Proofs.Ytpgnbcemdkgjgaa
/-- The statement, under a short name, for the claim. -/
theorem fnExactQuick_holds : Rows.FnExactQuickSaid := fnExactQuick.proved
end Go.Proofs.Ytpgnbcemdkgjgaa
