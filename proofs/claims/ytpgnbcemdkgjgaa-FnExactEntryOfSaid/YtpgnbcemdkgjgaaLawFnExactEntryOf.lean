/- The law FnExactEntryOf: at every argument the call returns true, and each argument reads behind it as it read before. Conditions: none. -/
import Derived.Test.YtpgnbcemdkgjgaaRows
import Derived.Test.YtpgnbcemdkgjgaaPFnExactEntryOfx1
import Derived.Test.YtpgnbcemdkgjgaaQFnExactEntryOf
import Derived.Test.YtpgnbcemdkgjgaaPureFnExactEntryOf
import Derived.Test.YtpgnbcemdkgjgaaFr
import Derived.WalkKit
import Derived.ProofKit
import Derived.OpenShut
import Derived.ShutString
import Derived.ChangeOld
import Derived.Below
import Derived.SizedLaws
import Derived.Carry
namespace Go.Proofs.Ytpgnbcemdkgjgaa.fnExactEntryOf
open Go.ChangeShapes Go.WideShapes Go.ChangeAt Go.RowKit
open Go.ChangeMaps (open_string shut_string)
open Go.Proofs.YtpgnbcemdkgjgaaFr Go.Proofs.Ytpgnbcemdkgjgaa.PFnExactEntryOf Go.Proofs.Ytpgnbcemdkgjgaa.QFnExactEntryOf
open Go.Proofs.YtpgnbcemdkgjgaaW.PrintWords (Kd)
set_option linter.unusedVariables false
theorem own : ownKnob Try.prog.godebug = none := by kernel_rfl
theorem laidOut : laidOutB Try.prog = true := by kernel_rfl
set_option maxRecDepth 100000 in
theorem lifted (os : Os) (started : os.Started) (H : Type) (enc : TypeId × Value → H) :
    ReturnsInHanded {} Try.checked os 3 .any (Rows.fnExactEntryOfSpec.pre6 enc Try.prog Try.f3 Rows.fnExactEntryOfRow.domain false) (Rows.fnExactEntryOfSpec.post enc Try.prog Try.f3 false true false false) := by
  refine returnsInHanded_of_change_sized (C := Try.checked) own started (by kernel_rfl) Try.func3
    (ChangeSpec.witness6 (enc := enc) (C := Try.checked) false ⟨#[], #[.agg #[.string ByteArray.empty, .int .i64 0, .int .i64 0, .int .i64 0, .string ByteArray.empty, .string ByteArray.empty, .int .i64 0]], []⟩ 8 (by kernel_rfl) (by kernel_rfl) (by kernel_rfl) (by kernel_rfl)) ?_
  intro W base args ds gs before hval0 hW hcnd hsz0 _
  have hsz : (DataW.weightsEach Try.prog (Try.f3.params.toList ++ Rows.fnExactEntryOfSpec.plain.varTypes Try.prog) (ds ++ gs)).all (· ≤ reachBytes) = true := hsz0
  have hval : ∀ (j : Nat) t v, Try.f3.params[j]? = some t → args[j]? = some v → Value.okWide Try.prog W .any base t v := hval0
  have hW' := hW
  obtain ⟨p, q, hA0, hV, rfl, hfz, hnd⟩ := hW
  have hA : DataW.TrodAll enc Try.prog W 0 (fun _ => true) true Try.f3.params.toList args.toList ds p := hA0
  rw [Try.params3] at hA hval hsz
  obtain ⟨v0, vs0, d0, ds0, p0, q0, hargs, rfl, rfl, h0, r0⟩ := trodAll_cons hA
  obtain ⟨rfl, rfl, rfl⟩ := trodAll_nil r0
  obtain rfl : args = #[v0] := by cases args; simp_all
  obtain ⟨rfl, rfl⟩ := trodVars_none hV
  have k0 := h0
  have lt0 : ∀ x ∈ p0, x.block < W.heap.size := by obtain ⟨m, hm⟩ := k0; exact DataW.trod_lt m _ _ _ hm
  obtain ⟨fuel0, hf0⟩ := h0
  obtain ⟨cs0, rfl, _⟩ := okWide_struct Try.underlying23 (hval 0 23 v0 rfl rfl)
  obtain ⟨x0, hK0, hQ0⟩ := (opens_flat 7 Try.underlying23 (by kernel_rfl) (opens_cons (opens_string Try.underlying9) (by kernel_rfl) (opens_cons (opens_int Try.underlying3) (by kernel_rfl) (opens_cons (opens_int Try.underlying3) (by kernel_rfl) (opens_cons (opens_int Try.underlying3) (by kernel_rfl) (opens_cons (opens_string Try.underlying9) (by kernel_rfl) (opens_cons (opens_string Try.underlying9) (by kernel_rfl) (opens_last (opens_int Try.underlying3) (by kernel_rfl) (by kernel_rfl))))))))) enc W 0 _ _ fuel0 _ _ hf0
  have hcs0 : cs0 = #[.string x0.1, .int .i64 x0.2.1, .int .i64 x0.2.2.1, .int .i64 x0.2.2.2.1, .string x0.2.2.2.2.1, .string x0.2.2.2.2.2.1, .int .i64 x0.2.2.2.2.2.2] := by
    apply Array.toList_inj.1
    generalize hcs : Value.cells (.agg cs0) = z at hK0
    have hz : z.toList = cs0.toList := by rw [← hcs]; rfl
    rw [hz] at hK0
    clear hz hcs
    generalize cs0.toList = y at hK0
    obtain ⟨_, _, rfl, rfl, ⟨_, _, rfl, rfl, ⟨_, _, rfl, rfl, ⟨_, _, rfl, rfl, ⟨_, _, rfl, rfl, ⟨_, _, rfl, rfl, rfl⟩⟩⟩⟩⟩⟩ := hK0
    rfl
  subst hcs0
  clear hK0
  clear hA0 hval0 hsz0 hsz
  have hk := Pure.FnExactEntryOf (x0.1) (x0.2.1) (x0.2.2.1) (x0.2.2.2.1) (x0.2.2.2.2.1) (x0.2.2.2.2.2.1) (x0.2.2.2.2.2.2) (hQ0.1) (hQ0.2.1) (hQ0.2.2.1) (hQ0.2.2.2.1) (hQ0.2.2.2.2.1) (hQ0.2.2.2.2.2.1) (hQ0.2.2.2.2.2.2)
  refine (laws_FnExactEntryOf.calls _ _ _ _ _ _ _ true W hk).mono fun e W' ⟨he, bel0⟩ => ?_
  have bel : Below W.heap.size W W' := bel0
  subst he
  exact ⟨_, rfl, _, _, _, [], _, [], hW', trodAll_mk1 (shut_bool Try.underlying4 _), (trodAll_cons_mk (Below.trod laidOut (by kernel_rfl) (of_decide_eq_true (by kernel_rfl)) k0 bel lt0) trodAll_mk0), rfl, bel.frame _, fun h => by cases h⟩
theorem over : Rows.fnExactEntryOfRow.holds Try.pinned (OpenSpec.ofChange Rows.fnExactEntryOfSpec) :=
  OpenClaim.holds_of_wide 3 Try.f3 rfl rfl rfl rfl rfl rfl rfl ⟨rfl, rfl, rfl, rfl, rfl⟩ rfl rfl rfl rfl rfl (by kernel_rfl) Try.func3 (by kernel_rfl)
    (of_decide_eq_true (by kernel_rfl)) (by unfold Func.isWrapper; first | (rw [if_pos (by decide +kernel)]; kernel_rfl) | (rw [if_neg (by decide +kernel)]; exact ⟨rfl, rfl⟩))
    (fun os started H enc _ => lifted os started H enc)
theorem proved : Rows.FnExactEntryOfSaid := over
#print axioms proved
end Go.Proofs.Ytpgnbcemdkgjgaa.fnExactEntryOf
namespace Go.Proofs.Ytpgnbcemdkgjgaa
/-- The row, under a short name, for the claim. -/
theorem fnExactEntryOf_holds : Rows.FnExactEntryOfSaid := fnExactEntryOf.proved
end Go.Proofs.Ytpgnbcemdkgjgaa
