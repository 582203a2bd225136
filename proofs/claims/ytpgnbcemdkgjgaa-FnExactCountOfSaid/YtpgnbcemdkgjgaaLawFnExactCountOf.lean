/- The law FnExactCountOf: at every argument the call returns true, and each argument reads behind it as it read before. Conditions: none. -/
import Derived.Test.YtpgnbcemdkgjgaaRows
import Derived.Test.YtpgnbcemdkgjgaaPFnExactCountOfx2
import Derived.Test.YtpgnbcemdkgjgaaQFnExactCountOf
import Derived.Test.YtpgnbcemdkgjgaaPureFnExactCountOf
import Derived.Test.YtpgnbcemdkgjgaaFr
import Derived.WalkKit
import Derived.ProofKit
import Derived.OpenShut
import Derived.ShutString
import Derived.ChangeOld
import Derived.Below
import Derived.SizedLaws
import Derived.Carry
namespace Go.Proofs.Ytpgnbcemdkgjgaa.fnExactCountOf
open Go.ChangeShapes Go.WideShapes Go.ChangeAt Go.RowKit
open Go.ChangeMaps (open_string shut_string)
open Go.Proofs.YtpgnbcemdkgjgaaFr Go.Proofs.Ytpgnbcemdkgjgaa.PFnExactCountOf Go.Proofs.Ytpgnbcemdkgjgaa.QFnExactCountOf
open Go.Proofs.YtpgnbcemdkgjgaaW.PrintWords (Kd)
set_option linter.unusedVariables false
theorem own : ownKnob Try.prog.godebug = none := by kernel_rfl
theorem laidOut : laidOutB Try.prog = true := by kernel_rfl
set_option maxRecDepth 100000 in
theorem lifted (os : Os) (started : os.Started) (H : Type) (enc : TypeId × Value → H) :
    ReturnsInHanded {} Try.checked os 7 .any (Rows.fnExactCountOfSpec.pre6 enc Try.prog Try.f7 Rows.fnExactCountOfRow.domain false) (Rows.fnExactCountOfSpec.post enc Try.prog Try.f7 false true false false) := by
  refine returnsInHanded_of_change_sized (C := Try.checked) own started (by kernel_rfl) Try.func7
    (ChangeSpec.witness6 (enc := enc) (C := Try.checked) false ⟨#[], #[.slice none 0 0, .int .i64 0], []⟩ 8 (by kernel_rfl) (by kernel_rfl) (by kernel_rfl) (by kernel_rfl)) ?_
  intro W base args ds gs before hval0 hW hcnd hsz0 _
  have hsz : (DataW.weightsEach Try.prog (Try.f7.params.toList ++ Rows.fnExactCountOfSpec.plain.varTypes Try.prog) (ds ++ gs)).all (· ≤ reachBytes) = true := hsz0
  have hval : ∀ (j : Nat) t v, Try.f7.params[j]? = some t → args[j]? = some v → Value.okWide Try.prog W .any base t v := hval0
  have hW' := hW
  obtain ⟨p, q, hA0, hV, rfl, hfz, hnd⟩ := hW
  have hA : DataW.TrodAll enc Try.prog W 0 (fun _ => true) true Try.f7.params.toList args.toList ds p := hA0
  rw [Try.params7] at hA hval hsz
  obtain ⟨v0, vs0, d0, ds0, p0, q0, hargs, rfl, rfl, h0, r0⟩ := trodAll_cons hA
  obtain ⟨v1, vs1, d1, ds1, p1, q1, rfl, rfl, rfl, h1, r1⟩ := trodAll_cons r0
  obtain ⟨rfl, rfl, rfl⟩ := trodAll_nil r1
  obtain rfl : args = #[v0, v1] := by cases args; simp_all
  obtain ⟨rfl, rfl⟩ := trodVars_none hV
  have k0 := h0
  have lt0 : ∀ x ∈ p0, x.block < W.heap.size := by obtain ⟨m, hm⟩ := k0; exact DataW.trod_lt m _ _ _ hm
  obtain ⟨fuel0, hf0⟩ := h0
  obtain ⟨b0, n0, c0, rfl⟩ := okWide_slice Try.underlying51 (hval 0 51 v0 rfl rfl)
  obtain ⟨l0, hK0, hl0, hQ0⟩ := (opens_slice Try.underlying51 (by kernel_rfl) (opens_struct 16 Try.underlying73 (by kernel_rfl) (opens_cons (opens_int Try.underlying3) (by kernel_rfl) (opens_cons (opens_string Try.underlying9) (by kernel_rfl) (opens_cons (opens_struct 7 Try.underlying23 (by kernel_rfl) (opens_cons (opens_string Try.underlying9) (by kernel_rfl) (opens_cons (opens_int Try.underlying3) (by kernel_rfl) (opens_cons (opens_int Try.underlying3) (by kernel_rfl) (opens_cons (opens_int Try.underlying3) (by kernel_rfl) (opens_cons (opens_string Try.underlying9) (by kernel_rfl) (opens_cons (opens_string Try.underlying9) (by kernel_rfl) (opens_last (opens_int Try.underlying3) (by kernel_rfl) (by kernel_rfl)))))))) (fun x : S23 => (x.f0, x.f1, x.f2, x.f3, x.f4, x.f5, x.f6)) (fun a => ⟨a.1, a.2.1, a.2.2.1, a.2.2.2.1, a.2.2.2.2.1, a.2.2.2.2.2.1, a.2.2.2.2.2.2⟩) (fun _ => rfl)) (by kernel_rfl) (opens_last (opens_struct 7 Try.underlying23 (by kernel_rfl) (opens_cons (opens_string Try.underlying9) (by kernel_rfl) (opens_cons (opens_int Try.underlying3) (by kernel_rfl) (opens_cons (opens_int Try.underlying3) (by kernel_rfl) (opens_cons (opens_int Try.underlying3) (by kernel_rfl) (opens_cons (opens_string Try.underlying9) (by kernel_rfl) (opens_cons (opens_string Try.underlying9) (by kernel_rfl) (opens_last (opens_int Try.underlying3) (by kernel_rfl) (by kernel_rfl)))))))) (fun x : S23 => (x.f0, x.f1, x.f2, x.f3, x.f4, x.f5, x.f6)) (fun a => ⟨a.1, a.2.1, a.2.2.1, a.2.2.2.1, a.2.2.2.2.1, a.2.2.2.2.2.1, a.2.2.2.2.2.2⟩) (fun _ => rfl)) (by kernel_rfl) (by kernel_rfl))))) (fun x : S73 => (x.f0, x.f1, x.f2, x.f3)) (fun a => ⟨a.1, a.2.1, a.2.2.1, a.2.2.2⟩) (fun _ => rfl))) enc W 0 _ _ fuel0 _ _ hf0
  have hK0_ : [Value.slice b0 n0 c0] = (Value.slice b0 n0 c0).cells.toList := rfl
  rw [← hK0_] at hK0
  obtain ⟨A0, e0, hs0, hr0, hc0⟩ := hK0
  simp only [List.cons.injEq, Value.slice.injEq, and_true] at hs0
  obtain ⟨rfl, rfl, rfl⟩ := hs0
  obtain ⟨a1, rfl, rfl, rfl, w1⟩ := open_int Try.underlying3 (hval 1 3 v1 rfl rfl) h1
  clear hA0 hval0 hsz0 hsz
  obtain ⟨k, hk⟩ := Pure.FnExactCountOf l0 a1 hl0 hQ0 w1
  refine (laws_FnExactCountOf.calls k _ _ _ _ true W hc0 hr0 hk).mono fun e W' ⟨he, bel0⟩ => ?_
  have bel : Below W.heap.size W W' := bel0
  subst he
  exact ⟨_, rfl, _, _, _, [], _, [], hW', trodAll_mk1 (shut_bool Try.underlying4 _), (trodAll_cons_mk (Below.trod laidOut (by kernel_rfl) (of_decide_eq_true (by kernel_rfl)) k0 bel lt0) (trodAll_cons_mk (shut_int Try.underlying3 w1) trodAll_mk0)), rfl, bel.frame _, fun h => by cases h⟩
theorem over : Rows.fnExactCountOfRow.holds Try.pinned (OpenSpec.ofChange Rows.fnExactCountOfSpec) :=
  OpenClaim.holds_of_wide 7 Try.f7 rfl rfl rfl rfl rfl rfl rfl ⟨rfl, rfl, rfl, rfl, rfl⟩ rfl rfl rfl rfl rfl (by kernel_rfl) Try.func7 (by kernel_rfl)
    (of_decide_eq_true (by kernel_rfl)) (by unfold Func.isWrapper; first | (rw [if_pos (by decide +kernel)]; kernel_rfl) | (rw [if_neg (by decide +kernel)]; exact ⟨rfl, rfl⟩))
    (fun os started H enc _ => lifted os started H enc)
theorem proved : Rows.FnExactCountOfSaid := over
#print axioms proved
end Go.Proofs.Ytpgnbcemdkgjgaa.fnExactCountOf
namespace Go.Proofs.Ytpgnbcemdkgjgaa
/-- The row, under a short name, for the claim. -/
theorem fnExactCountOf_holds : Rows.FnExactCountOfSaid := fnExactCountOf.proved
end Go.Proofs.Ytpgnbcemdkgjgaa
