/- The law FnExactFirstMeant: at every argument the call returns true, and each argument reads behind it as it read before. Conditions: none. -/
import Derived.Test.YtpfpjdaodbgleaaRows
import Derived.Test.YtpfpjdaodbgleaaWkFnExactFirstMeant
import Derived.Test.YtpfpjdaodbgleaaPuFnExactFirstMeant
import Derived.WalkKit
import Derived.ProofKit
import Derived.OpenShut
import Derived.ShutString
import Derived.ChangeOld
import Derived.Below
import Derived.SizedLaws
import Derived.Carry
namespace Go.Proofs.Ytpfpjdaodbgleaa.fnExactFirstMeant
open Go.ChangeShapes Go.WideShapes Go.ChangeAt Go.RowKit
open Go.ChangeMaps (open_string shut_string)
set_option linter.unusedVariables false
theorem own : ownKnob Try.prog.godebug = none := by kernel_rfl
theorem laidOut : laidOutB Try.prog = true := by kernel_rfl
theorem repStr (a : ByteArray) : Value.string a = Value.string ⟨a.data.toList.toArray⟩ := by cases a; simp
set_option maxRecDepth 100000 in
theorem lifted (os : Os) (started : os.Started) (H : Type) (enc : TypeId × Value → H) :
    ReturnsInHanded {} Try.checked os 5 .any (Rows.fnExactFirstMeantSpec.pre6 enc Try.prog Try.f5 Rows.fnExactFirstMeantRow.domain false) (Rows.fnExactFirstMeantSpec.post enc Try.prog Try.f5 false true false false) := by
  refine returnsInHanded_of_change_sized (C := Try.checked) own started (by kernel_rfl) Try.func5
    (ChangeSpec.witness6 (enc := enc) (C := Try.checked) false ⟨#[], #[.string ByteArray.empty, .slice none 0 0], []⟩ 8 (by kernel_rfl) (by kernel_rfl) (by kernel_rfl) (by kernel_rfl)) ?_
  intro W base args ds gs before hval0 hW hcnd hsz0 _
  have hsz : (DataW.weightsEach Try.prog (Try.f5.params.toList ++ Rows.fnExactFirstMeantSpec.plain.varTypes Try.prog) (ds ++ gs)).all (· ≤ reachBytes) = true := hsz0
  have hval : ∀ (j : Nat) t v, Try.f5.params[j]? = some t → args[j]? = some v → Value.okWide Try.prog W .any base t v := hval0
  have hW' := hW
  obtain ⟨p, q, hA0, hV, rfl, hfz, hnd⟩ := hW
  have hA : DataW.TrodAll enc Try.prog W 0 (fun _ => true) true Try.f5.params.toList args.toList ds p := hA0
  rw [Try.params5] at hA hval hsz
  obtain ⟨v0, vs0, d0, ds0, p0, q0, hargs, rfl, rfl, h0, r0⟩ := trodAll_cons hA
  obtain ⟨v1, vs1, d1, ds1, p1, q1, rfl, rfl, rfl, h1, r1⟩ := trodAll_cons r0
  obtain ⟨rfl, rfl, rfl⟩ := trodAll_nil r1
  obtain rfl : args = #[v0, v1] := by cases args; simp_all
  obtain ⟨rfl, rfl⟩ := trodVars_none hV
  obtain ⟨a0, rfl, rfl, rfl, y0⟩ := open_string Try.underlying9 (hval 0 9 v0 rfl rfl) h0
  have w0 : a0.size ≤ 140737488351232 := by
    have z := sized_string hsz (j := 0) (t := 9) rfl rfl
    rw [Array.length_toList] at z
    exact z
  have k1 := h1
  have lt1 : ∀ x ∈ p1, x.block < W.heap.size := by obtain ⟨m, hm⟩ := k1; exact DataW.trod_lt m _ _ _ hm
  obtain ⟨fuel1, hf1⟩ := h1
  obtain ⟨b1, n1, c1, rfl⟩ := okWide_slice Try.underlying24 (hval 1 24 v1 rfl rfl)
  obtain ⟨l1, hK1, hQ1⟩ := (AM.opR_list Try.underlying24 (by kernel_rfl) (by decide) (AM.opR_str Try.underlying9)) enc W 0 _ _ fuel1 _ _ hf1
  clear hA0 hval0 hsz0 hsz
  have hΦ : AM.Phi AM.Ytpfpjdaodbgleaa.P AM.Ytpfpjdaodbgleaa.cx 5 [.one (.str a0.data.toList), .one (.list .str l1)] [] (.one (.bool true)) [] := AM.Ytpfpjdaodbgleaa.v_laws_FnExactFirstMeant ((a0.data.toList, l1, ()), ()) (true, ()) (AM.law_FirstMeant a0.data.toList l1 hQ1.1)
  have hr : AM.RepVs AM.nb0 AM.X0 W [.one (.str a0.data.toList), .one (.list .str l1)] [.string a0, .slice b1 n1 c1] := ⟨repStr a0, hK1, trivial⟩
  have hc := AM.Phi.calls_bool Try.func5 (by kernel_rfl) (by kernel_rfl) hΦ hr (fun g t x h => by cases h)
  refine hc.mono fun e W' ⟨he, bel0⟩ => ?_
  have bel : Below W.heap.size W W' := bel0
  subst he
  exact ⟨_, rfl, _, _, _, [], _, [], hW', trodAll_mk1 (shut_bool Try.underlying4 _), (trodAll_cons_mk (shut_string Try.underlying9 y0) (trodAll_cons_mk (Below.trod laidOut (by kernel_rfl) (of_decide_eq_true (by kernel_rfl)) k1 bel lt1) trodAll_mk0)), rfl, bel.frame _, fun h => by cases h⟩
theorem over : Rows.fnExactFirstMeantRow.holds Try.pinned (OpenSpec.ofChange Rows.fnExactFirstMeantSpec) :=
  OpenClaim.holds_of_wide 5 Try.f5 rfl rfl rfl rfl rfl rfl rfl ⟨rfl, rfl, rfl, rfl, rfl⟩ rfl rfl rfl rfl rfl (by kernel_rfl) Try.func5 (by kernel_rfl)
    (of_decide_eq_true (by kernel_rfl)) (by unfold Func.isWrapper; first | (rw [if_pos (by decide +kernel)]; kernel_rfl) | (rw [if_neg (by decide +kernel)]; exact ⟨rfl, rfl⟩))
    (fun os started H enc _ => lifted os started H enc)
theorem proved : Rows.FnExactFirstMeantSaid := over
#print axioms proved
end Go.Proofs.Ytpfpjdaodbgleaa.fnExactFirstMeant
namespace Go.Proofs.Ytpfpjdaodbgleaa
/-- The row, under a short name, for the claim. -/
theorem fnExactFirstMeant_holds : Rows.FnExactFirstMeantSaid := fnExactFirstMeant.proved
end Go.Proofs.Ytpfpjdaodbgleaa
