/- The lines of the deletions and of the other changes are together all lines, one for each change of a copy; with DeleteAfter the deletions are told last. -/
import Derived.Test.YtfhcllnhlblliaaGreatDoorRows
import Derived.Test.YtfhcllnhlblliaaGreatDoorWkFnItems
import Derived.Test.YtfhcllnhlblliaaGreatDoorPuFnItems
import Derived.Test.YtfhcllnhlblliaaGreatDoorTie
import Derived.Test.YtfhcllnhlblliaaGreatDoorCards
import Derived.LaidMore
import Derived.Lay
import Derived.SevenTiedAt
import Derived.Stop.Joined
import Derived.WalkKit
import Derived.ProofKit
import Derived.OpenShut
import Derived.ShutString
import Derived.ChangeOld
import Derived.Below
import Derived.SizedLaws
import Derived.Carry
import Derived.Shelf.Vars
namespace Go.Proofs.YtfhcllnhlblliaaGreatDoor.fnItems
open Go.ChangeShapes Go.WideShapes Go.ChangeAt Go.RowKit
open Go.ChangeMaps (open_string shut_string)
set_option linter.unusedVariables false
theorem own : ownKnob Tryz.prog.godebug = none := by kernel_rfl
theorem laidOut : laidOutB Tryz.prog = true := by kernel_rfl
theorem repStr (a : ByteArray) : Value.string a = Value.string ⟨a.data.toList.toArray⟩ := by cases a; simp
theorem repAgg (a : Array Value) : Value.agg a = Value.agg (List.toArray a.toList) := by simp
set_option maxRecDepth 100000 in
theorem lifted (os : Os) (started : os.Started) (H : Type) (enc : TypeId × Value → H) :
    ReturnsInHanded {} Tryz.checked os 3 .any (fun w args => (Rows.fnItemsSpec.pre enc Tryz.prog Tryz.f3 Rows.fnItemsRow.domain false w args ∧ laidMetH Tryz.prog Rows.fnItemsRow.laid w) ∧ sizedMet enc Tryz.prog Tryz.f3 (OpenSpec.ofChange Rows.fnItemsSpec) false w args) (Rows.fnItemsSpec.post enc Tryz.prog Tryz.f3 false true false false) := by
  refine returnsInHanded_of_change_and (C := Tryz.checked) (X := fun w _ => laidMetH Tryz.prog Rows.fnItemsRow.laid w) (fun _ _ _ hh h => h.of_heap hh) own started (by kernel_rfl) Tryz.func3
    (ChangeSpec.witness_shaped (enc := enc) (C := Tryz.checked) (os := os) (X := fun w _ => laidMetH Tryz.prog Rows.fnItemsRow.laid w) false (World.laidAll Tryz.prog os Rows.fnItemsRow.laid) #[.slice none 0 0] 8 (World.laidAll_os _ _ _)
      (World.shaped_of_ZipB (by kernel_rfl) (by kernel_rfl)) (by kernel_rfl) (by kernel_rfl) (by kernel_rfl)
      (by rw [MakeChecks.laidMetH_plain _ _ _ (by kernel_rfl)]; exact laidMet_laidAll _ (by kernel_rfl) (by kernel_rfl))) ?_
  intro W base args ds gs before hval0 hW hcnd hsz0 hL hSh
  have hsz : (DataW.weightsEach Tryz.prog (Tryz.f3.params.toList ++ Rows.fnItemsSpec.plain.varTypes Tryz.prog) (ds ++ gs)).all (· ≤ reachBytes) = true := hsz0
  have hval : ∀ (j : Nat) t v, Tryz.f3.params[j]? = some t → args[j]? = some v → Value.okWide Tryz.prog W .any base t v := hval0
  have hW' := hW
  obtain ⟨p, q, hA0, hV, rfl, hfz, hnd⟩ := hW
  have hA : DataW.TrodAll enc Tryz.prog W 0 (fun _ => true) true Tryz.f3.params.toList args.toList ds p := hA0
  rw [Tryz.params3] at hA hval hsz
  obtain ⟨v0, vs0, d0, ds0, p0, q0, hargs, rfl, rfl, h0, r0⟩ := trodAll_cons hA
  obtain ⟨rfl, rfl, rfl⟩ := trodAll_nil r0
  obtain rfl : args = #[v0] := by cases args; simp_all
  obtain ⟨rfl, rfl⟩ := trodVars_none hV
  have k0 := h0
  have lt0 : ∀ x ∈ p0, x.block < W.heap.size := by obtain ⟨m, hm⟩ := k0; exact DataW.trod_lt m _ _ _ hm
  obtain ⟨fuel0, hf0⟩ := h0
  obtain ⟨b0, n0, c0, rfl⟩ := okWide_slice Tryz.underlying22 (hval 0 22 v0 rfl rfl)
  obtain ⟨l0, hK0, hQ0⟩ := (AM.qyx Tryz.underlying22 (by kernel_rfl) (by decide) (AM.qdy Tryz.underlying5)) enc W 0 _ _ fuel0 _ _ hf0
  clear hA0 hval0 hsz0 hsz
  have hΦ : AM.Phi AM.YtfhcllnhlblliaaGreatDoor.P AM.YtfhcllnhlblliaaGreatDoor.cx 3 [.one (.list (.int .u8) l0)] [] (.one (.bool true)) [] := AM.YtfhcllnhlblliaaGreatDoor.v_laws_FnItems ((l0, ()), ()) (true, ()) (AM.law_Items2 l0)
  have hr : AM.qqd AM.nb0 AM.X0 W [.one (.list (.int .u8) l0)] [.slice b0 n0 c0] := ⟨hK0, trivial⟩
  have hc := AM.Phi.calls_bool Tryz.func3 (by kernel_rfl) (by kernel_rfl) hΦ hr (fun g t x h => by cases h)
  refine hc.mono fun e W' ⟨he, bel0⟩ => ?_
  have bel : Below W.heap.size W W' := bel0
  subst he
  exact ⟨_, rfl, _, _, _, [], _, [], hW', trodAll_mk1 (shut_bool Tryz.underlying4 _), (trodAll_cons_mk (Below.trod laidOut (by kernel_rfl) (of_decide_eq_true (by kernel_rfl)) k0 bel lt0) trodAll_mk0), rfl, bel.frame _, fun h => by cases h⟩
theorem over : Rows.fnItemsRow.holds Tryz.pinned (OpenSpec.ofChange Rows.fnItemsSpec) :=
  OpenClaim.holds_of_wide 3 Tryz.f3 rfl rfl rfl rfl rfl rfl rfl ⟨rfl, rfl, rfl, rfl, rfl⟩ rfl rfl rfl rfl rfl (by kernel_rfl) Tryz.func3 (by kernel_rfl)
    (of_decide_eq_true (by kernel_rfl)) (by unfold Func.isWrapper; first | (rw [if_pos (by decide +kernel)]; kernel_rfl) | (rw [if_neg (by decide +kernel)]; exact ⟨rfl, rfl⟩))
    (fun os started H enc _ => lifted os started H enc)
theorem row_holds : Rows.FnItemsSaid := over
theorem proved : Rows.FnItemsCardSaid :=
  Claim7.holds_tied_plain_at .later [] [.data, .pinned] true (true, "d3a80e47a404049de747b140c1335e5730c7d606a368d14dd12f42b6cd30836f") false row_holds (fun _ h => by cases h) (by kernel_rfl) (fun _ h => by cases h) fnItems_row_tie rfl ⟨rfl, rfl⟩ (by kernel_rfl) rfl
    (fun f fn hf hfn => by
      obtain rfl : f = 3 := Option.some.inj ((show Tryz.prog.funcNamed "loop.example/g00100/laws.FnItems" = some 3 by kernel_rfl).symm.trans hf) |>.symm
      obtain rfl : fn = Tryz.f3 := (Option.some.inj (Tryz.func3.symm.trans hfn)).symm
      exact ⟨by kernel_rfl, fun j t ht => by
        rw [Tryz.params3] at ht
        have hm : t ∈ [22] := by simpa using Array.mem_of_getElem? ht
        have hall : ([22].all fun u => !Tryz.prog.wantsStandIn u) = true := by kernel_rfl
        exact (show Tryz.prog.wantsStandIn t = false by simpa using List.all_eq_true.1 hall t hm)⟩)
    (by kernel_rfl)
#print axioms proved
end Go.Proofs.YtfhcllnhlblliaaGreatDoor.fnItems
namespace Go.Proofs.YtfhcllnhlblliaaGreatDoor
theorem fnItems_holds : Rows.FnItemsCardSaid := fnItems.proved
end Go.Proofs.YtfhcllnhlblliaaGreatDoor
