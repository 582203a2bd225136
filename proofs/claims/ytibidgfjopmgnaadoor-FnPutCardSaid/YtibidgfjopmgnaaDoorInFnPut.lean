/- Functions of package slices: what their roads do. -/
import Derived.Test.YtibidgfjopmgnaaDoorAmE
import Derived.Test.YtibidgfjopmgnaaDoorProg
import Derived.WalkKit
import Derived.WalkSpells
import Derived.WalkLawsBesides
import Derived.KernelRfl
namespace Go.AM.YtibidgfjopmgnaaDoor
open Go Go.Proofs Go.RowKit Go.AM
set_option maxHeartbeats 4000000 in
set_option maxRecDepth 100000 in
theorem nil_slices_Clone_impl_Node_impl_Node (n c : Nat) (w : World) : Calls Go.Proofs.Tryd.prog 56 #[.slice none n c] w fun e w' => e = .returned (.slice none 0 0) ∧ w' = w := by
  have tS := Go.Proofs.Tryd.underlying25
  have uS := run_underlying Go.Proofs.Tryd.underlying25
  have he : ∀ (c : Nat) w, (binOp .eql 25 (.slice none n c) (.slice none 0 0)).run Go.Proofs.Tryd.prog w = .ok (.bool true) w := fun c w => by have := run_eql_slice_nil w 25 44 none n c tS; simpa using this
  go_enter Go.Proofs.Tryd.func56, Go.Proofs.Tryd.ntmps56
  go_wp2_with (simp only [he])
  go_ret
  exact ⟨rfl, rfl⟩
set_option maxHeartbeats 4000000 in
set_option maxRecDepth 100000 in
theorem some_slices_Clone_impl_Node_impl_Node (a : Addr) (n c : Nat) (w w1 : World) (v1 : Value)
    (hrun : ∀ ty, (Builtin.append_ #[25, 25] ty #[.slice (some ⟨w.heap.size, 0, none⟩) 0 0, .slice (some a) n c]).run Go.Proofs.Tryd.prog (w.alloc (.cells #[] 44)) = .ok v1 w1) :
    Calls Go.Proofs.Tryd.prog 56 #[.slice (some a) n c] w fun e w' => e = .returned v1 ∧ w' = w1 := by
  obtain ⟨b, o, s⟩ := a
  have tS := Go.Proofs.Tryd.underlying25
  have uS := run_underlying Go.Proofs.Tryd.underlying25
  have zE := Go.Proofs.Tryd.sizeOf44
  have he : ∀ (n c : Nat) w, (binOp .eql 25 (.slice (some ⟨b, o, s⟩) n c) (.slice none 0 0)).run Go.Proofs.Tryd.prog w = .ok (.bool false) w := fun n c w => by have := run_eql_slice_nil w 25 44 (some ⟨b, o, s⟩) n c tS; simpa using this
  go_enter Go.Proofs.Tryd.func56, Go.Proofs.Tryd.ntmps56
  go_wp2_with (first | (simp only [he]) | (at_builtin; refine Lib.wpList_append_run _ rfl _ _ _ _ rfl _ _ rfl rfl _ _ (hrun _) ?_))
  go_ret
  exact ⟨rfl, rfl⟩
theorem cloneW_slices_Clone_impl_Node_impl_Node : CloneW Go.Proofs.Tryd.prog 56 25 44 7 80 where
  enter := fun vs w => enters_of Go.Proofs.Tryd.func56 (by kernel_rfl) rfl _ _
  nilW := nil_slices_Clone_impl_Node_impl_Node
  someW := some_slices_Clone_impl_Node_impl_Node
  und := Go.Proofs.Tryd.underlying25
  info := info_of (by kernel_rfl) (by decide) (by decide)
set_option maxHeartbeats 4000000 in
set_option maxRecDepth 100000 in
theorem end_slices_Insert_impl_Node_impl_Node (base : Option Addr) (n c vb vc : Nat) (w w1 : World) (v1 : Value) (hnil : base = none → n = 0 ∧ c = 0) (hnc : n ≤ c)
    (hrun : ∀ ty, (Builtin.append_ #[25, 25] ty #[.slice base n c, .slice (some ⟨vb, 0, none⟩) 1 vc]).run Go.Proofs.Tryd.prog w = .ok v1 w1) :
    Calls Go.Proofs.Tryd.prog 110 #[.slice base n c, .int .i64 n, .slice (some ⟨vb, 0, none⟩) 1 vc] w fun e w' => e = .returned v1 ∧ w' = w1 := by
  have uS := run_underlying Go.Proofs.Tryd.underlying25
  have uI := run_underlying Go.Proofs.Tryd.underlying3
  go_enter Go.Proofs.Tryd.func110, Go.Proofs.Tryd.ntmps110
  cases base with
  | none =>
    obtain ⟨rfl, rfl⟩ := hnil rfl
    go_wp2_with (at_builtin; refine Lib.wpList_append_run _ rfl _ _ _ _ rfl _ _ rfl rfl _ _ (hrun _) ?_)
    go_ret
    exact ⟨rfl, rfl⟩
  | some a =>
    obtain ⟨ab, ao, asp⟩ := a
    go_wp2_with (at_builtin; refine Lib.wpList_append_run _ rfl _ _ _ _ rfl _ _ rfl rfl _ _ (hrun _) ?_)
    all_goals (go_ret; exact ⟨rfl, rfl⟩)
set_option maxHeartbeats 4000000 in
set_option maxRecDepth 100000 in
theorem grow_slices_Insert_impl_Node_impl_Node (b n c i vb vc N G : Nat) (w w1 : World) (news mov : List Value) (hi : i < n) (hnc : n ≤ c) (hroom : c < n + 1) (hn63 : n ≤ 140737488355328) (hG : n + 1 ≤ G)
    (hrz : ∀ ty, (Builtin.append_ #[25, 3] ty #[.slice (some ⟨b, 0, none⟩) i c, .int .i64 ((n : Int) + 1 - (i : Int))]).run Go.Proofs.Tryd.prog w = .ok (.slice (some ⟨N, 0, none⟩) (n + 1) G) w1)
    (hcA : ∀ W : World, W.heap = w1.heap → ∀ ty dc, (Builtin.copy_ #[25, 25] ty #[.slice (some ⟨N, i * 7, none⟩) (n + 1 - i) dc, .slice (some ⟨vb, 0, none⟩) 1 vc]).run Go.Proofs.Tryd.prog W = .ok (goInt 1) (W.setCells N (i * 7) news))
    (hcB : ∀ W : World, W.heap = (w1.setCells N (i * 7) news).heap → ∀ ty dc sc, (Builtin.copy_ #[25, 25] ty #[.slice (some ⟨N, (i + 1) * 7, none⟩) (n - i) dc, .slice (some ⟨b, i * 7, none⟩) (n - i) sc]).run Go.Proofs.Tryd.prog W = .ok (goInt (n - i : Nat)) (W.setCells N ((i + 1) * 7) mov)) :
    Calls Go.Proofs.Tryd.prog 110 #[.slice (some ⟨b, 0, none⟩) n c, .int .i64 i, .slice (some ⟨vb, 0, none⟩) 1 vc] w fun e w' => e = .returned (.slice (some ⟨N, 0, none⟩) (n + 1) G) ∧ w' = (w1.setCells N (i * 7) news).drew.setCells N ((i + 1) * 7) mov := by
  have mixed : Go.Proofs.Tryd.prog.follows .mixedOrders = true := by kernel_rfl
  have tS := Go.Proofs.Tryd.underlying25; have tI := Go.Proofs.Tryd.underlying3
  have uS := run_underlying Go.Proofs.Tryd.underlying25
  have uI := run_underlying Go.Proofs.Tryd.underlying3
  have zE := Go.Proofs.Tryd.sizeOf44
  have hz2 : ¬ ((i : Int) = (n : Int)) := by omega
  have hz3 : (c : Int) < (n : Int) + 1 := by omega
  have hw1 : IntKind.i64.wrap ((i : Int) + 1) = (i : Int) + 1 := by rw [IntKind.wrap_i64]; omega
  have hw2 : IntKind.i64.wrap ((n : Int) + 1) = (n : Int) + 1 := by rw [IntKind.wrap_i64]; omega
  have hb1 : (0 : Int) ≤ (i : Int) + 1 := by omega
  have hin : i ≤ n := by omega
  have htn : ((i : Int) + 1).toNat = i + 1 := by omega
  have hb3 : (i : Int) ≤ (n : Int) := by omega
  have hGi : ¬ (G = i) := by omega
  have hGim : ¬ (G = i + 1) := by omega
  have hci : ¬ (c = i) := by omega
  have hB1 := hcB (w1.setCells N (i * 7) news).drew rfl
  go_enter Go.Proofs.Tryd.func110, Go.Proofs.Tryd.ntmps110
  go_wp2_with (first
    | (at_builtin; refine Lib.wpList_append_run _ rfl _ _ _ _ rfl _ _ rfl rfl _ _ (hrz _) ?_)
    | (at_builtin; refine wpList_copy_runI _ rfl _ _ 25 25 rfl _ _ rfl rfl (hcA _ rfl _ _) ?_))
  go_region_law_o (refine step_copy_runI rfl _ _ 25 25 rfl (.slice (some ⟨N, (i + 1) * 7, none⟩) (n - i) (G - (i + 1))) (.slice (some ⟨b, i * 7, none⟩) (n - i) (c - i)) (by simp [Act.eval, Act.put]) (by simp [Act.eval, Act.put]) (hB1 3 (G - (i + 1)) (c - i)) ?_)
  go_wp2
  go_ret
  exact ⟨rfl, rfl⟩
set_option maxHeartbeats 4000000 in
set_option maxRecDepth 100000 in
theorem shift_slices_Insert_impl_Node_impl_Node (b n c i vb vc : Nat) (w : World) (news mov : List Value) (hi : i < n) (hroom : n + 1 ≤ c) (hn63 : n ≤ 140737488355328)
    (hov : ∀ lb cb, (callFunc 134 #[.slice (some ⟨vb, 0, none⟩) 1 vc, .slice (some ⟨b, (i + 1) * 7, none⟩) lb cb]).run Go.Proofs.Tryd.prog w = .ok (.value (.bool false)) w)
    (hcA : ∀ W : World, W.heap = w.heap → ∀ ty dc sc, (Builtin.copy_ #[25, 25] ty #[.slice (some ⟨b, (i + 1) * 7, none⟩) (n - i) dc, .slice (some ⟨b, i * 7, none⟩) (n + 1 - i) sc]).run Go.Proofs.Tryd.prog W = .ok (goInt (n - i : Nat)) (W.setCells b ((i + 1) * 7) mov))
    (hcB : ∀ W : World, W.heap = (w.setCells b ((i + 1) * 7) mov).heap → ∀ ty dc, (Builtin.copy_ #[25, 25] ty #[.slice (some ⟨b, i * 7, none⟩) (n + 1 - i) dc, .slice (some ⟨vb, 0, none⟩) 1 vc]).run Go.Proofs.Tryd.prog W = .ok (goInt 1) (W.setCells b (i * 7) news)) :
    Calls Go.Proofs.Tryd.prog 110 #[.slice (some ⟨b, 0, none⟩) n c, .int .i64 i, .slice (some ⟨vb, 0, none⟩) 1 vc] w fun e w' => e = .returned (.slice (some ⟨b, 0, none⟩) (n + 1) c) ∧ w' = (w.drew.setCells b ((i + 1) * 7) mov).setCells b (i * 7) news := by
  have mixed : Go.Proofs.Tryd.prog.follows .mixedOrders = true := by kernel_rfl
  have tS := Go.Proofs.Tryd.underlying25; have tI := Go.Proofs.Tryd.underlying3
  have uS := run_underlying Go.Proofs.Tryd.underlying25
  have uI := run_underlying Go.Proofs.Tryd.underlying3
  have zE := Go.Proofs.Tryd.sizeOf44
  have hz2 : ¬ ((i : Int) = (n : Int)) := by omega
  have hw1 : IntKind.i64.wrap ((i : Int) + 1) = (i : Int) + 1 := by rw [IntKind.wrap_i64]; omega
  have hw2 : IntKind.i64.wrap ((n : Int) + 1) = (n : Int) + 1 := by rw [IntKind.wrap_i64]; omega
  have hb1 : (0 : Int) ≤ (i : Int) + 1 := by omega
  have hin : i ≤ n := by omega
  have htn : ((i : Int) + 1).toNat = i + 1 := by omega
  have hb2 : ¬ (c = i + 1) := by omega
  have hb3 : (i : Int) ≤ (n : Int) + 1 := by omega
  have hz4 : ¬ ((c : Int) < (n : Int) + 1) := by omega
  have hB1 := hcB (w.drew.setCells b ((i + 1) * 7) mov) (by rw [← drew_setCells]; rfl)
  have hb4 : ¬ (c = i) := by omega
  have hA1 := hcA w.drew rfl
  go_enter Go.Proofs.Tryd.func110, Go.Proofs.Tryd.ntmps110
  go_wp2_with (simp only [hov])
  go_region_law_o (refine step_copy_runI rfl _ _ 25 25 rfl (.slice (some ⟨b, (i + 1) * 7, none⟩) (n - i) (c - (i + 1))) (.slice (some ⟨b, i * 7, none⟩) (n + 1 - i) (c - i)) (by simp [Act.eval, Act.put]) (by simp [Act.eval, Act.put]) (hA1 3 (c - (i + 1)) (c - i)) ?_)
  go_wp2_with (at_builtin; refine wpList_copy_runI _ rfl _ _ 25 25 rfl _ _ rfl rfl (hB1 _ _) ?_)
  go_ret
  exact ⟨rfl, rfl⟩
theorem insW_slices_Insert_impl_Node_impl_Node : InsW Go.Proofs.Tryd.prog 110 134 25 3 44 7 80 where
  enter := fun vs w => enters_of Go.Proofs.Tryd.func110 (by kernel_rfl) rfl _ _
  endW := end_slices_Insert_impl_Node_impl_Node
  growW := grow_slices_Insert_impl_Node_impl_Node
  shiftW := shift_slices_Insert_impl_Node_impl_Node
  und := Go.Proofs.Tryd.underlying25
  undI := ⟨_, Go.Proofs.Tryd.underlying3⟩
  ov := fun vb vc b o lb cb tA kA tB kB w hne hsa hsb hkB hfa hfe => by
    rw [run_callFunc_extern Go.Proofs.Tryd.func134 (by kernel_rfl) (by kernel_rfl) (by kernel_rfl) (e := Extern.SlicesOverlaps.overlaps #[25, 25] #[4]) (by kernel_rfl),
      Lib.run_overlaps_apart w 25 4 44 Go.Proofs.Tryd.underlying25 7 Go.Proofs.Tryd.sizeOf44 ⟨vb, 0, none⟩ ⟨b, o, none⟩ 1 vc lb cb hne tA tB kA kB hsa hsb hkB hfa hfe]
    rfl
  info := info_of (by kernel_rfl) (by decide) (by decide)
end Go.AM.YtibidgfjopmgnaaDoor
