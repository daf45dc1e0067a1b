/-
  Part 9 of the joined texts of the curves' laws: The first group's laws: G1Scalars: the walk. Conditions: the rules that the points obey.
  Conditions: those that each theorem states.
-/
import Derived.Test.YtbchpfmfiokbgaaDoorR8
import Derived.Test.YtbchpfmfiokbgaaDoorR6
import Derived.Test.YtbchpfmfiokbgaaDoorR2
/- The first group's laws: G1Scalars: the walk. Conditions: the rules that the points obey. -/
namespace Go.Cu
open Go Go.Vm Go.RowKit Go.Proofs 
attribute [local irreducible] W OpsW Det Fresh New Writes Vm.Pure Makes Changes ExternTo BuildTo ZeroTo FieldTo IndexTo BinTo SliceTo Vm.Enters
set_option linter.unusedVariables false
set_option linter.unusedSimpArgs false
variable {T : Nat → TypeId × Nat × Nat}

structure ScalarsOk (x y : Fs) (p : Pt) : Prop where
  r1 : padd (pmul p x) (pmul p y) = pmul p (x + y)
  r2 : pmul (pmul p x) y = pmul p (x * y)
  r3 : pneg (pmul p x) = pmul p (0 - x)
  r4 : pmul p (Zp.of 1) = p
  r5 : pmul p 0 = (0, 0)
  r6 : inB p = true
  r7 : onB (pmul p x) = true

theorem en31 : Vm.Enters Tryd.prog 31 := Vm.Enters.of fun _ _ => by kernel_rfl
set_option maxHeartbeats 2000000 in
theorem G1Scalars_ok {G' : Hp} {va vb vc : Value} {la lb lc : List Nat} (ha : Bs G' va la) (hb' : Bs G' vb lb) (hc' : Bs G' vc lc) (hh : HeadOk) (hr : ScalarsOk (wide la) (wide lb) (gp lc)) {w : World} (hG : Blocks (G' ++ GH T) w)  : Vm.Pure Tryd.prog 7 #[va, vb, vc] w (.bool true) := by
  obtain ⟨aa, ca, hva⟩ := ha.shape
  obtain ⟨ab, cb, hvb⟩ := hb'.shape
  obtain ⟨ac, cc, hvc⟩ := hc'.shape
  refine pure_of_W (n := 83) (args := [va, vb, vc]) Tryd.func7 rfl Tryd.ntmps7 (Nat.le_of_ble_eq_true rfl) hG ?_
  refine sStart ?_
  refine sSeq ?_
  subst hva
  subst hvb
  subst hvc
  refine W.region ?_
  refine OpsW.det (det_assign rfl) rfl ?_
  refine sNext ?_
  refine W.keep (F' := [(0, _), (1, _), (2, _)]) ⟨rfl, rfl, rfl, trivial⟩ ?_
  refine sSeq ?_
  refine sSeq ?_
  refine W.region ?_
  refine OpsW.det (det_call en15 rfl (fun w hb ho => head_ok hh (fun p hp => ho.look (List.mem_append_right _ hp)))) rfl ?_
  refine OpsW.det (det_not rfl) rfl ?_
  refine sNext ?_
  refine W.keep (F' := [(11, _), (0, _), (1, _), (2, _)]) ⟨rfl, rfl, rfl, rfl, trivial⟩ ?_
  refine W.cond_false rfl ?_
  refine sSkip ?_
  refine sSeq ?_
  refine sSeq ?_
  refine W.region ?_
  refine OpsW.det (det_move rfl) rfl ?_
  refine OpsW.det (det_move rfl) rfl ?_
  refine OpsW.det (det_move rfl) rfl ?_
  refine OpsW.det (det_call en16 rfl (fun w hb ho => long_ok (fun p hp => ho.look (List.mem_append_right _ hp)))) rfl ?_
  refine sNext ?_
  refine W.keep (F' := [(15, _), (0, _), (1, _), (2, _)]) ⟨rfl, rfl, rfl, rfl, trivial⟩ ?_
  refine W.cond rfl (fun hc15 => ?_) (fun hc15 => ?_)
  · skip
    refine sSeq ?_
    refine W.region ?_
    refine OpsW.det (det_assign rfl) rfl ?_
    refine sNext ?_
    refine W.keep (F' := [(6, _)]) ⟨rfl, trivial⟩ ?_
    refine sRet ?_
    exact done1 Tryd.results7 (rv_tmp rfl) rfl
  · skip
    have hl := not_long hc15
    refine sSkip ?_
    refine sSeq ?_
    refine W.region ?_
    refine OpsW.det (det_move rfl) rfl ?_
    refine OpsW.det (det_call en19 rfl (fun w hb ho => scalar_ok (G' := G') ha (Nat.le_trans hl.1 (by decide)) ho.blocks)) rfl ?_
    refine OpsW.fresh (fr_alloc z35r) rfl fun b7 => ?_
    refine OpsW.store sz35 rfl rfl rfl rfl rfl (Upd.here) rfl ?_
    refine sNext ?_
    refine W.keep (F' := [(7, _), (1, _), (2, _)]) ⟨rfl, rfl, rfl, trivial⟩ ?_
    refine sSeq ?_
    refine W.region ?_
    refine OpsW.det (det_move rfl) rfl ?_
    refine OpsW.det (det_call en19 rfl (fun w hb ho => scalar_ok (G' := G') hb' (Nat.le_trans hl.2.1 (by decide)) ho.blocks)) rfl ?_
    refine OpsW.fresh (fr_alloc z35r) rfl fun b8 => ?_
    refine OpsW.store sz35 rfl rfl rfl rfl rfl (Upd.here) rfl ?_
    refine sNext ?_
    refine W.keep (F' := [(8, _), (7, _), (2, _)]) ⟨rfl, rfl, rfl, trivial⟩ ?_
    refine sSeq ?_
    refine W.region ?_
    refine OpsW.det (det_call en17 rfl (fun w hb ho => Gen_ok (fun p hp => ho.look (List.mem_append_right _ hp)))) rfl ?_
    refine OpsW.det (det_move rfl) rfl ?_
    refine OpsW.det (det_call en19 rfl (fun w hb ho => scalar_ok (G' := G') hc' (Nat.le_trans hl.2.2 (by decide)) ho.blocks)) rfl ?_
    refine OpsW.det (det_call en18 rfl (fun w hb ho => PMul_ok (fun p hp => ho.look (List.mem_append_right _ hp)))) rfl ?_
    refine OpsW.fresh (fr_alloc z30) rfl fun b9 => ?_
    refine OpsW.store sz30 rfl rfl rfl rfl rfl (Upd.here) rfl ?_
    refine sNext ?_
    refine W.keep (F' := [(9, _), (8, _), (7, _)]) ⟨rfl, rfl, rfl, trivial⟩ ?_
    refine sSeq ?_
    refine sSeq ?_
    refine W.draw mixed 37 [[], [], [0, 1], [], [], [0, 1, 2, 3, 4], [0, 1, 2, 3, 4, 5], [], [], [], [0, 1, 2, 3, 4, 5, 6, 8, 9], [0, 1, 2, 3, 4, 5, 6, 7, 8, 9, 10], [0, 1, 2, 3, 4, 5, 6, 7, 8, 9, 10, 11], [0, 1, 2, 3, 4, 5, 6, 7, 8, 9, 10, 11, 12], [0, 1, 2, 3, 4, 5, 6, 7, 8, 9, 10, 11, 12, 13], [0, 1, 2, 3, 4, 5, 6, 7, 8, 9, 10, 11, 12, 13], [0, 1, 2, 3, 4, 5, 6, 7, 8, 9, 10, 11, 12, 13, 14, 15], [0, 1, 2, 3, 4, 5, 6, 7, 8, 9, 10, 11, 12, 13], [0, 1, 2, 3, 4, 5, 6, 7, 8, 9, 10, 11, 12, 13, 14, 15, 16, 17], [0, 1, 2, 3, 4, 5, 6, 7, 8, 9, 10, 11, 12, 13], [0, 1, 2, 3, 4, 5, 6, 7, 8, 9, 10, 11, 12, 13], [0, 1, 2, 3, 4, 5, 6, 7, 8, 9, 10, 11, 12, 13], [0, 1, 2, 3, 4, 5, 6, 7, 8, 9, 10, 11, 12, 13, 14, 15, 16, 17, 18, 20, 21], [0, 1, 2, 3, 4, 5, 6, 7, 8, 9, 10, 11, 12, 13, 14, 15, 16, 17, 18, 19, 20, 21, 22], [0, 1, 2, 3, 4, 5, 6, 7, 8, 9, 10, 11, 12, 13, 14, 15, 16, 17, 18, 19, 20, 21, 22, 23], [0, 1, 2, 3, 4, 5, 6, 7, 8, 9, 10, 11, 12, 13, 14, 15, 16, 17, 18, 19, 20, 21, 22, 23, 24], [0, 1, 2, 3, 4, 5, 6, 7, 8, 9, 10, 11, 12, 13, 14, 15, 16, 17, 18, 19, 20, 21, 22, 23, 24, 25], [0, 1, 2, 3, 4, 5, 6, 7, 8, 9, 10, 11, 12, 13, 14, 15, 16, 17, 18, 19, 20, 21, 22, 23, 24, 25, 26], [0, 1, 2, 3, 4, 5, 6, 7, 8, 9, 10, 11, 12, 13, 14, 15, 16, 17, 18, 19, 20, 21, 22, 23, 24, 25, 26], [0, 1, 2, 3, 4, 5, 6, 7, 8, 9, 10, 11, 12, 13, 14, 15, 16, 17, 18, 19, 20, 21, 22, 23, 24, 25, 26, 27, 28], [0, 1, 2, 3, 4, 5, 6, 7, 8, 9, 10, 11, 12, 13, 14, 15, 16, 17, 18, 19, 20, 21, 22, 23, 24, 25, 26, 27, 28, 29], [0, 1, 2, 3, 4, 5, 6, 7, 8, 9, 10, 11, 12, 13, 14, 15, 16, 17, 18, 19, 20, 21, 22, 23, 24, 25, 26], [0, 1, 2, 3, 4, 5, 6, 7, 8, 9, 10, 11, 12, 13, 14, 15, 16, 17, 18, 19, 20, 21, 22, 23, 24, 25, 26], [0, 1, 2, 3, 4, 5, 6, 7, 8, 9, 10, 11, 12, 13, 14, 15, 16, 17, 18, 19, 20, 21, 22, 23, 24, 25, 26, 27, 28, 29, 30, 32], [0, 1, 2, 3, 4, 5, 6, 7, 8, 9, 10, 11, 12, 13, 14, 15, 16, 17, 18, 19, 20, 21, 22, 23, 24, 25, 26, 27, 28, 29, 30, 31, 32, 33], [0, 1, 2, 3, 4, 5, 6, 7, 8, 9, 10, 11, 12, 13, 14, 15, 16, 17, 18, 19, 20, 21, 22, 23, 24, 25, 26, 27, 28, 29, 30, 31, 32, 33, 34], [0, 1, 2, 3, 4, 5, 6, 7, 8, 9, 10, 11, 12, 13, 14, 15, 16, 17, 18, 19, 20, 21, 22, 23, 24, 25, 26, 27, 28, 29, 30, 31, 32, 33, 34, 35]] (cl_lt (by decide)) ?_
    refine HeadR.start (cl_lt (by decide)) ?_
    refine HeadR.det rfl (fun β hβ => (det_loadA ty30 rfl (List.Mem.head _) rfl)) ?_
    refine HeadR.det rfl (fun β hβ => (det_loadA ty35 rfl (List.Mem.tail _ (List.Mem.tail _ (List.Mem.head _))) rfl)) ?_
    refine HeadR.det rfl (fun β hβ => (det_call en18 rfl (fun w hb ho => PMul_ok (fun p hp => ho.look (List.mem_append_right _ hp))))) ?_
    refine HeadR.det rfl (fun β hβ => (det_loadA ty30 rfl (List.Mem.head _) rfl)) ?_
    refine HeadR.det rfl (fun β hβ => (det_loadA ty35 rfl (List.Mem.tail _ (List.Mem.head _)) rfl)) ?_
    refine HeadR.det rfl (fun β hβ => (det_call en18 rfl (fun w hb ho => PMul_ok (fun p hp => ho.look (List.mem_append_right _ hp))))) ?_
    refine HeadR.det rfl (fun β hβ => (det_call en20 rfl (fun w hb ho => PAdd_ok (fun p hp => ho.look (List.mem_append_right _ hp))))) ?_
    refine HeadR.det rfl (fun β hβ => (det_loadA ty30 rfl (List.Mem.head _) rfl)) ?_
    refine HeadR.det rfl (fun β hβ => (det_loadA ty35 rfl (List.Mem.tail _ (List.Mem.tail _ (List.Mem.head _))) rfl)) ?_
    refine HeadR.det rfl (fun β hβ => (det_loadA ty35 rfl (List.Mem.tail _ (List.Mem.head _)) rfl)) ?_
    refine HeadR.det rfl (fun β hβ => (det_call en28 rfl (fun w hb ho => Cu.RAdd_ok (fun p hp => ho.look (List.mem_append_right _ hp))))) ?_
    refine HeadR.det rfl (fun β hβ => (det_call en18 rfl (fun w hb ho => PMul_ok (fun p hp => ho.look (List.mem_append_right _ hp))))) ?_
    refine HeadR.det rfl (fun β hβ => (Det.to (det_neq30 rfl rfl) (congrArg Value.bool (nb hr.r1)))) ?_
    refine HeadR.det rfl (fun β hβ => (det_move rfl)) ?_
    refine HeadR.yes rfl rfl (fun _ _ => rfl) (fun β hβ => (det_loadA ty30 rfl (List.Mem.head _) rfl)) ?_
    refine HeadR.yes rfl rfl (fun _ _ => rfl) (fun β hβ => (det_loadA ty35 rfl (List.Mem.tail _ (List.Mem.tail _ (List.Mem.head _))) rfl)) ?_
    refine HeadR.yes rfl rfl (fun _ _ => rfl) (fun β hβ => (det_call en18 rfl (fun w hb ho => PMul_ok (fun p hp => ho.look (List.mem_append_right _ hp))))) ?_
    refine HeadR.yes rfl rfl (fun _ _ => rfl) (fun β hβ => (det_loadA ty35 rfl (List.Mem.tail _ (List.Mem.head _)) rfl)) ?_
    refine HeadR.yes rfl rfl (fun _ _ => rfl) (fun β hβ => (det_call en18 rfl (fun w hb ho => PMul_ok (fun p hp => ho.look (List.mem_append_right _ hp))))) ?_
    refine HeadR.yes rfl rfl (fun _ _ => rfl) (fun β hβ => (det_loadA ty30 rfl (List.Mem.head _) rfl)) ?_
    refine HeadR.yes rfl rfl (fun _ _ => rfl) (fun β hβ => (det_loadA ty35 rfl (List.Mem.tail _ (List.Mem.tail _ (List.Mem.head _))) rfl)) ?_
    refine HeadR.yes rfl rfl (fun _ _ => rfl) (fun β hβ => (det_loadA ty35 rfl (List.Mem.tail _ (List.Mem.head _)) rfl)) ?_
    refine HeadR.yes rfl rfl (fun _ _ => rfl) (fun β hβ => (det_call en30 rfl (fun w hb ho => Cu.RMul_ok (fun p hp => ho.look (List.mem_append_right _ hp))))) ?_
    refine HeadR.yes rfl rfl (fun _ _ => rfl) (fun β hβ => (det_call en18 rfl (fun w hb ho => PMul_ok (fun p hp => ho.look (List.mem_append_right _ hp))))) ?_
    refine HeadR.yes rfl rfl (fun _ _ => rfl) (fun β hβ => (Det.to (det_neq30 rfl rfl) (congrArg Value.bool (nb hr.r2)))) ?_
    refine HeadR.det rfl (fun β hβ => (det_pick rfl rfl)) ?_
    refine HeadR.det rfl (fun β hβ => (det_move rfl)) ?_
    refine HeadR.yes rfl rfl (fun _ _ => rfl) (fun β hβ => (det_loadA ty30 rfl (List.Mem.head _) rfl)) ?_
    refine HeadR.yes rfl rfl (fun _ _ => rfl) (fun β hβ => (det_loadA ty35 rfl (List.Mem.tail _ (List.Mem.tail _ (List.Mem.head _))) rfl)) ?_
    refine HeadR.yes rfl rfl (fun _ _ => rfl) (fun β hβ => (det_call en18 rfl (fun w hb ho => PMul_ok (fun p hp => ho.look (List.mem_append_right _ hp))))) ?_
    refine HeadR.yes rfl rfl (fun _ _ => rfl) (fun β hβ => (det_call en22 rfl (fun w hb ho => PNeg_ok (fun p hp => ho.look (List.mem_append_right _ hp))))) ?_
    refine HeadR.yes rfl rfl (fun _ _ => rfl) (fun β hβ => (det_loadA ty30 rfl (List.Mem.head _) rfl)) ?_
    refine HeadR.yes rfl rfl (fun _ _ => rfl) (fun β hβ => (det_loadA ty35 rfl (List.Mem.tail _ (List.Mem.tail _ (List.Mem.head _))) rfl)) ?_
    refine HeadR.yes rfl rfl (fun _ _ => rfl) (fun β hβ => (det_call en27 rfl (fun w hb ho => Cu.RNeg_ok (fun p hp => ho.look (List.mem_append_right _ hp))))) ?_
    refine HeadR.yes rfl rfl (fun _ _ => rfl) (fun β hβ => (det_call en18 rfl (fun w hb ho => PMul_ok (fun p hp => ho.look (List.mem_append_right _ hp))))) ?_
    refine HeadR.yes rfl rfl (fun _ _ => rfl) (fun β hβ => (Det.to (det_neq30 rfl rfl) (congrArg Value.bool (nb hr.r3)))) ?_
    refine HeadR.det rfl (fun β hβ => (det_pick rfl rfl)) ?_
    refine HeadR.done ⟨by kernel_rfl, fun β hβ => ?_⟩
    refine OpsW.norm (F' := ((24, _) :: (25, _) :: (26, _) :: (27, _) :: (28, _) :: (29, _) :: (30, _) :: (31, _) :: (32, _) :: (33, _) :: (34, _) :: (35, _) :: (36, _) :: (37, _) :: (38, _) :: (39, _) :: (40, _) :: (41, _) :: (42, _) :: (43, _) :: (44, _) :: (45, _) :: (46, _) :: (47, _) :: (48, _) :: (49, _) :: (50, _) :: (51, _) :: (52, _) :: (53, _) :: (54, _) :: (55, _) :: (56, _) :: (57, _) :: (58, _) :: (59, _) :: (60, _) :: (9, _) :: (8, _) :: (7, _) :: [])) (H' := [(_, _), (_, _), (_, _)]) rfl rfl ?_
    refine sNext ?_
    refine W.keep (F' := [(60, _), (9, _), (7, _)]) ⟨rfl, rfl, rfl, trivial⟩ ?_
    refine W.cond_false rfl ?_
    refine sSkip ?_
    refine sSeq ?_
    refine W.draw mixed 23 [[], [], [0, 1], [], [0, 1, 2, 3], [0, 1, 2, 3, 4], [0, 1, 2, 3, 4, 5], [0, 1, 2, 3, 4, 5], [0, 1, 2, 3, 4, 5, 6, 7], [0, 1, 2, 3, 4, 5], [0, 1, 2, 3, 4, 5, 6, 7, 8, 9], [0, 1, 2, 3, 4, 5, 6, 7, 8, 9, 10], [0, 1, 2, 3, 4, 5, 6, 7, 8, 9, 10, 11], [0, 1, 2, 3, 4, 5, 6, 7, 8, 9, 10, 11, 12], [0, 1, 2, 3, 4, 5, 6, 7, 8, 9, 10, 11, 12, 13], [0, 1, 2, 3, 4, 5, 6, 7, 8, 9, 10, 11, 12, 13, 14], [0, 1, 2, 3, 4, 5, 6, 7, 8, 9, 10, 11, 12, 13, 14, 15], [0, 1, 2, 3, 4, 5, 6, 7, 8, 9, 10, 11, 12, 13, 14, 15, 16], [0, 1, 2, 3, 4, 5, 6, 7, 8, 9, 10, 11, 12, 13, 14, 15, 16], [0, 1, 2, 3, 4, 5, 6, 7, 8, 9, 10, 11, 12, 13, 14, 15, 16, 17, 18], [0, 1, 2, 3, 4, 5, 6, 7, 8, 9, 10, 11, 12, 13, 14, 15, 16, 17, 18, 19], [0, 1, 2, 3, 4, 5, 6, 7, 8, 9, 10, 11, 12, 13, 14, 15, 16, 17, 18, 19, 20], [0, 1, 2, 3, 4, 5, 6, 7, 8, 9, 10, 11, 12, 13, 14, 15, 16, 17, 18, 19, 20, 21]] (cl_lt (by decide)) ?_
    refine HeadR.start (cl_lt (by decide)) ?_
    refine HeadR.det rfl (fun β hβ => (det_loadA ty30 rfl (List.Mem.head _) rfl)) ?_
    refine HeadR.det rfl (fun β hβ => (det_call en26 rfl (fun w hb ho => ROf_ok (n := 1) (by decide) (fun p hp => ho.look (List.mem_append_right _ hp))))) ?_
    refine HeadR.det rfl (fun β hβ => (det_call en18 rfl (fun w hb ho => PMul_ok (fun p hp => ho.look (List.mem_append_right _ hp))))) ?_
    refine HeadR.det rfl (fun β hβ => (det_loadA ty30 rfl (List.Mem.head _) rfl)) ?_
    refine HeadR.det rfl (fun β hβ => (Det.to (det_eql30 rfl rfl) (congrArg Value.bool (yb hr.r4)))) ?_
    refine HeadR.det rfl (fun β hβ => (det_move rfl)) ?_
    refine HeadR.yes rfl rfl (fun _ _ => rfl) (fun β hβ => (det_loadA ty30 rfl (List.Mem.head _) rfl)) ?_
    refine HeadR.yes rfl rfl (fun _ _ => rfl) (fun β hβ => (det_zero bz35)) ?_
    refine HeadR.yes rfl rfl (fun _ _ => rfl) (fun β hβ => (det_call en18 rfl (fun w hb ho => PMul_ok (p := gp lc) (x := 0) (fun p hp => ho.look (List.mem_append_right _ hp))))) ?_
    refine HeadR.yes rfl rfl (fun _ _ => rfl) (fun β hβ => (det_zero bz30)) ?_
    refine HeadR.yes rfl rfl (fun _ _ => rfl) (fun β hβ => (Det.to (det_eql30 rfl rfl) (congrArg Value.bool (yb hr.r5)))) ?_
    refine HeadR.det rfl (fun β hβ => (det_pick rfl rfl)) ?_
    refine HeadR.det rfl (fun β hβ => (det_move rfl)) ?_
    refine HeadR.yes rfl rfl (fun _ _ => rfl) (fun β hβ => (det_loadA ty30 rfl (List.Mem.head _) rfl)) ?_
    refine HeadR.yes rfl rfl (fun _ _ => rfl) (fun β hβ => (Det.to (det_call en31 rfl (fun w hb ho => PIn_ok (fun p hp => ho.look (List.mem_append_right _ hp)))) (congrArg Value.bool (hr.r6)))) ?_
    refine HeadR.det rfl (fun β hβ => (det_pick rfl rfl)) ?_
    refine HeadR.det rfl (fun β hβ => (det_move rfl)) ?_
    refine HeadR.yes rfl rfl (fun _ _ => rfl) (fun β hβ => (det_loadA ty30 rfl (List.Mem.head _) rfl)) ?_
    refine HeadR.yes rfl rfl (fun _ _ => rfl) (fun β hβ => (det_loadA ty35 rfl (List.Mem.tail _ (List.Mem.tail _ (List.Mem.head _))) rfl)) ?_
    refine HeadR.yes rfl rfl (fun _ _ => rfl) (fun β hβ => (det_call en18 rfl (fun w hb ho => PMul_ok (fun p hp => ho.look (List.mem_append_right _ hp))))) ?_
    refine HeadR.yes rfl rfl (fun _ _ => rfl) (fun β hβ => (Det.to (det_call en23 rfl (fun w hb ho => POn_ok (fun p hp => ho.look (List.mem_append_right _ hp)))) (congrArg Value.bool (hr.r7)))) ?_
    refine HeadR.det rfl (fun β hβ => (det_pick rfl rfl)) ?_
    refine HeadR.det rfl (fun β hβ => (det_assign rfl)) ?_
    refine HeadR.done ⟨by kernel_rfl, fun β hβ => ?_⟩
    refine OpsW.norm (F' := [(61, _), (62, _), (63, _), (64, _), (65, _), (66, _), (67, _), (68, _), (69, _), (70, _), (71, _), (72, _), (73, _), (74, _), (75, _), (76, _), (77, _), (78, _), (79, _), (80, _), (81, _), (82, _), (6, _), (60, _), (9, _), (7, _)]) (H' := [(_, _), (_, _), (_, _)]) rfl rfl ?_
    refine sNext ?_
    refine W.keep (F' := [(6, _)]) ⟨rfl, trivial⟩ ?_
    refine sRet ?_
    exact done1 Tryd.results7 (rv_tmp rfl) rfl

end Go.Cu

/- The first group's laws: G1Counts: the walk. Conditions: the rules that the points obey. -/
namespace Go.Cu
open Go Go.Vm Go.RowKit Go.Proofs 
attribute [local irreducible] W OpsW Det Fresh New Writes Vm.Pure Makes Changes ExternTo BuildTo ZeroTo FieldTo IndexTo BinTo SliceTo Vm.Enters
set_option linter.unusedVariables false
set_option linter.unusedSimpArgs false
variable {T : Nat → TypeId × Nat × Nat}

theorem and31 {a : Nat} (ha : a < 256) : bitsOf .and .u8 a 31 = ((a % 32 : Nat) : Int) := by
  have h1 : (BitVec.ofInt IntKind.u8.bits (a : Int)).toNat = a := by
    show (BitVec.ofInt 8 (a : Int)).toNat = a
    rw [BitVec.toNat_ofInt]; omega
  unfold bitsOf
  simp only [BitVec.toNat_and, h1]
  rw [show (BitVec.ofInt IntKind.u8.bits (31 : Int)).toNat = 2 ^ 5 - 1 by rfl, Nat.and_two_pow_sub_one_eq_mod, wrap_u8]
  omega
def nadd (p : Pt) : Nat → Pt
  | 0 => (0, 0)
  | i + 1 => padd (nadd p i) p
structure CountsOk (k : Nat) (p q : Pt) : Prop where
  c1 : times [k] p = nadd p k
  c2 : times [0, 0, k] p = nadd p k
  c3 : times [k] q = nadd q k
  c4 : times [] q = (0, 0)
  c5 : pmul p (Zp.of k) = nadd p k
theorem one_sl {k : Int} : SliceTo Tryd.prog 22 1 [(0, .int .u8 k)] [.int .u8 k] 5 := SliceTo.of fun _ => by kernel_rfl
theorem three_sl {k : Int} : SliceTo Tryd.prog 22 3 [(0, .int .u8 0), (1, .int .u8 0), (2, .int .u8 k)] [.int .u8 0, .int .u8 0, .int .u8 k] 5 := SliceTo.of fun _ => by kernel_rfl
theorem one_small {k : Nat} (h : k < 256) : ∀ c ∈ [k], c < 256 := by intro c hc; rw [List.mem_singleton.1 hc]; exact h
theorem three_small {k : Nat} (h : k < 256) : ∀ c ∈ [0, 0, k], c < 256 := by
  intro c hc
  simp only [List.mem_cons, List.not_mem_nil, or_false] at hc
  rcases hc with rfl | rfl | rfl <;> omega
theorem nil_Bs : Bs [] (.slice none 0 0) [] := ⟨⟨_, _, rfl⟩, fun c hc => (by cases hc), fun h => absurd h (Nat.lt_irrefl 0)⟩

theorem en24 : Vm.Enters Tryd.prog 24 := Vm.Enters.of fun _ _ => by kernel_rfl
set_option maxHeartbeats 4000000 in
theorem G1Counts_ok {G' : Hp} {va : Value} {la : List Nat} {n m : Nat} (ha : Bs G' va la) (hn : n < 256) (hm : m < 65536) (hh : HeadOk) (hr : CountsOk (n % 32) (gp la) (wild m)) {w : World} (hG : Blocks (G' ++ GH T) w)  : Vm.Pure Tryd.prog 4 #[va, .int .u8 (n : Nat), .int .u16 (m : Nat)] w (.bool true) := by
  obtain ⟨aa, ca, hva⟩ := ha.shape
  refine pure_of_W (n := 80) (args := [va, .int .u8 (n : Nat), .int .u16 (m : Nat)]) Tryd.func4 rfl Tryd.ntmps4 (Nat.le_of_ble_eq_true rfl) hG ?_
  refine sStart ?_
  refine sSeq ?_
  subst hva
  refine W.region ?_
  refine OpsW.det (det_assign rfl) rfl ?_
  refine sNext ?_
  refine W.keep (F' := [(0, _), (1, _), (2, _)]) ⟨rfl, rfl, rfl, trivial⟩ ?_
  refine sSeq ?_
  refine sSeq ?_
  refine W.region ?_
  refine OpsW.det (det_call en15 rfl (fun w hb ho => head_ok hh (fun p hp => ho.look (List.mem_append_right _ hp)))) rfl ?_
  refine OpsW.det (det_not rfl) rfl ?_
  refine sNext ?_
  refine W.keep (F' := [(15, _), (0, _), (1, _), (2, _)]) ⟨rfl, rfl, rfl, rfl, trivial⟩ ?_
  refine W.cond_false rfl ?_
  refine sSkip ?_
  refine sSeq ?_
  refine sSeq ?_
  refine W.region ?_
  refine OpsW.det (det_move rfl) rfl ?_
  refine OpsW.det (det_call en16 rfl (fun w hb ho => long_ok (fun p hp => ho.look (List.mem_append_right _ hp)))) rfl ?_
  refine sNext ?_
  refine W.keep (F' := [(17, _), (0, _), (1, _), (2, _)]) ⟨rfl, rfl, rfl, rfl, trivial⟩ ?_
  refine W.cond rfl (fun hc17 => ?_) (fun hc17 => ?_)
  · skip
    refine sSeq ?_
    refine W.region ?_
    refine OpsW.det (det_assign rfl) rfl ?_
    refine sNext ?_
    refine W.keep (F' := [(6, _)]) ⟨rfl, trivial⟩ ?_
    refine sRet ?_
    exact done1 Tryd.results4 (rv_tmp rfl) rfl
  · skip
    have hl := not_long hc17
    refine sSkip ?_
    refine sSeq ?_
    refine W.region ?_
    refine OpsW.det (det_call en17 rfl (fun w hb ho => Gen_ok (fun p hp => ho.look (List.mem_append_right _ hp)))) rfl ?_
    refine OpsW.det (det_move rfl) rfl ?_
    refine OpsW.det (det_call en19 rfl (fun w hb ho => scalar_ok (G' := G') ha (Nat.le_trans hl.1 (by decide)) ho.blocks)) rfl ?_
    refine OpsW.det (det_call en18 rfl (fun w hb ho => PMul_ok (fun p hp => ho.look (List.mem_append_right _ hp)))) rfl ?_
    refine OpsW.fresh (fr_alloc z30r) rfl fun b7 => ?_
    refine OpsW.store sz30 rfl rfl rfl rfl rfl (Upd.here) rfl ?_
    refine sNext ?_
    refine W.keep (F' := [(7, _), (1, _), (2, _)]) ⟨rfl, rfl, rfl, trivial⟩ ?_
    refine sSeq ?_
    refine W.region ?_
    refine OpsW.det (det_move rfl) rfl ?_
    refine OpsW.det (det_call en24 rfl (fun w hb ho => wild_ok hm (fun p hp => ho.look (List.mem_append_right _ hp)))) rfl ?_
    refine OpsW.fresh (fr_alloc z30r) rfl fun b8 => ?_
    refine OpsW.store sz30 rfl rfl rfl rfl rfl (Upd.here) rfl ?_
    refine sNext ?_
    refine W.keep (F' := [(8, _), (7, _), (1, _)]) ⟨rfl, rfl, rfl, trivial⟩ ?_
    refine sSeq ?_
    refine W.region ?_
    refine OpsW.det (det_zero bz30) rfl ?_
    refine OpsW.fresh (fr_alloc z30r) rfl fun b9 => ?_
    refine OpsW.store sz30 rfl rfl rfl rfl rfl (Upd.here) rfl ?_
    refine sNext ?_
    refine W.keep (F' := [(9, _), (8, _), (7, _), (1, _)]) ⟨rfl, rfl, rfl, rfl, trivial⟩ ?_
    refine sSeq ?_
    refine W.region ?_
    refine OpsW.det (det_zero bz30) rfl ?_
    refine OpsW.fresh (fr_alloc z30r) rfl fun b10 => ?_
    refine OpsW.store sz30 rfl rfl rfl rfl rfl (Upd.here) rfl ?_
    refine sNext ?_
    refine W.keep (F' := [(10, _), (9, _), (8, _), (7, _), (1, _)]) ⟨rfl, rfl, rfl, rfl, rfl, trivial⟩ ?_
    refine sSeq ?_
    refine sSeq ?_
    refine W.region ?_
    refine OpsW.det (det_assign rfl) rfl ?_
    refine sNext ?_
    refine sBlock ?_
    refine sLoop (σ := Nat) (fun i => [(11, .int .i64 (i : Nat)), (10, .pointer (some ⟨b10, 0, none⟩)), (9, .pointer (some ⟨b9, 0, none⟩)), (8, .pointer (some ⟨b8, 0, none⟩)), (7, .pointer (some ⟨b7, 0, none⟩)), (1, .int .u8 (n : Nat))]) (fun i => [(b10, blk (cellsP (nadd (wild m) i)) 30), (b9, blk (cellsP (nadd (gp la) i)) 30), (b8, blk (cellsP (wild m)) 30), (b7, blk (cellsP (gp la)) 30)]) (fun i => i ≤ n % 32) (fun i => n % 32 - i) 0 (Nat.zero_le _) ⟨rfl, rfl, rfl, rfl, rfl, rfl, trivial⟩ (List.Sublist.refl _) ?_
    intro i hi
    refine sSeq ?_
    refine sSeq ?_
    refine W.region ?_
    refine OpsW.det (det_move rfl) rfl ?_
    refine OpsW.det (det_move rfl) rfl ?_
    refine OpsW.det ((det_and (a := (n : Int)) (b := 31) rfl rfl).to (v := .int .u8 ((n % 32 : Nat) : Int)) (by rw [and31 hn])) rfl ?_
    refine OpsW.det ((det_conv u5 u3 rfl).to (v := .int .i64 ((n % 32 : Nat) : Int)) (by rw [wrap_i64 (by omega)])) rfl ?_
    refine OpsW.det (det_lss rfl rfl) rfl ?_
    refine sNext ?_
    refine W.keep (F' := [(30, _), (11, _), (10, _), (9, _), (8, _), (7, _), (1, _)]) ⟨rfl, rfl, rfl, rfl, rfl, rfl, rfl, trivial⟩ ?_
    refine W.cond rfl (fun hc30 => ?_) (fun hc30 => ?_)
    · skip
      have hlt : i < n % 32 := by have h := hc30; simp only [decide_eq_true_eq] at h; omega
      refine sSkip ?_
      refine sSeq ?_
      refine sBlock ?_
      refine sSeq ?_
      refine W.region ?_
      refine OpsW.det (det_loadA ty30 rfl (List.Mem.tail _ (List.Mem.head _)) rfl) rfl ?_
      refine OpsW.det (det_loadA ty30 rfl (List.Mem.tail _ (List.Mem.tail _ (List.Mem.tail _ (List.Mem.head _)))) rfl) rfl ?_
      refine OpsW.det (det_call en20 rfl (fun w hb ho => PAdd_ok (fun p hp => ho.look (List.mem_append_right _ hp)))) rfl ?_
      refine OpsW.store sz30 rfl rfl rfl rfl rfl (Upd.there (Upd.here)) rfl ?_
      refine sNext ?_
      refine W.keep (F' := [(11, _), (10, _), (9, _), (8, _), (7, _), (1, _)]) ⟨rfl, rfl, rfl, rfl, rfl, rfl, trivial⟩ ?_
      refine W.region ?_
      refine OpsW.det (det_loadA ty30 rfl (List.Mem.head _) rfl) rfl ?_
      refine OpsW.det (det_loadA ty30 rfl (List.Mem.tail _ (List.Mem.tail _ (List.Mem.head _))) rfl) rfl ?_
      refine OpsW.det (det_call en20 rfl (fun w hb ho => PAdd_ok (fun p hp => ho.look (List.mem_append_right _ hp)))) rfl ?_
      refine OpsW.store sz30 rfl rfl rfl rfl rfl (Upd.here) rfl ?_
      refine sLast ?_
      refine bNext ?_
      refine W.keep (F' := [(11, _), (10, _), (9, _), (8, _), (7, _), (1, _)]) ⟨rfl, rfl, rfl, rfl, rfl, rfl, trivial⟩ ?_
      refine W.region ?_
      refine OpsW.det (det_move rfl) rfl ?_
      refine OpsW.det (det_addN (b := 1) rfl rfl (by omega)) rfl ?_
      refine OpsW.det (det_assign rfl) rfl ?_
      refine sLast ?_
      exact rEnd (i + 1) hlt ⟨rfl, rfl, rfl, rfl, rfl, rfl, trivial⟩ (List.Sublist.refl _) (step_lt hlt)
    · skip
      have hi32 : i = n % 32 := by have h := hc30; simp only [decide_eq_false_iff_not] at h; omega
      subst hi32
      refine sExit ?_
      refine xLoop ?_
      refine xHere ?_
      refine W.keep (F' := [(10, _), (9, _), (8, _), (7, _), (1, _)]) ⟨rfl, rfl, rfl, rfl, rfl, trivial⟩ ?_
      refine sSeq ?_
      refine W.region ?_
      refine OpsW.det (det_move rfl) rfl ?_
      refine OpsW.det ((det_and (a := (n : Int)) (b := 31) rfl rfl).to (v := .int .u8 ((n % 32 : Nat) : Int)) (by rw [and31 hn])) rfl ?_
      refine OpsW.fresh (fr_buildSlice rfl (one_sl (k := ((n % 32 : Nat) : Int)))) rfl fun b41 => ?_
      refine OpsW.det (det_assign rfl) rfl ?_
      refine sNext ?_
      refine W.keep (F' := [(12, _), (10, _), (9, _), (8, _), (7, _), (1, _)]) ⟨rfl, rfl, rfl, rfl, rfl, rfl, trivial⟩ ?_
      refine sSeq ?_
      refine W.region ?_
      refine OpsW.det (det_move rfl) rfl ?_
      refine OpsW.det ((det_and (a := (n : Int)) (b := 31) rfl rfl).to (v := .int .u8 ((n % 32 : Nat) : Int)) (by rw [and31 hn])) rfl ?_
      refine OpsW.fresh (fr_buildSlice rfl (three_sl (k := ((n % 32 : Nat) : Int)))) rfl fun b44 => ?_
      refine OpsW.det (det_assign rfl) rfl ?_
      refine sNext ?_
      refine W.keep (F' := [(13, _), (12, _), (10, _), (9, _), (8, _), (7, _), (1, _)]) ⟨rfl, rfl, rfl, rfl, rfl, rfl, rfl, trivial⟩ ?_
      refine sSeq ?_
      refine W.draw mixed 36 [[], [], [0, 1], [], [0, 1, 2, 3], [0, 1, 2, 3, 4], [0, 1, 2, 3, 4, 5], [0, 1, 2, 3, 4, 5], [0, 1, 2, 3, 4, 5, 6, 7], [0, 1, 2, 3, 4, 5], [0, 1, 2, 3, 4, 5, 6, 7, 8, 9], [0, 1, 2, 3, 4, 5, 6, 7, 8, 9, 10], [0, 1, 2, 3, 4, 5, 6, 7, 8, 9, 10, 11], [0, 1, 2, 3, 4, 5, 6, 7, 8, 9, 10, 11, 12], [0, 1, 2, 3, 4, 5, 6, 7, 8, 9, 10, 11, 12], [0, 1, 2, 3, 4, 5, 6, 7, 8, 9, 10, 11, 12, 13, 14], [0, 1, 2, 3, 4, 5, 6, 7, 8, 9, 10, 11, 12], [0, 1, 2, 3, 4, 5, 6, 7, 8, 9, 10, 11, 12, 13, 14, 15, 16], [0, 1, 2, 3, 4, 5, 6, 7, 8, 9, 10, 11, 12, 13, 14, 15, 16, 17], [0, 1, 2, 3, 4, 5, 6, 7, 8, 9, 10, 11, 12, 13, 14, 15, 16, 17, 18], [0, 1, 2, 3, 4, 5, 6, 7, 8, 9, 10, 11, 12, 13, 14, 15, 16, 17, 18, 19], [0, 1, 2, 3, 4, 5, 6, 7, 8, 9, 10, 11, 12, 13, 14, 15, 16, 17, 18, 19, 20], [0, 1, 2, 3, 4, 5, 6, 7, 8, 9, 10, 11, 12, 13, 14, 15, 16, 17, 18, 19], [0, 1, 2, 3, 4, 5, 6, 7, 8, 9, 10, 11, 12, 13, 14, 15, 16, 17, 18, 19, 20, 21, 22], [0, 1, 2, 3, 4, 5, 6, 7, 8, 9, 10, 11, 12, 13, 14, 15, 16, 17, 18, 19, 20, 21, 22, 23], [0, 1, 2, 3, 4, 5, 6, 7, 8, 9, 10, 11, 12, 13, 14, 15, 16, 17, 18, 19, 20, 21, 22, 23, 24], [0, 1, 2, 3, 4, 5, 6, 7, 8, 9, 10, 11, 12, 13, 14, 15, 16, 17, 18, 19, 20, 21, 22, 23, 24, 25], [0, 1, 2, 3, 4, 5, 6, 7, 8, 9, 10, 11, 12, 13, 14, 15, 16, 17, 18, 19, 20, 21, 22, 23, 24, 25], [0, 1, 2, 3, 4, 5, 6, 7, 8, 9, 10, 11, 12, 13, 14, 15, 16, 17, 18, 19, 20, 21, 22, 23, 24, 25, 27], [0, 1, 2, 3, 4, 5, 6, 7, 8, 9, 10, 11, 12, 13, 14, 15, 16, 17, 18, 19, 20, 21, 22, 23, 24, 25, 27, 28], [0, 1, 2, 3, 4, 5, 6, 7, 8, 9, 10, 11, 12, 13, 14, 15, 16, 17, 18, 19, 20, 21, 22, 23, 24, 25, 27, 28, 29], [0, 1, 2, 3, 4, 5, 6, 7, 8, 9, 10, 11, 12, 13, 14, 15, 16, 17, 18, 19, 20, 21, 22, 23, 24, 25, 26, 27, 28, 29, 30], [0, 1, 2, 3, 4, 5, 6, 7, 8, 9, 10, 11, 12, 13, 14, 15, 16, 17, 18, 19, 20, 21, 22, 23, 24, 25], [0, 1, 2, 3, 4, 5, 6, 7, 8, 9, 10, 11, 12, 13, 14, 15, 16, 17, 18, 19, 20, 21, 22, 23, 24, 25, 26, 27, 28, 29, 30, 31, 32], [0, 1, 2, 3, 4, 5, 6, 7, 8, 9, 10, 11, 12, 13, 14, 15, 16, 17, 18, 19, 20, 21, 22, 23, 24, 25, 26, 27, 28, 29, 30, 31, 32, 33], [0, 1, 2, 3, 4, 5, 6, 7, 8, 9, 10, 11, 12, 13, 14, 15, 16, 17, 18, 19, 20, 21, 22, 23, 24, 25, 26, 27, 28, 29, 30, 31, 32, 33, 34]] (cl_lt (by decide)) ?_
      refine HeadR.start (cl_lt (by decide)) ?_
      refine HeadR.det rfl (fun β hβ => (det_loadA ty30 rfl (List.Mem.tail _ (List.Mem.tail _ (List.Mem.tail _ (List.Mem.tail _ (List.Mem.tail _ (List.Mem.head _)))))) rfl)) ?_
      refine HeadR.det rfl (fun β hβ => (det_move rfl)) ?_
      refine HeadR.det rfl (fun β hβ => (det_call en25 rfl (fun w hb ho => Times_ok (G' := [(b41, blk (bcells [n % 32] ++ []) 5)]) (l := [n % 32]) (p := gp la) (Bs.of (one_small (by omega)) (Nat.le_refl _)) (Nat.le_of_ble_eq_true rfl) (blocks_cons (hb _ (by repeat (first | exact List.Mem.head _ | apply List.Mem.tail))) (fun p hp => ho.look (List.mem_append_right _ hp)))))) ?_
      refine HeadR.det rfl (fun β hβ => (det_loadA ty30 rfl (List.Mem.tail _ (List.Mem.tail _ (List.Mem.tail _ (List.Mem.head _)))) rfl)) ?_
      refine HeadR.det rfl (fun β hβ => (Det.to (det_eql30 rfl rfl) (congrArg Value.bool (yb hr.c1)))) ?_
      refine HeadR.det rfl (fun β hβ => (det_move rfl)) ?_
      refine HeadR.yes rfl rfl (fun _ _ => rfl) (fun β hβ => (det_loadA ty30 rfl (List.Mem.tail _ (List.Mem.tail _ (List.Mem.tail _ (List.Mem.tail _ (List.Mem.tail _ (List.Mem.head _)))))) rfl)) ?_
      refine HeadR.yes rfl rfl (fun _ _ => rfl) (fun β hβ => (det_move rfl)) ?_
      refine HeadR.yes rfl rfl (fun _ _ => rfl) (fun β hβ => (det_call en25 rfl (fun w hb ho => Times_ok (G' := [(b44, blk (bcells [0, 0, n % 32] ++ []) 5)]) (l := [0, 0, n % 32]) (p := gp la) (Bs.of (three_small (by omega)) (Nat.le_refl _)) (Nat.le_of_ble_eq_true rfl) (blocks_cons (hb _ (by repeat (first | exact List.Mem.head _ | apply List.Mem.tail))) (fun p hp => ho.look (List.mem_append_right _ hp)))))) ?_
      refine HeadR.yes rfl rfl (fun _ _ => rfl) (fun β hβ => (det_loadA ty30 rfl (List.Mem.tail _ (List.Mem.tail _ (List.Mem.tail _ (List.Mem.head _)))) rfl)) ?_
      refine HeadR.yes rfl rfl (fun _ _ => rfl) (fun β hβ => (Det.to (det_eql30 rfl rfl) (congrArg Value.bool (yb hr.c2)))) ?_
      refine HeadR.det rfl (fun β hβ => (det_pick rfl rfl)) ?_
      refine HeadR.det rfl (fun β hβ => (det_move rfl)) ?_
      refine HeadR.yes rfl rfl (fun _ _ => rfl) (fun β hβ => (det_loadA ty30 rfl (List.Mem.tail _ (List.Mem.tail _ (List.Mem.tail _ (List.Mem.tail _ (List.Mem.head _))))) rfl)) ?_
      refine HeadR.yes rfl rfl (fun _ _ => rfl) (fun β hβ => (det_move rfl)) ?_
      refine HeadR.yes rfl rfl (fun _ _ => rfl) (fun β hβ => (det_call en25 rfl (fun w hb ho => Times_ok (G' := [(b41, blk (bcells [n % 32] ++ []) 5)]) (l := [n % 32]) (p := wild m) (Bs.of (one_small (by omega)) (Nat.le_refl _)) (Nat.le_of_ble_eq_true rfl) (blocks_cons (hb _ (by repeat (first | exact List.Mem.head _ | apply List.Mem.tail))) (fun p hp => ho.look (List.mem_append_right _ hp)))))) ?_
      refine HeadR.yes rfl rfl (fun _ _ => rfl) (fun β hβ => (det_loadA ty30 rfl (List.Mem.tail _ (List.Mem.tail _ (List.Mem.head _))) rfl)) ?_
      refine HeadR.yes rfl rfl (fun _ _ => rfl) (fun β hβ => (Det.to (det_eql30 rfl rfl) (congrArg Value.bool (yb hr.c3)))) ?_
      refine HeadR.det rfl (fun β hβ => (det_pick rfl rfl)) ?_
      refine HeadR.det rfl (fun β hβ => (det_move rfl)) ?_
      refine HeadR.yes rfl rfl (fun _ _ => rfl) (fun β hβ => (det_loadA ty30 rfl (List.Mem.tail _ (List.Mem.tail _ (List.Mem.tail _ (List.Mem.tail _ (List.Mem.head _))))) rfl)) ?_
      refine HeadR.yes rfl rfl (fun _ _ => rfl) (fun β hβ => (det_call en25 rfl (fun w hb ho => Times_ok (G' := []) (l := []) (p := wild m) nil_Bs (by decide) (fun p hp => ho.look (List.mem_append_right _ hp))))) ?_
      refine HeadR.yes rfl rfl (fun _ _ => rfl) (fun β hβ => (det_zero bz30)) ?_
      refine HeadR.yes rfl rfl (fun _ _ => rfl) (fun β hβ => (Det.to (det_eql30 rfl rfl) (congrArg Value.bool (yb hr.c4)))) ?_
      refine HeadR.det rfl (fun β hβ => (det_pick rfl rfl)) ?_
      refine HeadR.det rfl (fun β hβ => (det_move rfl)) ?_
      refine HeadR.yes rfl rfl (fun _ _ => rfl) (fun β hβ => (det_loadA ty30 rfl (List.Mem.tail _ (List.Mem.tail _ (List.Mem.tail _ (List.Mem.tail _ (List.Mem.tail _ (List.Mem.head _)))))) rfl)) ?_
      refine HeadR.yes rfl rfl (fun _ _ => rfl) (fun β hβ => (det_move rfl)) ?_
      refine HeadR.yes rfl rfl (fun _ _ => rfl) (fun β hβ => ((det_and (a := (n : Int)) (b := 31) rfl rfl).to (v := .int .u8 ((n % 32 : Nat) : Int)) (by rw [and31 hn]))) ?_
      refine HeadR.yes rfl rfl (fun _ _ => rfl) (fun β hβ => ((det_conv u5 u25 rfl).to (v := u64 (n % 32)) (by rw [wrap_u64 (by omega)]; rfl))) ?_
      refine HeadR.yes rfl rfl (fun _ _ => rfl) (fun β hβ => (det_call en26 rfl (fun w hb ho => ROf_ok (n := n % 32) (by omega) (fun p hp => ho.look (List.mem_append_right _ hp))))) ?_
      refine HeadR.yes rfl rfl (fun _ _ => rfl) (fun β hβ => (det_call en18 rfl (fun w hb ho => PMul_ok (fun p hp => ho.look (List.mem_append_right _ hp))))) ?_
      refine HeadR.yes rfl rfl (fun _ _ => rfl) (fun β hβ => (det_loadA ty30 rfl (List.Mem.tail _ (List.Mem.tail _ (List.Mem.tail _ (List.Mem.head _)))) rfl)) ?_
      refine HeadR.yes rfl rfl (fun _ _ => rfl) (fun β hβ => (Det.to (det_eql30 rfl rfl) (congrArg Value.bool (yb hr.c5)))) ?_
      refine HeadR.det rfl (fun β hβ => (det_pick rfl rfl)) ?_
      refine HeadR.det rfl (fun β hβ => (det_assign rfl)) ?_
      refine HeadR.done ⟨by kernel_rfl, fun β hβ => ?_⟩
      refine OpsW.norm (F' := ((45, _) :: (46, _) :: (47, _) :: (48, _) :: (49, _) :: (50, _) :: (51, _) :: (52, _) :: (53, _) :: (54, _) :: (55, _) :: (56, _) :: (57, _) :: (58, _) :: (59, _) :: (60, _) :: (61, _) :: (62, _) :: (63, _) :: (64, _) :: (65, _) :: (66, _) :: (67, _) :: (68, _) :: (69, _) :: (70, _) :: (71, _) :: (72, _) :: (73, _) :: (74, _) :: (75, _) :: (76, _) :: (77, _) :: (78, _) :: (79, _) :: (6, _) :: (13, _) :: (12, _) :: (10, _) :: (9, _) :: (8, _) :: (7, _) :: (1, _) :: [])) (H' := [(_, _), (_, _), (_, _), (_, _), (_, _), (_, _)]) rfl rfl ?_
      refine sNext ?_
      refine W.keep (F' := [(6, _)]) ⟨rfl, trivial⟩ ?_
      refine sRet ?_
      exact done1 Tryd.results4 (rv_tmp rfl) rfl

end Go.Cu

/- The first group's laws: what scalars, counts, lines and the group's own test come to. -/
namespace Go.Cu
open Go.Ec
open Go Go.Vm
set_option linter.unusedVariables false
set_option linter.unusedSimpArgs false
set_option linter.unusedSectionVars false
open CR

theorem of_small {m n : Nat} [Pos m] (h : n < m) : (Zp.of n : Zp m).val = n := by rw [Zp.of_val, Nat.mod_eq_of_lt h]
/-! ### The turn, and the group's test -/
def te : Fq := turn * turn
theorem te_sq : te * te = turn := by decide +kernel
theorem te_cube : te * te * te = 1 := by decide +kernel
theorem sig_id {α : Type} [Fld α] : Sig (fun a : α => a) := ⟨fun _ _ => rfl, fun _ _ => rfl, fun _ _ h => h⟩
theorem te_ne : te ≠ 0 := by decide +kernel
theorem tturn : Turn four (fun a : Fq => a) te := ⟨sig_id, te_ne, by rw [te_cube, one_mul, one_mul]⟩
def phi (P : G1) : G1 := turnG tturn P
theorem phi_val (P : G1) : (phi P).1 = (P.1.1 * turn, P.1.2) := by
  show (te * te * P.1.1, te * te * te * P.1.2) = _
  rw [te_cube, te_sq, one_mul, mul_comm]
def sz : Nat := beN sizeL
theorem sz_val : sz = 0xd201000000010000 := rfl
theorem sz_lt : sz * sz < 2 ^ 256 := by rw [sz_val]; exact of_decide_eq_true (by kernel_rfl)
theorem inB_iff (P : G1) : inB P.1 = true ↔ phi P = -nmul sz (nmul sz P) := by
  unfold inB
  rw [times_ok sizeL_small, times_ok sizeL_small, pneg_ok, ← phi_val, decide_eq_true_iff]
  exact ⟨fun h => Gp.ext h, fun h => congrArg (fun x : G1 => x.1) h⟩
set_option maxRecDepth 100000 in
theorem phi_z : (gadd (glad gG.1 256 (sz * sz)) (phi gG).1).2.2 = 0 := by
  show (gadd (glad gen 256 (sz * sz)) (te * te * gen.1, te * te * te * gen.2)).2.2 = 0
  decide +kernel
theorem phi_gen : phi gG = -nmul sz (nmul sz gG) := by
  obtain ⟨h1, h2⟩ := glad_ok gG 256 (sz * sz) sz_lt
  obtain ⟨h3, h4⟩ := step_add (phi gG) h1 h2
  have hz : (gadd (glad gG.1 256 (sz * sz)) (phi gG).1).2.2 = 0 := phi_z
  have h5 : nmul (sz * sz) gG + phi gG = 0 := by
    generalize gadd (glad gG.1 256 (sz * sz)) (phi gG).1 = j at h4 hz
    exact Gp.ext (h4.symm.trans (if_pos hz))
  rw [nmul_mul] at h5
  exact a_neg_eq h5
theorem phi_mul (n : Nat) : phi (nmul n gG) = -nmul sz (nmul sz (nmul n gG)) := by
  show turnG tturn (nmul n gG) = _
  rw [turnG_nmul]
  show nmul n (phi gG) = _
  rw [phi_gen, nmul_neg, nmul_comm n, nmul_comm n]
theorem in_mul (n : Nat) : inB (nmul n gG).1 = true := (inB_iff _).2 (phi_mul n)

theorem gp_on (l : List Nat) : On four (gp l) := by rw [gp_ok]; exact (nmul (wide l).val gG).2
/-! ### Scalars -/
theorem order_mul (n : Nat) : nmul rr (nmul n gG) = 0 := by rw [nmul_comm, gG_order, nmul_zero]
theorem scalarsOk (x y : Fs) (c : List Nat) : ScalarsOk x y (gp c) := by
  have hp := gp_ok c
  have hin := in_mul (wide c).val
  have hord := order_mul (wide c).val
  generalize nmul (wide c).val gG = P at *
  rw [hp]
  exact {
    r1 := by
      rw [pmul_ok, pmul_ok, pmul_ok, padd_ok, Zp.add_val, nmul_mod hord, nmul_add]
    r2 := by
      rw [pmul_ok, pmul_ok, pmul_ok, Zp.mul_val, nmul_mod hord, nmul_mul]
    r3 := by
      rw [pmul_ok, pmul_ok, pneg_ok, Zp.sub_val, Zp.zero_val, nmul_mod hord, Nat.zero_add]
      refine congrArg (fun z : G1 => z.1) (a_neg_eq ?_).symm
      rw [← nmul_add, show x.val + (rr - x.val) = rr by have := x.lt; omega]; exact hord
    r4 := by rw [pmul_ok, of_small (by decide), nmul_one]
    r5 := by rw [pmul_ok, Zp.zero_val]; rfl
    r6 := hin
    r7 := by rw [pmul_ok]; exact onB_ok (nmul x.val P).2 }

/-! ### Points that are as a rule not of the group -/
theorem wfrom_on : ∀ f k, On four (wfrom f k)
  | 0, _ => .inl rfl
  | f + 1, k => by
    unfold wfrom
    split
    · rename_i h
      refine .inr ?_
      have h1 := h.1
      unfold sqrtF at h1 ⊢
      split at h1
      · rename_i hr
        rw [if_pos hr]
        exact hr
      · cases h1
    · exact wfrom_on f (k + 1)
def wG (n : Nat) : G1 := ⟨wild n, wfrom_on 200 n⟩

/-! ### Counts -/
theorem nadd_ok (P : G1) : ∀ k, nadd P.1 k = (nmul k P).1
  | 0 => rfl
  | k + 1 => by rw [nadd, nadd_ok P k, padd_ok, nmul]
theorem countsOk (k : Nat) (hk : k < 32) (P Q : G1) : CountsOk k P.1 Q.1 where
  c1 := by rw [times_ok (one_small (by omega)), nadd_ok, show beN [k] = k by simp [beN]]
  c2 := by rw [times_ok (three_small (by omega)), nadd_ok, show beN [0, 0, k] = k by simp [beN]]
  c3 := by rw [times_ok (one_small (by omega)), nadd_ok, show beN [k] = k by simp [beN]]
  c4 := times_ok (l := []) (fun c hc => by cases hc) Q
  c5 := by rw [pmul_ok, nadd_ok, of_small (Nat.lt_trans hk (by decide))]

end Go.Cu

/- The first group: of the curve's points just those are in the group that come to nought when taken r times. -/
namespace Go.Cu
open Go.Ec
open Go Go.Vm
set_option linter.unusedVariables false
set_option linter.unusedSimpArgs false
set_option linter.unusedSectionVars false
open CR

/-- No more pigeons than holes. -/
theorem pigeon : ∀ (M N : Nat) (f : Nat → Nat), (∀ i, i < N → f i < M) → (∀ i j, i < N → j < N → f i = f j → i = j) → N ≤ M
  | 0, N, f, hf, hi => by
    rcases Nat.eq_zero_or_pos N with h | h
    · omega
    · exact absurd (hf 0 h) (Nat.not_lt_zero _)
  | M + 1, N, f, hf, hi => by
    by_cases hx : ∃ i, i < N ∧ f i = M
    · obtain ⟨k, hk, hfk⟩ := hx
      have hs : ∀ i, i < N - 1 → (if i < k then i else i + 1) < N ∧ (if i < k then i else i + 1) ≠ k := by
        intro i h
        by_cases hik : i < k
        · rw [if_pos hik]; omega
        · rw [if_neg hik]; omega
      have := pigeon M (N - 1) (fun i => f (if i < k then i else i + 1)) (fun i h => by
        have h1 := hf _ (hs i h).1
        have h2 : f (if i < k then i else i + 1) ≠ M := fun e => (hs i h).2 (hi _ _ (hs i h).1 hk (e.trans hfk.symm))
        show f (if i < k then i else i + 1) < M
        omega) (fun i j h1 h2 e => by
        have e2 := hi _ _ (hs i h1).1 (hs j h2).1 e
        by_cases hik : i < k
        · rw [if_pos hik] at e2
          by_cases hjk : j < k
          · rwa [if_pos hjk] at e2
          · rw [if_neg hjk] at e2; omega
        · rw [if_neg hik] at e2
          by_cases hjk : j < k
          · rw [if_pos hjk] at e2; omega
          · rw [if_neg hjk] at e2; omega)
      omega
    · have := pigeon M N f (fun i h => by
        have h1 := hf i h
        have h2 : f i ≠ M := fun e => hx ⟨i, h, e⟩
        omega) hi
      omega

section
variable {γ : Type} [AG γ]
open AG
instance acA : Std.Associative (α := γ) (· + ·) := ⟨aassoc⟩
instance acC : Std.Commutative (α := γ) (· + ·) := ⟨acomm⟩
theorem a_cancel_r {a b c : γ} (h : b + a = c + a) : b = c := a_cancel (a := a) (by rw [acomm a b, acomm a c]; exact h)
variable {f : γ → γ} (fadd : ∀ a b, f (a + b) = f a + f b) {s r : Nat} (hr : r + s = s * s + 1) (h3 : ∀ x, f (f x) + f x + x = 0)
include fadd
theorem f_zero : f 0 = 0 := a_cancel (a := f 0) (by rw [← fadd, a_zero, a_zero])
theorem f_nmul (x : γ) : ∀ n, f (nmul n x) = nmul n (f x)
  | 0 => f_zero fadd
  | n + 1 => by rw [nmul, fadd, f_nmul x n, nmul]
include hr h3
theorem in_zero {x : γ} (h : f x + nmul s x = 0) : nmul r x = 0 := by
  have h1 : f (f x) + nmul s (f x) = 0 := by rw [← f_nmul fadd, ← fadd, h, f_zero fadd]
  have h2 : nmul s (f x) + nmul (s * s) x = 0 := by rw [nmul_mul, ← nmul_dist, h, nmul_zero]
  have h4 := h3 x
  have h5 : nmul r x + nmul s x = nmul (s * s) x + x := by rw [← nmul_add, hr, nmul_add, nmul_one]
  have h6 : f (f x) = nmul (s * s) x := a_cancel_r (a := nmul s (f x)) (by rw [h1, acomm, h2])
  rw [h6] at h4
  refine a_cancel_r (a := nmul s x) ?_
  rw [h5, zero_a]
  refine a_cancel_r (a := f x) ?_
  rw [acomm (nmul s x), h, ← h4]
  ac_rfl
theorem zero_q {x : γ} (h : nmul r x = 0) : nmul r (f x + nmul s x) = 0 ∧ f (f x + nmul s x) + (f x + nmul s x) = nmul s (f x + nmul s x) := by
  refine ⟨?_, ?_⟩
  · rw [nmul_dist, ← f_nmul fadd, h, f_zero fadd, nmul_comm, h, nmul_zero, zero_a]
  · have h4 := h3 x
    have h5 : nmul s x = nmul (s * s) x + x := by
      have : nmul (r + s) x = nmul s x := by rw [nmul_add, h, zero_a]
      rw [← this, hr, nmul_add, nmul_one]
    rw [fadd, nmul_dist, f_nmul fadd, ← nmul_mul]
    have e : f (f x) + nmul s (f x) + (f x + nmul s x) = nmul s (f x) + (f (f x) + f x + x) + nmul (s * s) x := by
      rw [h5]; ac_rfl
    rw [e, h4, a_zero]
omit fadd hr h3
include fadd
theorem both_zero {u v : Nat} (hu : u * (s + s) = v * r + 1 + u) {G Q : γ} (hG : f G + nmul s G = 0) (hQ : f Q + Q = nmul s Q) (hr0 : nmul r G = 0) {a b : Nat} (h : nmul a G = nmul b Q) : nmul a G = 0 := by
  have h1 : f (nmul a G) + nmul s (nmul a G) = 0 := by rw [f_nmul fadd, nmul_comm, ← nmul_dist, hG, nmul_zero]
  have h2 : f (nmul a G) + nmul a G = nmul s (nmul a G) := by rw [h, f_nmul fadd, nmul_comm, ← nmul_dist, hQ]
  have h0 : nmul r (nmul a G) = 0 := by rw [nmul_comm, hr0, nmul_zero]
  generalize nmul a G = R at h1 h2 h0
  have h5 : nmul (s + s) R = R := by
    refine a_cancel (a := f R) ?_
    rw [h2, nmul_add, ← aassoc, h1, zero_a]
  have h6 : nmul (u * (s + s)) R = nmul u R := by rw [Nat.mul_comm, nmul_mul, h5]
  rw [hu, nmul_add, nmul_add, nmul_one, Nat.mul_comm, nmul_mul, h0, nmul_zero, zero_a] at h6
  exact a_cancel_r (a := nmul u R) (h6.trans (zero_a _).symm)
omit fadd
/-- Pairs of multiples of two points that meet in nought alone are all different. -/
theorem pair_inj {G Q : γ} (hG0 : nmul r G = 0) (hQ0 : nmul r Q = 0) (hGo : ∀ b, nmul b G = 0 → b % r = 0) (hQo : ∀ b, nmul b Q = 0 → b % r = 0)
    (hm : ∀ a b, nmul a G = nmul b Q → nmul a G = 0) {i j i' j' : Nat} (hi : i < r) (hj : j < r) (hi' : i' < r) (hj' : j' < r) (h : nmul i G + nmul j Q = nmul i' G + nmul j' Q) : i = i' ∧ j = j' := by
  have key : nmul (i + (r - i')) G = nmul (j' + (r - j)) Q := by
    have e1 : nmul (r - i') G + nmul i' G = 0 := by rw [← nmul_add, show r - i' + i' = r by omega, hG0]
    have e2 : nmul (r - j) Q + nmul j Q = 0 := by rw [← nmul_add, show r - j + j = r by omega, hQ0]
    refine a_cancel_r (a := nmul i' G + nmul j Q) ?_
    rw [nmul_add, nmul_add]
    have e3 : nmul i G + nmul (r - i') G + (nmul i' G + nmul j Q) = (nmul (r - i') G + nmul i' G) + (nmul i G + nmul j Q) := by ac_rfl
    have e4 : nmul j' Q + nmul (r - j) Q + (nmul i' G + nmul j Q) = (nmul (r - j) Q + nmul j Q) + (nmul i' G + nmul j' Q) := by ac_rfl
    rw [e3, e4, e1, e2, h]
  have z1 := hm _ _ key
  have d1 := hGo _ z1
  have d2 := hQo _ (key.symm.trans z1)
  have m1 : i + (r - i') < 2 * r := by omega
  have m2 : j' + (r - j) < 2 * r := by omega
  have two : ∀ n, n % r = 0 → 0 < n → n < 2 * r → n = r := by
    intro n hn h0 h2
    rcases Nat.lt_or_ge n r with hlt | hge
    · rw [Nat.mod_eq_of_lt hlt] at hn; omega
    · rw [Nat.mod_eq_sub_mod hge, Nat.mod_eq_of_lt (by omega)] at hn; omega
  have t1 := two _ d1 (by omega) m1
  have t2 := two _ d2 (by omega) m2
  omega
end

theorem ss_r : rr + sz * sz = sz * sz * (sz * sz) + 1 := by rw [sz_val]; exact of_decide_eq_true (by kernel_rfl)
theorem ss_u : 17478625058375396826482580169395321945744191626740779555491317182005930972502 * (sz * sz + sz * sz) = 152659206768433052043235717973596089001 * rr + 1 + 17478625058375396826482580169395321945744191626740779555491317182005930972502 := by rw [sz_val]; exact of_decide_eq_true (by kernel_rfl)
theorem turn_sq : turn * turn + turn + 1 = 0 := by decide +kernel
theorem turn_one : turn - 1 ≠ 0 := by decide +kernel
theorem phi_add (P Q : G1) : phi (P + Q) = phi P + phi Q := turnG_add tturn P Q
theorem phi_zero : phi 0 = 0 := turnG_zero tturn
/-- The point and its two turns lie on one line. -/
theorem turn_sum (P : G1) : phi (phi P) + phi P + P = 0 := by
  by_cases hz : P.1 = (0, 0)
  · have : P = 0 := Gp.ext hz
    subst this
    rw [phi_zero, phi_zero, AG.zero_a, AG.zero_a]
  have ha := P.2.resolve_left hz
  have hv := phi_val P
  have hv2 := phi_val (phi P)
  have hq : Aff four (phi P).1 := by
    refine (phi P).2.resolve_left fun e => ?_
    rw [hv] at e
    have e1 : P.1.1 * turn = 0 := congrArg Prod.fst e
    have e2 : P.1.2 = 0 := congrArg Prod.snd e
    by_cases hx : P.1.1 = 0
    · exact hz (Prod.ext hx e2)
    · exact Fld.mul_ne hx (by decide +kernel : turn ≠ 0) e1
  have hline : ¬ ((phi P).1.1 = P.1.1 ∧ (phi P).1.2 + P.1.2 = 0) := by
    rintro ⟨h1, h2⟩
    rw [hv] at h1 h2
    have hy : P.1.2 = 0 := by
      refine Classical.byContradiction fun hy => ?_
      exact half four hy h2
    have hx : P.1.1 = 0 := by
      refine Classical.byContradiction fun hx => ?_
      refine Fld.mul_ne hx turn_one ?_
      have h1 : P.1.1 * turn = P.1.1 := h1
      exact (eq_of_sub (Eq.trans (show ((P.1.1 * (turn - 1)) - 0) = (1 * ((P.1.1 * turn) - P.1.1)) from ring_id (fun vi_ => vget vi_ [P.1.1, turn]) (.sub (.mul (.var 0) (.sub (.var 1) .one)) .zero) (.mul .one (.sub (.mul (.var 0) (.var 1)) (.var 0))) (by kernel_rfl)) (lz h1)))
    exact hz (Prod.ext hx hy)
  have hT := turn_sq
  have hl : Ln 0 (phi P).1 P.1 := by
    rw [hv]
    refine ⟨?_, ?_⟩
    · exact (show P.1.2 = (P.1.2 + (0 * (P.1.1 - (P.1.1 * turn)))) from ring_id (fun vi_ => vget vi_ [P.1.1, P.1.2, turn]) (.var 1) (.add (.var 1) (.mul .zero (.sub (.var 0) (.mul (.var 0) (.var 2))))) (by kernel_rfl))
    · exact (eq_of_sub (Eq.trans (show (((((P.1.1 * turn) * (P.1.1 * turn)) + ((P.1.1 * turn) * P.1.1)) + (P.1.1 * P.1.1)) - (0 * ((P.1.2 + P.1.2) + (0 * (P.1.1 - (P.1.1 * turn)))))) = ((P.1.1 * P.1.1) * ((((turn * turn) + turn) + 1) - 0)) from ring_id (fun vi_ => vget vi_ [P.1.1, P.1.2, turn]) (.sub (.add (.add (.mul (.mul (.var 0) (.var 2)) (.mul (.var 0) (.var 2))) (.mul (.mul (.var 0) (.var 2)) (.var 0))) (.mul (.var 0) (.var 0))) (.mul .zero (.add (.add (.var 1) (.var 1)) (.mul .zero (.sub (.var 0) (.mul (.var 0) (.var 2))))))) (.mul (.mul (.var 0) (.var 0)) (.sub (.add (.add (.mul (.var 2) (.var 2)) (.var 2)) .one) .zero)) (by kernel_rfl)) (lz hT)))
  have hs : phi P + P = -phi (phi P) := by
    refine Gp.ext ?_
    show cadd (phi P).1 P.1 = cneg (phi (phi P)).1
    rw [cadd_line hq ha hline hl, hv2, hv]
    have hne : ((P.1.1 * turn * turn, P.1.2) : Pt) ≠ (0, 0) := fun e => by
      have e1 : P.1.1 * turn * turn = 0 := congrArg Prod.fst e
      have e2 : P.1.2 = 0 := congrArg Prod.snd e
      by_cases hx : P.1.1 = 0
      · exact hz (Prod.ext hx e2)
      · exact Fld.mul_ne (Fld.mul_ne hx (by decide +kernel : turn ≠ 0)) (by decide +kernel : turn ≠ 0) e1
    unfold cneg third
    rw [if_neg hne]
    refine Prod.ext ?_ ?_
    · exact (eq_of_sub (Eq.trans (show ((((0 * 0) - (P.1.1 * turn)) - P.1.1) - ((P.1.1 * turn) * turn)) = ((0 - P.1.1) * ((((turn * turn) + turn) + 1) - 0)) from ring_id (fun vi_ => vget vi_ [P.1.1, turn]) (.sub (.sub (.sub (.mul .zero .zero) (.mul (.var 0) (.var 1))) (.var 0)) (.mul (.mul (.var 0) (.var 1)) (.var 1))) (.mul (.sub .zero (.var 0)) (.sub (.add (.add (.mul (.var 1) (.var 1)) (.var 1)) .one) .zero)) (by kernel_rfl)) (lz hT)))
    · exact (show ((0 * ((P.1.1 * turn) - (((0 * 0) - (P.1.1 * turn)) - P.1.1))) - P.1.2) = (0 - P.1.2) from ring_id (fun vi_ => vget vi_ [P.1.1, P.1.2, turn]) (.sub (.mul .zero (.sub (.mul (.var 0) (.var 2)) (.sub (.sub (.mul .zero .zero) (.mul (.var 0) (.var 2))) (.var 0)))) (.var 1)) (.sub .zero (.var 1)) (by kernel_rfl))
  rw [AG.aassoc, hs, a_neg]

/-- A point's number: there are at most 2 p + 1. -/
def pcode (P : G1) : Nat := if P.1 = (0, 0) then 0 else 1 + (2 * P.1.1.val + (if P.1.2.val < (0 - P.1.2).val then 0 else 1))
theorem pcode_lt (P : G1) : pcode P < 2 * pp + 1 := by
  unfold pcode
  have := P.1.1.lt
  split
  · omega
  · split <;> omega
theorem pcode_inj {P Q : G1} (h : pcode P = pcode Q) : P = Q := by
  unfold pcode at h
  by_cases hP : P.1 = (0, 0)
  · by_cases hQ : Q.1 = (0, 0)
    · exact Gp.ext (hP.trans hQ.symm)
    · rw [if_pos hP, if_neg hQ] at h; omega
  · by_cases hQ : Q.1 = (0, 0)
    · rw [if_neg hP, if_pos hQ] at h; omega
    · rw [if_neg hP, if_neg hQ] at h
      have hx : P.1.1 = Q.1.1 := Zp.ext (by split at h <;> split at h <;> omega)
      rcases same_x (P.2.resolve_left hP) (Q.2.resolve_left hQ) hx with e | e
      · exact Gp.ext e
      · have e1 : P.1.2 = 0 - Q.1.2 := by
          rw [e]; unfold cneg; rw [if_neg hQ]
        have e2 : 0 - P.1.2 = Q.1.2 := by rw [e1]; exact (show (0 - (0 - Q.1.2)) = Q.1.2 from ring_id (fun vi_ => vget vi_ [Q.1.2]) (.sub .zero (.sub .zero (.var 0))) (.var 0) (by kernel_rfl))
        rw [e2, e1] at h
        have hv : (0 - Q.1.2).val = Q.1.2.val := by
          split at h <;> split at h <;> omega
        exact Gp.ext (Prod.ext hx (e1.trans (Zp.ext hv)))

theorem ord_mod {Q : G1} (h0 : nmul rr Q = 0) (hQ : Q ≠ 0) (b : Nat) (hb : nmul b Q = 0) : b % rr = 0 := by
  refine Classical.byContradiction fun hne => hQ ?_
  have hx : (Zp.of b : Fs) ≠ 0 := fun e => hne (by
    have := congrArg Zp.val e
    rw [Zp.of_val, Zp.zero_val] at this; exact this)
  have hi := congrArg Zp.val (Fld.mul_finv (Zp.of b : Fs) hx)
  obtain ⟨v, hv⟩ : ∃ v, v = (Fld.finv (Zp.of b : Fs)).val := ⟨_, rfl⟩
  rw [Zp.mul_val, Zp.of_val, ← hv] at hi
  have h1 : (1 : Fs).val = 1 := by decide +kernel
  rw [h1] at hi
  have e1 : nmul (b % rr * v % rr) Q = nmul (b % rr * v) Q := nmul_mod h0 _
  rw [hi, nmul_one, nmul_mul, nmul_mod h0, hb, nmul_zero] at e1
  exact e1

theorem in_iff (P : G1) : inB P.1 = true ↔ phi P + nmul (sz * sz) P = 0 := by
  rw [inB_iff, nmul_mul]
  constructor
  · intro h; rw [h, AG.neg_a]
  · intro h; rw [AG.acomm] at h; exact a_neg_eq h
theorem many : ¬ rr * rr ≤ 2 * pp + 1 := of_decide_eq_true (by kernel_rfl)
theorem in_rr (P : G1) : inB P.1 = true ↔ nmul rr P = 0 := by
  rw [in_iff]
  refine ⟨fun h => in_zero phi_add ss_r turn_sum h, fun h => ?_⟩
  obtain ⟨h1, h2⟩ := zero_q phi_add ss_r turn_sum h
  obtain ⟨Q, hQ⟩ : ∃ Q, Q = phi P + nmul (sz * sz) P := ⟨_, rfl⟩
  rw [← hQ] at h1 h2 ⊢
  refine Classical.byContradiction fun hne => many ?_
  have hg : phi gG + nmul (sz * sz) gG = 0 := (in_iff gG).1 (by have := in_mul 1; rwa [nmul_one] at this)
  have hgn : gG ≠ 0 := fun e => gen_ne (congrArg (fun x : G1 => x.1) e)
  have hr0 : 0 < rr := by decide
  refine pigeon (2 * pp + 1) (rr * rr) (fun k => pcode (nmul (k / rr) gG + nmul (k % rr) Q)) (fun k _ => pcode_lt _) (fun k l hk hl e => ?_)
  have e := pcode_inj e
  have hk2 : k / rr < rr := Nat.div_lt_of_lt_mul hk
  have hl2 : l / rr < rr := Nat.div_lt_of_lt_mul hl
  obtain ⟨e1, e2⟩ := pair_inj gG_order h1 (ord_mod gG_order hgn) (ord_mod h1 hne) (fun a b hab => both_zero phi_add ss_u hg h2 gG_order hab) hk2 (Nat.mod_lt _ hr0) hl2 (Nat.mod_lt _ hr0) e
  rw [← Nat.div_add_mod k rr, ← Nat.div_add_mod l rr, e1, e2]
theorem in_add (P Q : G1) (hQ : inB Q.1 = true) : inB (P + Q).1 = inB P.1 := by
  have hq := (in_iff Q).1 hQ
  have h : phi (P + Q) + nmul (sz * sz) (P + Q) = phi P + nmul (sz * sz) P := by
    rw [phi_add, nmul_dist, a_four, hq, a_zero]
  rw [Bool.eq_iff_iff, in_iff, in_iff, h]
end Go.Cu

/- The first group's laws: G1Groups: the walk. Conditions: the rules that the points obey. -/
namespace Go.Cu
open Go Go.Vm Go.RowKit Go.Proofs 
attribute [local irreducible] W OpsW Det Fresh New Writes Vm.Pure Makes Changes ExternTo BuildTo ZeroTo FieldTo IndexTo BinTo SliceTo Vm.Enters
set_option linter.unusedVariables false
set_option linter.unusedSimpArgs false
variable {T : Nat → TypeId × Nat × Nat}

/-- The bytes of r, and of r - 1. -/
def rL : List Nat := [115, 237, 167, 83, 41, 157, 125, 72, 51, 57, 216, 8, 9, 161, 216, 5, 83, 189, 164, 2, 255, 254, 91, 254, 255, 255, 255, 255, 0, 0, 0, 1]
def rmL : List Nat := [115, 237, 167, 83, 41, 157, 125, 72, 51, 57, 216, 8, 9, 161, 216, 5, 83, 189, 164, 2, 255, 254, 91, 254, 255, 255, 255, 255, 0, 0, 0, 0]
theorem rL_small : ∀ c ∈ rL, c < 256 := by decide
theorem rm_cells : rbytes (0 - Zp.of 1) = bcells rmL := by rw [rbytes_eq]; exact congrArg bcells (by decide +kernel : blist (0 - Zp.of 1) = rmL)
theorem rL_put : splice (0 + (31 : Int).toNat * 1) [.int .u8 1] (bcells rmL) = some (bcells rL) := rfl
theorem rL_at : (bcells rmL)[0 + (31 : Int).toNat * 1]? = some (.int .u8 0) := rfl
theorem rL_Bs {b : Nat} : Bs [(b, blk (bcells rL) 52)] (.slice (some ⟨b, 0, none⟩) 32 32) rL := by
  have := Bs.of (l := rL) (b := b) (cap := 32) (spare := []) (e := 52) (fr := (0, 0)) rL_small (by decide)
  rwa [List.append_nil] at this
theorem tc5 : TyC Tryd.prog 5 := ⟨by kernel_rfl, by kernel_rfl⟩
theorem ne_same {a b : Bool} (h : a = b) : (a != b) = false := by subst h; cases a <;> rfl
theorem eq_same {a b : Bool} (h : a = b) : (a == b) = true := by subst h; cases a <;> rfl
structure GroupsOk (p q : Pt) : Prop where
  g1 : inB p = true
  g2 : inB q = decide (times rL q = (0, 0))
  g3 : onB q = true
  g4 : times rL p = (0, 0)
  g5 : inB (padd q p) = inB q
  g6 : onB (q.1, q.2 + q.2) = decide (q = (0, 0))

theorem u4 : Tryd.prog.underlying 4 = some (.bool) := by kernel_rfl
set_option maxHeartbeats 4000000 in
set_option maxRecDepth 100000 in
theorem G1Groups_ok {G' : Hp} {va : Value} {la : List Nat} {n : Nat} (ha : Bs G' va la) (hn : n < 65536) (hh : HeadOk) (hr : GroupsOk (gp la) (wild n)) {w : World} (hG : Blocks (G' ++ GH T) w)  : Vm.Pure Tryd.prog 8 #[va, .int .u16 (n : Nat)] w (.bool true) := by
  obtain ⟨aa, ca, hva⟩ := ha.shape
  refine pure_of_W (n := 75) (args := [va, .int .u16 (n : Nat)]) Tryd.func8 rfl Tryd.ntmps8 (Nat.le_of_ble_eq_true rfl) hG ?_
  refine sStart ?_
  refine sSeq ?_
  subst hva
  refine W.region ?_
  refine OpsW.det (det_assign rfl) rfl ?_
  refine sNext ?_
  refine W.keep (F' := [(0, _), (1, _)]) ⟨rfl, rfl, trivial⟩ ?_
  refine sSeq ?_
  refine sSeq ?_
  refine W.region ?_
  refine OpsW.det (det_call en15 rfl (fun w hb ho => head_ok hh (fun p hp => ho.look (List.mem_append_right _ hp)))) rfl ?_
  refine OpsW.det (det_not rfl) rfl ?_
  refine sNext ?_
  refine W.keep (F' := [(10, _), (0, _), (1, _)]) ⟨rfl, rfl, rfl, trivial⟩ ?_
  refine W.cond_false rfl ?_
  refine sSkip ?_
  refine sSeq ?_
  refine sSeq ?_
  refine W.region ?_
  refine OpsW.det (det_move rfl) rfl ?_
  refine OpsW.det (det_call en16 rfl (fun w hb ho => long_ok (fun p hp => ho.look (List.mem_append_right _ hp)))) rfl ?_
  refine sNext ?_
  refine W.keep (F' := [(12, _), (0, _), (1, _)]) ⟨rfl, rfl, rfl, trivial⟩ ?_
  refine W.cond rfl (fun hc12 => ?_) (fun hc12 => ?_)
  · skip
    refine sSeq ?_
    refine W.region ?_
    refine OpsW.det (det_assign rfl) rfl ?_
    refine sNext ?_
    refine W.keep (F' := [(4, _)]) ⟨rfl, trivial⟩ ?_
    refine sRet ?_
    exact done1 Tryd.results8 (rv_tmp rfl) rfl
  · skip
    have hl := not_long hc12
    refine sSkip ?_
    refine sSeq ?_
    refine W.region ?_
    refine OpsW.det (det_call en17 rfl (fun w hb ho => Gen_ok (fun p hp => ho.look (List.mem_append_right _ hp)))) rfl ?_
    refine OpsW.det (det_move rfl) rfl ?_
    refine OpsW.det (det_call en19 rfl (fun w hb ho => scalar_ok (G' := G') ha (Nat.le_trans hl.1 (by decide)) ho.blocks)) rfl ?_
    refine OpsW.det (det_call en18 rfl (fun w hb ho => PMul_ok (fun p hp => ho.look (List.mem_append_right _ hp)))) rfl ?_
    refine OpsW.fresh (fr_alloc z30r) rfl fun b5 => ?_
    refine OpsW.store sz30 rfl rfl rfl rfl rfl (Upd.here) rfl ?_
    refine sNext ?_
    refine W.keep (F' := [(5, _), (1, _)]) ⟨rfl, rfl, trivial⟩ ?_
    refine sSeq ?_
    refine W.region ?_
    refine OpsW.det (det_move rfl) rfl ?_
    refine OpsW.det (det_call en24 rfl (fun w hb ho => wild_ok hn (fun p hp => ho.look (List.mem_append_right _ hp)))) rfl ?_
    refine OpsW.fresh (fr_alloc z30r) rfl fun b6 => ?_
    refine OpsW.store sz30 rfl rfl rfl rfl rfl (Upd.here) rfl ?_
    refine sNext ?_
    refine W.keep (F' := [(6, _), (5, _)]) ⟨rfl, rfl, trivial⟩ ?_
    refine sSeq ?_
    refine W.region ?_
    refine OpsW.det (det_call en26 rfl (fun w hb ho => ROf_ok (n := 1) (by decide) (fun p hp => ho.look (List.mem_append_right _ hp)))) rfl ?_
    refine OpsW.det (det_call en27 rfl (fun w hb ho => RNeg_ok (fun p hp => ho.look (List.mem_append_right _ hp)))) rfl ?_
    refine OpsW.det (det_call en32 rfl (fun w hb ho => RBytes_ok (fun p hp => ho.look (List.mem_append_right _ hp)))) rfl ?_
    refine OpsW.fresh (fr_alloc z52) rfl fun b7 => ?_
    refine OpsW.store sz52 rfl rfl rfl (rbytes_len _) (rbytes_one _) (Upd.here) (splice_52 _) ?_
    rw [rm_cells]
    refine sNext ?_
    refine W.keep (F' := [(7, _), (6, _), (5, _)]) ⟨rfl, rfl, rfl, trivial⟩ ?_
    refine sSeq ?_
    refine W.region ?_
    refine OpsW.det ((det_sliceArr (lo := none) (hi := none) (l := 0) (h := 32) u52 sz5 rfl rfl rfl (by decide) (by decide)).to (v := .slice (some ⟨b7, 0, none⟩) 32 32) rfl) rfl ?_
    refine OpsW.det (det_assign rfl) rfl ?_
    refine sNext ?_
    refine W.keep (F' := [(8, _), (6, _), (5, _)]) ⟨rfl, rfl, rfl, trivial⟩ ?_
    refine sSeq ?_
    refine W.region ?_
    refine OpsW.det (det_move rfl) rfl ?_
    refine OpsW.det (det_indexAddr_sl u22 sz5 rfl rfl ⟨by decide, by decide⟩) rfl ?_
    refine OpsW.det (det_loadC tc5 rfl (List.Mem.head _) rL_at) rfl ?_
    refine OpsW.det ((det_add (a := 0) (b := 1) rfl rfl).to (v := .int .u8 1) rfl) rfl ?_
    refine OpsW.det (det_indexAddr_sl u22 sz5 rfl rfl ⟨by decide, by decide⟩) rfl ?_
    refine OpsW.store sz5 rfl rfl rfl rfl rfl (Upd.here) rL_put ?_
    refine sNext ?_
    refine W.keep (F' := [(8, _), (6, _), (5, _)]) ⟨rfl, rfl, rfl, trivial⟩ ?_
    refine sSeq ?_
    refine sSeq ?_
    refine W.draw mixed 25 [[], [0], [0, 1], [0, 1, 2], [0, 1, 2, 3], [0, 1, 2, 3, 4], [0, 1, 2, 3], [0, 1, 2, 3], [0, 1, 2, 3, 4, 5, 6, 7], [0, 1, 2, 3], [0, 1, 2, 3, 4, 5, 6, 7, 8, 9], [0, 1, 2, 3, 4, 5, 6, 7, 8, 9, 10], [0, 1, 2, 3, 4, 5, 6, 7, 8, 9, 10, 11], [0, 1, 2, 3, 4, 5, 6, 7, 8, 9, 10, 11, 12], [0, 1, 2, 3, 4, 5, 6, 7, 8, 9, 10, 11, 12, 13], [0, 1, 2, 3, 4, 5, 6, 7, 8, 9, 10, 11, 12, 13, 14], [0, 1, 2, 3, 4, 5, 6, 7, 8, 9, 10, 11, 12, 13, 14, 15], [0, 1, 2, 3, 4, 5, 6, 7, 8, 9, 10, 11, 12, 13, 14, 15, 16], [0, 1, 2, 3, 4, 5, 6, 7, 8, 9, 10, 11, 12, 13, 14, 15, 16, 17], [0, 1, 2, 3, 4, 5, 6, 7, 8, 9, 10, 11, 12, 13, 14, 15, 16, 17, 18], [0, 1, 2, 3, 4, 5, 6, 7, 8, 9, 10, 11, 12, 13, 14, 15, 16, 17, 18], [0, 1, 2, 3, 4, 5, 6, 7, 8, 9, 10, 11, 12, 13, 14, 15, 16, 17, 18, 19, 20], [0, 1, 2, 3, 4, 5, 6, 7, 8, 9, 10, 11, 12, 13, 14, 15, 16, 17, 18], [0, 1, 2, 3, 4, 5, 6, 7, 8, 9, 10, 11, 12, 13, 14, 15, 16, 17, 18, 19, 20, 21, 22], [0, 1, 2, 3, 4, 5, 6, 7, 8, 9, 10, 11, 12, 13, 14, 15, 16, 17, 18, 19, 20, 21, 22, 23]] (cl_lt (by decide)) ?_
    refine HeadR.start (cl_lt (by decide)) ?_
    refine HeadR.det rfl (fun β hβ => (det_loadA ty30 rfl (List.Mem.tail _ (List.Mem.tail _ (List.Mem.head _))) rfl)) ?_
    refine HeadR.det rfl (fun β hβ => (Det.to (det_call en31 rfl (fun w hb ho => PIn_ok (fun p hp => ho.look (List.mem_append_right _ hp)))) (congrArg Value.bool (hr.g1)))) ?_
    refine HeadR.det rfl (fun β hβ => (det_not rfl)) ?_
    refine HeadR.det rfl (fun β hβ => (det_move rfl)) ?_
    refine HeadR.yes rfl rfl (fun _ _ => rfl) (fun β hβ => (det_loadA ty30 rfl (List.Mem.tail _ (List.Mem.head _)) rfl)) ?_
    refine HeadR.yes rfl rfl (fun _ _ => rfl) (fun β hβ => (det_call en31 rfl (fun w hb ho => PIn_ok (fun p hp => ho.look (List.mem_append_right _ hp))))) ?_
    refine HeadR.yes rfl rfl (fun _ _ => rfl) (fun β hβ => (det_loadA ty30 rfl (List.Mem.tail _ (List.Mem.head _)) rfl)) ?_
    refine HeadR.yes rfl rfl (fun _ _ => rfl) (fun β hβ => (det_move rfl)) ?_
    refine HeadR.yes rfl rfl (fun _ _ => rfl) (fun β hβ => (det_call en25 rfl (fun w hb ho => Times_ok (G' := [(b7, blk (bcells rL) 52)]) (l := rL) (p := wild n) rL_Bs (by decide) (blocks_cons (hb _ (by repeat (first | exact List.Mem.head _ | apply List.Mem.tail))) (fun p hp => ho.look (List.mem_append_right _ hp)))))) ?_
    refine HeadR.yes rfl rfl (fun _ _ => rfl) (fun β hβ => (det_zero bz30)) ?_
    refine HeadR.yes rfl rfl (fun _ _ => rfl) (fun β hβ => (det_eql30 rfl rfl)) ?_
    refine HeadR.yes rfl rfl (fun _ _ => rfl) (fun β hβ => (Det.to (det_neqb u4 rfl rfl) (congrArg Value.bool (ne_same hr.g2)))) ?_
    refine HeadR.det rfl (fun β hβ => (det_pick rfl rfl)) ?_
    refine HeadR.det rfl (fun β hβ => (det_move rfl)) ?_
    refine HeadR.yes rfl rfl (fun _ _ => rfl) (fun β hβ => (det_loadA ty30 rfl (List.Mem.tail _ (List.Mem.head _)) rfl)) ?_
    refine HeadR.yes rfl rfl (fun _ _ => rfl) (fun β hβ => (Det.to (det_call en23 rfl (fun w hb ho => POn_ok (fun p hp => ho.look (List.mem_append_right _ hp)))) (congrArg Value.bool (hr.g3)))) ?_
    refine HeadR.yes rfl rfl (fun _ _ => rfl) (fun β hβ => (det_not rfl)) ?_
    refine HeadR.det rfl (fun β hβ => (det_pick rfl rfl)) ?_
    refine HeadR.det rfl (fun β hβ => (det_move rfl)) ?_
    refine HeadR.yes rfl rfl (fun _ _ => rfl) (fun β hβ => (det_loadA ty30 rfl (List.Mem.tail _ (List.Mem.tail _ (List.Mem.head _))) rfl)) ?_
    refine HeadR.yes rfl rfl (fun _ _ => rfl) (fun β hβ => (det_move rfl)) ?_
    refine HeadR.yes rfl rfl (fun _ _ => rfl) (fun β hβ => (det_call en25 rfl (fun w hb ho => Times_ok (G' := [(b7, blk (bcells rL) 52)]) (l := rL) (p := gp la) rL_Bs (by decide) (blocks_cons (hb _ (by repeat (first | exact List.Mem.head _ | apply List.Mem.tail))) (fun p hp => ho.look (List.mem_append_right _ hp)))))) ?_
    refine HeadR.yes rfl rfl (fun _ _ => rfl) (fun β hβ => (det_zero bz30)) ?_
    refine HeadR.yes rfl rfl (fun _ _ => rfl) (fun β hβ => (Det.to (det_neq30 rfl rfl) (congrArg Value.bool (nb hr.g4)))) ?_
    refine HeadR.det rfl (fun β hβ => (det_pick rfl rfl)) ?_
    refine HeadR.done ⟨by kernel_rfl, fun β hβ => ?_⟩
    refine OpsW.norm (F' := [(28, _), (29, _), (30, _), (31, _), (32, _), (33, _), (34, _), (35, _), (36, _), (37, _), (38, _), (39, _), (40, _), (41, _), (42, _), (43, _), (44, _), (45, _), (46, _), (47, _), (48, _), (49, _), (50, _), (51, _), (52, _), (8, _), (6, _), (5, _)]) (H' := [(_, _), (_, _), (_, _)]) rfl rfl ?_
    refine sNext ?_
    refine W.keep (F' := [(52, _), (6, _), (5, _)]) ⟨rfl, rfl, rfl, trivial⟩ ?_
    refine W.cond_false rfl ?_
    refine sSkip ?_
    refine sSeq ?_
    refine W.draw mixed 23 [[], [], [0, 1], [0, 1, 2], [], [0, 1, 2, 3, 4], [0, 1, 2, 3, 4, 5], [0, 1, 2, 3, 4, 5, 6], [0, 1, 2, 3, 4, 5, 6, 7], [0, 1, 2, 3, 4, 5, 6, 7, 8], [0, 1, 2, 3, 4, 5, 6, 7], [0, 1, 2, 3, 4, 5, 6, 7, 10], [0, 1, 2, 3, 4, 5, 6, 7], [0, 1, 2, 3, 4, 5, 6, 7, 12], [0, 1, 2, 3, 4, 5, 6, 7, 10, 11, 12, 13], [0, 1, 2, 3, 4, 5, 6, 7, 8, 9, 10, 11, 12, 13, 14], [0, 1, 2, 3, 4, 5, 6, 7, 8, 9, 10, 11, 12, 13, 14, 15], [0, 1, 2, 3, 4, 5, 6, 7], [0, 1, 2, 3, 4, 5, 6, 7], [0, 1, 2, 3, 4, 5, 6, 7, 17, 18], [0, 1, 2, 3, 4, 5, 6, 7, 8, 9, 10, 11, 12, 13, 14, 15, 16, 17, 18, 19], [0, 1, 2, 3, 4, 5, 6, 7, 8, 9, 10, 11, 12, 13, 14, 15, 16, 17, 18, 19, 20], [0, 1, 2, 3, 4, 5, 6, 7, 8, 9, 10, 11, 12, 13, 14, 15, 16, 17, 18, 19, 20, 21]] (cl_lt (by decide)) ?_
    refine HeadR.start (cl_lt (by decide)) ?_
    refine HeadR.det rfl (fun β hβ => (det_loadA ty30 rfl (List.Mem.tail _ (List.Mem.head _)) rfl)) ?_
    refine HeadR.det rfl (fun β hβ => (det_loadA ty30 rfl (List.Mem.tail _ (List.Mem.tail _ (List.Mem.head _))) rfl)) ?_
    refine HeadR.det rfl (fun β hβ => (det_call en20 rfl (fun w hb ho => PAdd_ok (fun p hp => ho.look (List.mem_append_right _ hp))))) ?_
    refine HeadR.det rfl (fun β hβ => (det_call en31 rfl (fun w hb ho => PIn_ok (fun p hp => ho.look (List.mem_append_right _ hp))))) ?_
    refine HeadR.det rfl (fun β hβ => (det_loadA ty30 rfl (List.Mem.tail _ (List.Mem.head _)) rfl)) ?_
    refine HeadR.det rfl (fun β hβ => (det_call en31 rfl (fun w hb ho => PIn_ok (fun p hp => ho.look (List.mem_append_right _ hp))))) ?_
    refine HeadR.det rfl (fun β hβ => (Det.to (det_eqlb u4 rfl rfl) (congrArg Value.bool (eq_same hr.g5)))) ?_
    refine HeadR.det rfl (fun β hβ => (det_move rfl)) ?_
    refine HeadR.yes rfl rfl (fun _ _ => rfl) (fun β hβ => (det_fieldAddr fl30_0 rfl)) ?_
    refine HeadR.yes rfl rfl (fun _ _ => rfl) (fun β hβ => (det_loadA ty28 rfl (List.Mem.tail _ (List.Mem.head _)) rfl)) ?_
    refine HeadR.yes rfl rfl (fun _ _ => rfl) (fun β hβ => (det_fieldAddr fl30_1 rfl)) ?_
    refine HeadR.yes rfl rfl (fun _ _ => rfl) (fun β hβ => (det_loadA ty28 rfl (List.Mem.tail _ (List.Mem.head _)) rfl)) ?_
    refine HeadR.yes rfl rfl (fun _ _ => rfl) (fun β hβ => (det_fieldAddr fl30_1 rfl)) ?_
    refine HeadR.yes rfl rfl (fun _ _ => rfl) (fun β hβ => (det_loadA ty28 rfl (List.Mem.tail _ (List.Mem.head _)) rfl)) ?_
    refine HeadR.yes rfl rfl (fun _ _ => rfl) (fun β hβ => (det_call en33 rfl (fun w hb ho => Add_ok (fun p hp => ho.look (List.mem_append_right _ hp))))) ?_
    refine HeadR.yes rfl rfl (fun _ _ => rfl) (fun β hβ => (det_build rfl bld30)) ?_
    refine HeadR.yes rfl rfl (fun _ _ => rfl) (fun β hβ => (det_call en23 rfl (fun w hb ho => POn_ok (fun p hp => ho.look (List.mem_append_right _ hp))))) ?_
    refine HeadR.yes rfl rfl (fun _ _ => rfl) (fun β hβ => (det_loadA ty30 rfl (List.Mem.tail _ (List.Mem.head _)) rfl)) ?_
    refine HeadR.yes rfl rfl (fun _ _ => rfl) (fun β hβ => (det_zero bz30)) ?_
    refine HeadR.yes rfl rfl (fun _ _ => rfl) (fun β hβ => (det_eql30 rfl rfl)) ?_
    refine HeadR.yes rfl rfl (fun _ _ => rfl) (fun β hβ => (Det.to (det_eqlb u4 rfl rfl) (congrArg Value.bool (eq_same hr.g6)))) ?_
    refine HeadR.det rfl (fun β hβ => (det_pick rfl rfl)) ?_
    refine HeadR.det rfl (fun β hβ => (det_assign rfl)) ?_
    refine HeadR.done ⟨by kernel_rfl, fun β hβ => ?_⟩
    refine OpsW.norm (F' := [(53, _), (54, _), (55, _), (56, _), (57, _), (58, _), (59, _), (60, _), (61, _), (62, _), (63, _), (64, _), (65, _), (66, _), (67, _), (68, _), (69, _), (70, _), (71, _), (72, _), (73, _), (74, _), (4, _), (52, _), (6, _), (5, _)]) (H' := [(_, _), (_, _), (_, _)]) rfl rfl ?_
    refine sNext ?_
    refine W.keep (F' := [(4, _)]) ⟨rfl, trivial⟩ ?_
    refine sRet ?_
    exact done1 Tryd.results8 (rv_tmp rfl) rfl

end Go.Cu

/- The first group: what G1Groups asks of a point that the generator makes and of any other one. -/
namespace Go.Cu
open Go.Ec
open Go Go.Vm
set_option linter.unusedVariables false
set_option linter.unusedSimpArgs false
set_option linter.unusedSectionVars false
open CR
theorem rL_val : beN rL = rr := by decide +kernel
theorem times_r (P : G1) : times rL P.1 = (0, 0) ↔ nmul rr P = 0 := by
  rw [times_ok rL_small, rL_val]
  exact ⟨fun h => Gp.ext h, fun h => congrArg (fun x : G1 => x.1) h⟩
/-- Of the points that wild makes none has order two. -/
theorem wfrom_y : ∀ f k, wfrom f k = (0, 0) ∨ (wfrom f k).2 ≠ 0
  | 0, _ => .inl rfl
  | f + 1, k => by
    obtain ⟨r, hr⟩ : ∃ r, r = sqrtF (wcube k) := ⟨_, rfl⟩
    rw [wfrom, ← hr]
    by_cases h : r.2 = true ∧ r.1 ≠ 0
    · rw [if_pos h]; exact .inr h.2
    · rw [if_neg h]; exact wfrom_y f (k + 1)
theorem on_twice {q : Pt} (hq : On four q) (hy : q = (0, 0) ∨ q.2 ≠ 0) : onB (q.1, q.2 + q.2) = decide (q = (0, 0)) := by
  rcases hy with rfl | hy
  · decide +kernel
  · have hne : q ≠ (0, 0) := fun e => hy (by rw [e])
    rw [decide_eq_false hne]
    refine Bool.eq_false_iff.2 fun h => ?_
    have h1 := hq.resolve_left hne
    have hyy : q.2 + q.2 ≠ 0 := half four hy
    have h2 : Aff four (q.1, q.2 + q.2) := (on_of h).resolve_left fun e => hyy (congrArg Prod.snd e)
    have h1 : q.2 * q.2 = q.1 * q.1 * q.1 + four := h1
    have h2 : (q.2 + q.2) * (q.2 + q.2) = q.1 * q.1 * q.1 + four := h2
    refine Fld.mul_ne (Fld.mul_ne hy hy) (Gd.three (B := four)) ?_
    exact (eq_of_sub (Eq.trans (show (((q.2 * q.2) * ((1 + 1) + 1)) - 0) = ((1 * (((q.2 + q.2) * (q.2 + q.2)) - (((q.1 * q.1) * q.1) + four))) + ((0 - 1) * ((q.2 * q.2) - (((q.1 * q.1) * q.1) + four)))) from ring_id (fun vi_ => vget vi_ [q.1, q.2, four]) (.sub (.mul (.mul (.var 1) (.var 1)) (.add (.add .one .one) .one)) .zero) (.add (.mul .one (.sub (.mul (.add (.var 1) (.var 1)) (.add (.var 1) (.var 1))) (.add (.mul (.mul (.var 0) (.var 0)) (.var 0)) (.var 2)))) (.mul (.sub .zero .one) (.sub (.mul (.var 1) (.var 1)) (.add (.mul (.mul (.var 0) (.var 0)) (.var 0)) (.var 2))))) (by kernel_rfl)) (lz2 (lz h2) (lz h1))))
theorem groupsOk (a : List Nat) (n : Nat) : GroupsOk (gp a) (wild n) := by
  have hq : wild n = (wG n).1 := rfl
  have hy := wfrom_y 200 n
  have hw : wild n = wfrom 200 n := rfl
  rw [← hw] at hy
  have hon := (wG n).2
  rw [← hq] at hon
  have h6 := on_twice hon hy
  have hin := in_mul (wide a).val
  have hord := order_mul (wide a).val
  rw [gp_ok]
  generalize nmul (wide a).val gG = P at *
  refine ⟨hin, ?_, onB_ok hon, ?_, ?_, h6⟩
  · rw [hq, Bool.eq_iff_iff, in_rr, decide_eq_true_iff, times_r]
  · exact (times_r P).2 hord
  · rw [hq, padd_ok, in_add _ _ hin]
end Go.Cu

/- A prime of 448 bits that divides the number of points of the second curve: proved by a chain of Pocklington's tests. -/
namespace Go.Cu
open CR
set_option linter.unusedVariables false
set_option linter.unusedSimpArgs false
/-- The test with one prime. -/
def pockOne (N q a : Nat) : Bool := Nat.blt 1 N && Nat.blt N (2 ^ 512) && Nat.beq ((N - 1) % q) 0 && Nat.beq (pmod N 512 a (N - 1)) 1 && Nat.beq (Nat.gcd (pmod N 512 a ((N - 1) / q) + N - 1) N) 1 && Nat.blt N (q * q)
theorem pock_one {N q : Nat} (a : Nat) (hq : Prime q) (h : pockOne N q a = true) : Prime N := by
  simp only [pockOne, Bool.and_eq_true, Nat.blt_eq] at h
  obtain ⟨⟨⟨⟨⟨h1, h2⟩, h3⟩, h4⟩, h5⟩, h6⟩ := h
  have h3 := Nat.eq_of_beq_eq_true h3
  have h4 := Nat.eq_of_beq_eq_true h4
  have h5 := Nat.eq_of_beq_eq_true h5
  have hlt : (N - 1) / q < 2 ^ 512 := Nat.lt_of_le_of_lt (Nat.div_le_self _ _) (by omega)
  rw [pmod_ok _ _ _ _ (by omega)] at h4
  rw [pmod_ok _ _ _ _ hlt] at h5
  have hd := Nat.dvd_of_mod_eq_zero h3
  refine prime_of_sq h1 fun p hp hpN => ?_
  have h7 := pock_dvd (e := 1) hq hp hpN (by rw [Nat.pow_one]; exact hd) h1 hd h4 h5
  rw [Nat.pow_one] at h7
  have h8 := Nat.le_of_dvd (by have := hp.1; omega) h7
  have : q * q ≤ p * p := Nat.mul_le_mul (by omega) (by omega)
  omega
theorem prime_c1 : Prime 1367711 := prime_trial 1169 (by decide +kernel)
theorem prime_c0 : Prime 541 := prime_trial 23 (by decide +kernel)
theorem prime_c2 : Prime 12192593745179 := pocklington [(1367711, 1, 2), (541, 1, 2)] (by
  intro t ht
  simp only [List.mem_cons, List.not_mem_nil, or_false] at ht
  rcases ht with rfl | rfl
  · exact ⟨prime_c1, Nat.zero_lt_one⟩
  · exact ⟨prime_c0, Nat.zero_lt_one⟩) (by decide +kernel)
theorem prime_c3 : Prime 512088937297519 := pock_one 2 prime_c2 (by decide +kernel)
theorem prime_c4 : Prime 1857858664515398933 := pock_one 2 prime_c3 (by decide +kernel)
theorem prime_c5 : Prime 22294303974184787197 := pock_one 2 prime_c4 (by decide +kernel)
theorem prime_c6 : Prime 19931107752921199754119 := pock_one 2 prime_c5 (by decide +kernel)
theorem prime_c7 : Prime 81162125843606155545104998607900118769099783 := pock_one 2 prime_c6 (by decide +kernel)
theorem prime_c8 : Prime 26935696298915610574513298451669528361624243820491956655650666425177 := pock_one 2 prime_c7 (by decide +kernel)
theorem prime_c9 : Prime 4638704574076146691498289350639807119782054683906549022985642612861209609656189848749536921852444848596916990932297 := pock_one 2 prime_c8 (by decide +kernel)
/-- The prime. -/
def qq : Nat := 402096035359507321594726366720466575392706800671181159425656785868777272553337714697862511267018014931937703598282857976535744623203249
theorem prime_qq : Prime qq := pock_one 2 prime_c9 (by decide +kernel)
end Go.Cu

/- The second group's laws: which points lie on a line, and points that are not of the group: the walks. Conditions: of the points, as each says. -/
namespace Go.Cw
open Go Go.Vm Go.RowKit Go.Proofs Go.Cu
attribute [local irreducible] W OpsW Det Fresh New Writes Vm.Pure Makes Changes ExternTo BuildTo ZeroTo FieldTo IndexTo BinTo SliceTo Vm.Enters
set_option linter.unusedVariables false
set_option linter.unusedSimpArgs false
variable {T : Nat → TypeId × Nat × Nat}

/-- What stands under the root at k. -/
def wcube (k : Nat) : Fq2 := small k 1 * small k 1 * small k 1 + small 4 4
/-- The first of f numbers from k on that has a point of the curve. -/
def wfrom : Nat → Nat → Pt
  | 0, _ => (0, 0)
  | f + 1, k => if (sqrt2 (wcube k)).2 = true ∧ (sqrt2 (wcube k)).1 ≠ 0 then (small k 1, (sqrt2 (wcube k)).1) else wfrom f (k + 1)
def wild (n : Nat) : Pt := wfrom 200 n
theorem wild_hit {n k : Nat} (hk : k < n + 200) (hw : wild n = wfrom (n + 200 - k) k) (h1 : (sqrt2 (wcube k)).2 = true) (h2 : (!decide ((sqrt2 (wcube k)).1 = 0)) = true) : (small k 1, (sqrt2 (wcube k)).1) = wild n := by
  rw [hw, show n + 200 - k = (n + 200 - (k + 1)) + 1 by omega, wfrom, if_pos ⟨h1, by simpa using h2⟩]
theorem wild_no {n k : Nat} (hk : k < n + 200) (hw : wild n = wfrom (n + 200 - k) k) (h1 : (sqrt2 (wcube k)).2 = false) : wild n = wfrom (n + 200 - (k + 1)) (k + 1) := by
  rw [hw, show n + 200 - k = (n + 200 - (k + 1)) + 1 by omega, wfrom, if_neg (by rw [h1]; simp)]
theorem wild_zero {n k : Nat} (hk : k < n + 200) (hw : wild n = wfrom (n + 200 - k) k) (h2 : (!decide ((sqrt2 (wcube k)).1 = 0)) = false) : wild n = wfrom (n + 200 - (k + 1)) (k + 1) := by
  rw [hw, show n + 200 - k = (n + 200 - (k + 1)) + 1 by omega, wfrom, if_neg (by
    have h2 : (sqrt2 (wcube k)).1 = 0 := by simpa using h2
    rw [h2]; simp)]
theorem wild_end {n k : Nat} (hk : ¬ k < n + 200) (hk2 : k ≤ n + 200) (hw : wild n = wfrom (n + 200 - k) k) : (0, 0) = wild n := by
  rw [hw, show n + 200 - k = 0 by omega, wfrom]
attribute [local irreducible] pmul times padd pneg psum wide gen sqrt2

theorem en85 : Vm.Enters Tryd.prog 85 := Vm.Enters.of fun _ _ => by kernel_rfl
theorem en90 : Vm.Enters Tryd.prog 90 := Vm.Enters.of fun _ _ => by kernel_rfl
theorem en91 : Vm.Enters Tryd.prog 91 := Vm.Enters.of fun _ _ => by kernel_rfl
set_option maxHeartbeats 2000000 in
set_option maxRecDepth 100000 in
theorem sidesA_ok {p q r : Pt} (h1 : p = (0, 0)) (h2 : q = pneg r) {w : World} (hG : Blocks (GH T) w)  : Vm.Pure Tryd.prog 46 #[encP p, encP q, encP r] w (.bool true) := by
  refine pure_of_W (n := 140) (args := [encP p, encP q, encP r]) Tryd.func46 rfl Tryd.ntmps46 (Nat.le_of_ble_eq_true rfl) hG ?_
  refine sStart ?_
  refine sSeq ?_
  refine W.region ?_
  refine OpsW.fresh (fr_boxW59 rfl) rfl fun b3 => ?_
  refine OpsW.fresh (fr_boxW59 rfl) rfl fun b4 => ?_
  refine OpsW.fresh (fr_boxW59 rfl) rfl fun b5 => ?_
  refine OpsW.det (det_assign rfl) rfl ?_
  refine sNext ?_
  refine W.keep (F' := [(5, _), (4, _), (3, _)]) ⟨rfl, rfl, rfl, trivial⟩ ?_
  refine sSeq ?_
  refine W.region ?_
  refine OpsW.det (det_zero bz59) rfl ?_
  refine OpsW.fresh (fr_alloc z59r) rfl fun b7 => ?_
  refine OpsW.storeW59 rfl rfl (Upd.here) ?_
  refine sNext ?_
  refine W.keep (F' := [(7, _), (5, _), (4, _), (3, _)]) ⟨rfl, rfl, rfl, rfl, trivial⟩ ?_
  refine sSeq ?_
  refine sSeq ?_
  refine W.region ?_
  refine OpsW.det (det_loadW59 rfl (List.Mem.tail _ (List.Mem.tail _ (List.Mem.tail _ (List.Mem.head _))))) rfl ?_
  refine OpsW.det (det_loadW59 rfl (List.Mem.head _)) rfl ?_
  refine OpsW.det (Det.to (det_eql59 rfl rfl) (congrArg Value.bool (yb h1))) rfl ?_
  refine OpsW.det (det_move rfl) rfl ?_
  refine OpsW.guard_no rfl rfl rfl ?_
  refine OpsW.guard_no rfl rfl rfl ?_
  refine OpsW.guard_no rfl rfl rfl ?_
  refine OpsW.det (det_pick rfl rfl) rfl ?_
  refine OpsW.det (det_move rfl) rfl ?_
  refine OpsW.guard_no rfl rfl rfl ?_
  refine OpsW.guard_no rfl rfl rfl ?_
  refine OpsW.guard_no rfl rfl rfl ?_
  refine OpsW.det (det_pick rfl rfl) rfl ?_
  refine sNext ?_
  refine W.keep (F' := [(22, _), (7, _), (5, _), (4, _), (3, _)]) ⟨rfl, rfl, rfl, rfl, rfl, trivial⟩ ?_
  refine W.cond_true rfl ?_
  refine sSeq ?_
  refine W.draw mixed 32 [[], [], [0, 1], [0, 1, 2], [0, 1, 2, 3], [0, 1, 2, 3], [0, 1, 2, 3, 5], [0, 1, 2, 3, 4, 5, 6], [0, 1, 2, 3, 4, 5, 6, 7], [0, 1, 2, 3, 4, 5, 6, 7, 8], [0, 1, 2, 3, 4, 5, 6, 7, 8, 9], [0, 1, 2, 3, 4, 5, 6, 7, 8, 9], [0, 1, 2, 3, 4, 5, 6, 7, 8, 9, 10, 11], [0, 1, 2, 3, 4, 5, 6, 7, 8, 9, 10, 11, 12], [0, 1, 2, 3, 4, 5, 6, 7, 8, 9, 10, 11, 12, 13], [0, 1, 2, 3, 4, 5, 6, 7, 8, 9, 10, 11, 12, 13], [0, 1, 2, 3, 4, 5, 6, 7, 8, 9, 10, 11, 12, 13, 15], [0, 1, 2, 3, 4, 5, 6, 7, 8, 9, 10, 11, 12, 13, 14, 15, 16], [0, 1, 2, 3, 4, 5, 6, 7, 8, 9, 10, 11, 12, 13, 14, 15, 16, 17], [0, 1, 2, 3, 4, 5, 6, 7, 8, 9, 10, 11, 12, 13, 14, 15, 16, 17, 18], [0, 1, 2, 3, 4, 5, 6, 7, 8, 9, 10, 11, 12, 13, 14, 15, 16, 17, 18, 19], [0, 1, 2, 3, 4, 5, 6, 7, 8, 9, 10, 11, 12, 13, 14, 15, 16, 17, 18, 19, 20], [0, 1, 2, 3, 4, 5, 6, 7, 8, 9, 10, 11, 12, 13, 14, 15, 16, 17, 18, 19, 20], [0, 1, 2, 3, 4, 5, 6, 7, 8, 9, 10, 11, 12, 13, 14, 15, 16, 17, 18, 19, 20, 21, 22], [0, 1, 2, 3, 4, 5, 6, 7, 8, 9, 10, 11, 12, 13, 14, 15, 16, 17, 18, 19, 20, 21, 22, 23], [0, 1, 2, 3, 4, 5, 6, 7, 8, 9, 10, 11, 12, 13, 14, 15, 16, 17, 18, 19, 20, 21, 22, 23, 24], [0, 1, 2, 3, 4, 5, 6, 7, 8, 9, 10, 11, 12, 13, 14, 15, 16, 17, 18, 19, 20, 21, 22, 23, 24], [0, 1, 2, 3, 4, 5, 6, 7, 8, 9, 10, 11, 12, 13, 14, 15, 16, 17, 18, 19, 20, 21, 22, 23, 24, 26], [0, 1, 2, 3, 4, 5, 6, 7, 8, 9, 10, 11, 12, 13, 14, 15, 16, 17, 18, 19, 20, 21, 22, 23, 24, 25, 26, 27], [0, 1, 2, 3, 4, 5, 6, 7, 8, 9, 10, 11, 12, 13, 14, 15, 16, 17, 18, 19, 20, 21, 22, 23, 24, 25, 26, 27, 28], [0, 1, 2, 3, 4, 5, 6, 7, 8, 9, 10, 11, 12, 13, 14, 15, 16, 17, 18, 19, 20, 21, 22, 23, 24, 25, 26, 27, 28, 29], [0, 1, 2, 3, 4, 5, 6, 7, 8, 9, 10, 11, 12, 13, 14, 15, 16, 17, 18, 19, 20, 21, 22, 23, 24, 25, 26, 27, 28, 29, 30]] (cl_lt (by decide)) ?_
  refine HeadR.start (cl_lt (by decide)) ?_
  refine HeadR.det rfl (fun β hβ => (det_loadW59 rfl (List.Mem.tail _ (List.Mem.tail _ (List.Mem.tail _ (List.Mem.head _)))))) ?_
  refine HeadR.det rfl (fun β hβ => (det_loadW59 rfl (List.Mem.head _))) ?_
  refine HeadR.det rfl (fun β hβ => (Det.to (det_eql59 rfl rfl) (congrArg Value.bool (yb h1)))) ?_
  refine HeadR.det rfl (fun β hβ => (det_move rfl)) ?_
  refine HeadR.yes rfl rfl (fun _ _ => rfl) (fun β hβ => (det_loadW59 rfl (List.Mem.tail _ (List.Mem.tail _ (List.Mem.head _))))) ?_
  refine HeadR.yes rfl rfl (fun _ _ => rfl) (fun β hβ => (det_loadW59 rfl (List.Mem.tail _ (List.Mem.head _)))) ?_
  refine HeadR.yes rfl rfl (fun _ _ => rfl) (fun β hβ => (det_call en41 rfl (fun w hb ho => PNeg_ok ho.blocks))) ?_
  refine HeadR.yes rfl rfl (fun _ _ => rfl) (fun β hβ => (Det.to (det_eql59 rfl rfl) (congrArg Value.bool (yb h2)))) ?_
  refine HeadR.det rfl (fun β hβ => (det_pick rfl rfl)) ?_
  refine HeadR.det rfl (fun β hβ => (det_move rfl)) ?_
  refine HeadR.no rfl rfl (fun _ _ => rfl) ?_
  refine HeadR.no rfl rfl (fun _ _ => rfl) ?_
  refine HeadR.no rfl rfl (fun _ _ => rfl) ?_
  refine HeadR.no rfl rfl (fun _ _ => rfl) ?_
  refine HeadR.un rfl rfl (fun _ _ => rfl) ?_
  refine HeadR.un rfl rfl (fun _ _ => rfl) ?_
  refine HeadR.un rfl rfl (fun _ _ => rfl) ?_
  refine HeadR.un rfl rfl (fun _ _ => rfl) ?_
  refine HeadR.no rfl rfl (fun _ _ => rfl) ?_
  refine HeadR.det rfl (fun β hβ => (det_pick rfl rfl)) ?_
  refine HeadR.det rfl (fun β hβ => (det_move rfl)) ?_
  refine HeadR.no rfl rfl (fun _ _ => rfl) ?_
  refine HeadR.no rfl rfl (fun _ _ => rfl) ?_
  refine HeadR.no rfl rfl (fun _ _ => rfl) ?_
  refine HeadR.no rfl rfl (fun _ _ => rfl) ?_
  refine HeadR.un rfl rfl (fun _ _ => rfl) ?_
  refine HeadR.un rfl rfl (fun _ _ => rfl) ?_
  refine HeadR.un rfl rfl (fun _ _ => rfl) ?_
  refine HeadR.un rfl rfl (fun _ _ => rfl) ?_
  refine HeadR.no rfl rfl (fun _ _ => rfl) ?_
  refine HeadR.det rfl (fun β hβ => (det_pick rfl rfl)) ?_
  refine HeadR.det rfl (fun β hβ => (det_assign rfl)) ?_
  refine HeadR.done ⟨by kernel_rfl, fun β hβ => ?_⟩
  refine OpsW.norm (F' := ((23, _) :: (24, _) :: (25, _) :: (26, _) :: (27, _) :: (28, _) :: (29, _) :: (30, _) :: (31, _) :: (32, _) :: (33, _) :: (34, _) :: (35, _) :: (36, _) :: (37, _) :: (38, _) :: (39, _) :: (40, _) :: (41, _) :: (42, _) :: (43, _) :: (44, _) :: (45, _) :: (46, _) :: (47, _) :: (48, _) :: (49, _) :: (50, _) :: (51, _) :: (52, _) :: (53, _) :: (6, _) :: (22, _) :: (7, _) :: (5, _) :: (4, _) :: (3, _) :: [])) (H' := [(_, _), (_, _), (_, _), (_, _)]) rfl rfl ?_
  refine sNext ?_
  refine W.keep (F' := [(6, _)]) ⟨rfl, trivial⟩ ?_
  refine sRet ?_
  exact done1 Tryd.results46 (rv_tmp rfl) rfl
set_option maxHeartbeats 2000000 in
set_option maxRecDepth 100000 in
theorem sidesB_ok {p q r : Pt} (h0 : p ≠ (0, 0)) (h1 : q = (0, 0)) (h2 : p = pneg r) {w : World} (hG : Blocks (GH T) w)  : Vm.Pure Tryd.prog 46 #[encP p, encP q, encP r] w (.bool true) := by
  refine pure_of_W (n := 140) (args := [encP p, encP q, encP r]) Tryd.func46 rfl Tryd.ntmps46 (Nat.le_of_ble_eq_true rfl) hG ?_
  refine sStart ?_
  refine sSeq ?_
  refine W.region ?_
  refine OpsW.fresh (fr_boxW59 rfl) rfl fun b3 => ?_
  refine OpsW.fresh (fr_boxW59 rfl) rfl fun b4 => ?_
  refine OpsW.fresh (fr_boxW59 rfl) rfl fun b5 => ?_
  refine OpsW.det (det_assign rfl) rfl ?_
  refine sNext ?_
  refine W.keep (F' := [(5, _), (4, _), (3, _)]) ⟨rfl, rfl, rfl, trivial⟩ ?_
  refine sSeq ?_
  refine W.region ?_
  refine OpsW.det (det_zero bz59) rfl ?_
  refine OpsW.fresh (fr_alloc z59r) rfl fun b7 => ?_
  refine OpsW.storeW59 rfl rfl (Upd.here) ?_
  refine sNext ?_
  refine W.keep (F' := [(7, _), (5, _), (4, _), (3, _)]) ⟨rfl, rfl, rfl, rfl, trivial⟩ ?_
  refine sSeq ?_
  refine sSeq ?_
  refine W.region ?_
  refine OpsW.det (det_loadW59 rfl (List.Mem.tail _ (List.Mem.tail _ (List.Mem.tail _ (List.Mem.head _))))) rfl ?_
  refine OpsW.det (det_loadW59 rfl (List.Mem.head _)) rfl ?_
  refine OpsW.det (Det.to (det_eql59 rfl rfl) (congrArg Value.bool (nf h0))) rfl ?_
  refine OpsW.det (det_move rfl) rfl ?_
  refine OpsW.guard_yes rfl rfl ?_
  refine OpsW.det (det_loadW59 rfl (List.Mem.tail _ (List.Mem.tail _ (List.Mem.head _)))) rfl ?_
  refine OpsW.guard_yes rfl rfl ?_
  refine OpsW.det (det_loadW59 rfl (List.Mem.head _)) rfl ?_
  refine OpsW.guard_yes rfl rfl ?_
  refine OpsW.det (Det.to (det_eql59 rfl rfl) (congrArg Value.bool (yb h1))) rfl ?_
  refine OpsW.det (det_pick rfl rfl) rfl ?_
  refine OpsW.det (det_move rfl) rfl ?_
  refine OpsW.guard_no rfl rfl rfl ?_
  refine OpsW.guard_no rfl rfl rfl ?_
  refine OpsW.guard_no rfl rfl rfl ?_
  refine OpsW.det (det_pick rfl rfl) rfl ?_
  refine sNext ?_
  refine W.keep (F' := [(22, _), (7, _), (5, _), (4, _), (3, _)]) ⟨rfl, rfl, rfl, rfl, rfl, trivial⟩ ?_
  refine W.cond_true rfl ?_
  refine sSeq ?_
  refine W.draw mixed 32 [[], [], [0, 1], [0, 1, 2], [0, 1, 2, 3], [0, 1, 2, 3], [0, 1, 2, 3, 5], [0, 1, 2, 3, 4, 5, 6], [0, 1, 2, 3, 4, 5, 6, 7], [0, 1, 2, 3, 4, 5, 6, 7, 8], [0, 1, 2, 3, 4, 5, 6, 7, 8, 9], [0, 1, 2, 3, 4, 5, 6, 7, 8, 9], [0, 1, 2, 3, 4, 5, 6, 7, 8, 9, 10, 11], [0, 1, 2, 3, 4, 5, 6, 7, 8, 9, 10, 11, 12], [0, 1, 2, 3, 4, 5, 6, 7, 8, 9, 10, 11, 12, 13], [0, 1, 2, 3, 4, 5, 6, 7, 8, 9, 10, 11, 12, 13], [0, 1, 2, 3, 4, 5, 6, 7, 8, 9, 10, 11, 12, 13, 15], [0, 1, 2, 3, 4, 5, 6, 7, 8, 9, 10, 11, 12, 13, 14, 15, 16], [0, 1, 2, 3, 4, 5, 6, 7, 8, 9, 10, 11, 12, 13, 14, 15, 16, 17], [0, 1, 2, 3, 4, 5, 6, 7, 8, 9, 10, 11, 12, 13, 14, 15, 16, 17, 18], [0, 1, 2, 3, 4, 5, 6, 7, 8, 9, 10, 11, 12, 13, 14, 15, 16, 17, 18, 19], [0, 1, 2, 3, 4, 5, 6, 7, 8, 9, 10, 11, 12, 13, 14, 15, 16, 17, 18, 19, 20], [0, 1, 2, 3, 4, 5, 6, 7, 8, 9, 10, 11, 12, 13, 14, 15, 16, 17, 18, 19, 20], [0, 1, 2, 3, 4, 5, 6, 7, 8, 9, 10, 11, 12, 13, 14, 15, 16, 17, 18, 19, 20, 21, 22], [0, 1, 2, 3, 4, 5, 6, 7, 8, 9, 10, 11, 12, 13, 14, 15, 16, 17, 18, 19, 20, 21, 22, 23], [0, 1, 2, 3, 4, 5, 6, 7, 8, 9, 10, 11, 12, 13, 14, 15, 16, 17, 18, 19, 20, 21, 22, 23, 24], [0, 1, 2, 3, 4, 5, 6, 7, 8, 9, 10, 11, 12, 13, 14, 15, 16, 17, 18, 19, 20, 21, 22, 23, 24], [0, 1, 2, 3, 4, 5, 6, 7, 8, 9, 10, 11, 12, 13, 14, 15, 16, 17, 18, 19, 20, 21, 22, 23, 24, 26], [0, 1, 2, 3, 4, 5, 6, 7, 8, 9, 10, 11, 12, 13, 14, 15, 16, 17, 18, 19, 20, 21, 22, 23, 24, 25, 26, 27], [0, 1, 2, 3, 4, 5, 6, 7, 8, 9, 10, 11, 12, 13, 14, 15, 16, 17, 18, 19, 20, 21, 22, 23, 24, 25, 26, 27, 28], [0, 1, 2, 3, 4, 5, 6, 7, 8, 9, 10, 11, 12, 13, 14, 15, 16, 17, 18, 19, 20, 21, 22, 23, 24, 25, 26, 27, 28, 29], [0, 1, 2, 3, 4, 5, 6, 7, 8, 9, 10, 11, 12, 13, 14, 15, 16, 17, 18, 19, 20, 21, 22, 23, 24, 25, 26, 27, 28, 29, 30]] (cl_lt (by decide)) ?_
  refine HeadR.start (cl_lt (by decide)) ?_
  refine HeadR.det rfl (fun β hβ => (det_loadW59 rfl (List.Mem.tail _ (List.Mem.tail _ (List.Mem.tail _ (List.Mem.head _)))))) ?_
  refine HeadR.det rfl (fun β hβ => (det_loadW59 rfl (List.Mem.head _))) ?_
  refine HeadR.det rfl (fun β hβ => (Det.to (det_eql59 rfl rfl) (congrArg Value.bool (nf h0)))) ?_
  refine HeadR.det rfl (fun β hβ => (det_move rfl)) ?_
  refine HeadR.no rfl rfl (fun _ _ => rfl) ?_
  refine HeadR.no rfl rfl (fun _ _ => rfl) ?_
  refine HeadR.no rfl rfl (fun _ _ => rfl) ?_
  refine HeadR.no rfl rfl (fun _ _ => rfl) ?_
  refine HeadR.det rfl (fun β hβ => (det_pick rfl rfl)) ?_
  refine HeadR.det rfl (fun β hβ => (det_move rfl)) ?_
  refine HeadR.yes rfl rfl (fun _ _ => rfl) (fun β hβ => (det_loadW59 rfl (List.Mem.tail _ (List.Mem.tail _ (List.Mem.head _))))) ?_
  refine HeadR.yes rfl rfl (fun _ _ => rfl) (fun β hβ => (det_loadW59 rfl (List.Mem.head _))) ?_
  refine HeadR.yes rfl rfl (fun _ _ => rfl) (fun β hβ => (Det.to (det_eql59 rfl rfl) (congrArg Value.bool (yb h1)))) ?_
  refine HeadR.yes rfl rfl (fun _ _ => rfl) (fun β hβ => (det_move rfl)) ?_
  refine HeadR.yes rfl rfl (fun _ _ => rfl) (fun β hβ => (det_loadW59 rfl (List.Mem.tail _ (List.Mem.tail _ (List.Mem.tail _ (List.Mem.head _)))))) ?_
  refine HeadR.yes rfl rfl (fun _ _ => rfl) (fun β hβ => (det_loadW59 rfl (List.Mem.tail _ (List.Mem.head _)))) ?_
  refine HeadR.yes rfl rfl (fun _ _ => rfl) (fun β hβ => (det_call en41 rfl (fun w hb ho => PNeg_ok ho.blocks))) ?_
  refine HeadR.yes rfl rfl (fun _ _ => rfl) (fun β hβ => (Det.to (det_eql59 rfl rfl) (congrArg Value.bool (yb h2)))) ?_
  refine HeadR.yes rfl rfl (fun _ _ => rfl) (fun β hβ => (det_pick rfl rfl)) ?_
  refine HeadR.det rfl (fun β hβ => (det_pick rfl rfl)) ?_
  refine HeadR.det rfl (fun β hβ => (det_move rfl)) ?_
  refine HeadR.no rfl rfl (fun _ _ => rfl) ?_
  refine HeadR.no rfl rfl (fun _ _ => rfl) ?_
  refine HeadR.no rfl rfl (fun _ _ => rfl) ?_
  refine HeadR.no rfl rfl (fun _ _ => rfl) ?_
  refine HeadR.un rfl rfl (fun _ _ => rfl) ?_
  refine HeadR.un rfl rfl (fun _ _ => rfl) ?_
  refine HeadR.un rfl rfl (fun _ _ => rfl) ?_
  refine HeadR.un rfl rfl (fun _ _ => rfl) ?_
  refine HeadR.no rfl rfl (fun _ _ => rfl) ?_
  refine HeadR.det rfl (fun β hβ => (det_pick rfl rfl)) ?_
  refine HeadR.det rfl (fun β hβ => (det_assign rfl)) ?_
  refine HeadR.done ⟨by kernel_rfl, fun β hβ => ?_⟩
  refine OpsW.norm (F' := ((23, _) :: (24, _) :: (25, _) :: (26, _) :: (27, _) :: (28, _) :: (29, _) :: (30, _) :: (31, _) :: (32, _) :: (33, _) :: (34, _) :: (35, _) :: (36, _) :: (37, _) :: (38, _) :: (39, _) :: (40, _) :: (41, _) :: (42, _) :: (43, _) :: (44, _) :: (45, _) :: (46, _) :: (47, _) :: (48, _) :: (49, _) :: (50, _) :: (51, _) :: (52, _) :: (53, _) :: (6, _) :: (22, _) :: (7, _) :: (5, _) :: (4, _) :: (3, _) :: [])) (H' := [(_, _), (_, _), (_, _), (_, _)]) rfl rfl ?_
  refine sNext ?_
  refine W.keep (F' := [(6, _)]) ⟨rfl, trivial⟩ ?_
  refine sRet ?_
  exact done1 Tryd.results46 (rv_tmp rfl) rfl
set_option maxHeartbeats 2000000 in
set_option maxRecDepth 100000 in
theorem sidesC_ok {p q r : Pt} (h0 : p ≠ (0, 0)) (h0' : q ≠ (0, 0)) (h1 : r = (0, 0)) (h2 : p = pneg q) {w : World} (hG : Blocks (GH T) w)  : Vm.Pure Tryd.prog 46 #[encP p, encP q, encP r] w (.bool true) := by
  refine pure_of_W (n := 140) (args := [encP p, encP q, encP r]) Tryd.func46 rfl Tryd.ntmps46 (Nat.le_of_ble_eq_true rfl) hG ?_
  refine sStart ?_
  refine sSeq ?_
  refine W.region ?_
  refine OpsW.fresh (fr_boxW59 rfl) rfl fun b3 => ?_
  refine OpsW.fresh (fr_boxW59 rfl) rfl fun b4 => ?_
  refine OpsW.fresh (fr_boxW59 rfl) rfl fun b5 => ?_
  refine OpsW.det (det_assign rfl) rfl ?_
  refine sNext ?_
  refine W.keep (F' := [(5, _), (4, _), (3, _)]) ⟨rfl, rfl, rfl, trivial⟩ ?_
  refine sSeq ?_
  refine W.region ?_
  refine OpsW.det (det_zero bz59) rfl ?_
  refine OpsW.fresh (fr_alloc z59r) rfl fun b7 => ?_
  refine OpsW.storeW59 rfl rfl (Upd.here) ?_
  refine sNext ?_
  refine W.keep (F' := [(7, _), (5, _), (4, _), (3, _)]) ⟨rfl, rfl, rfl, rfl, trivial⟩ ?_
  refine sSeq ?_
  refine sSeq ?_
  refine W.region ?_
  refine OpsW.det (det_loadW59 rfl (List.Mem.tail _ (List.Mem.tail _ (List.Mem.tail _ (List.Mem.head _))))) rfl ?_
  refine OpsW.det (det_loadW59 rfl (List.Mem.head _)) rfl ?_
  refine OpsW.det (Det.to (det_eql59 rfl rfl) (congrArg Value.bool (nf h0))) rfl ?_
  refine OpsW.det (det_move rfl) rfl ?_
  refine OpsW.guard_yes rfl rfl ?_
  refine OpsW.det (det_loadW59 rfl (List.Mem.tail _ (List.Mem.tail _ (List.Mem.head _)))) rfl ?_
  refine OpsW.guard_yes rfl rfl ?_
  refine OpsW.det (det_loadW59 rfl (List.Mem.head _)) rfl ?_
  refine OpsW.guard_yes rfl rfl ?_
  refine OpsW.det (Det.to (det_eql59 rfl rfl) (congrArg Value.bool (nf h0'))) rfl ?_
  refine OpsW.det (det_pick rfl rfl) rfl ?_
  refine OpsW.det (det_move rfl) rfl ?_
  refine OpsW.guard_yes rfl rfl ?_
  refine OpsW.det (det_loadW59 rfl (List.Mem.tail _ (List.Mem.head _))) rfl ?_
  refine OpsW.guard_yes rfl rfl ?_
  refine OpsW.det (det_loadW59 rfl (List.Mem.head _)) rfl ?_
  refine OpsW.guard_yes rfl rfl ?_
  refine OpsW.det (Det.to (det_eql59 rfl rfl) (congrArg Value.bool (yb h1))) rfl ?_
  refine OpsW.det (det_pick rfl rfl) rfl ?_
  refine sNext ?_
  refine W.keep (F' := [(22, _), (7, _), (5, _), (4, _), (3, _)]) ⟨rfl, rfl, rfl, rfl, rfl, trivial⟩ ?_
  refine W.cond_true rfl ?_
  refine sSeq ?_
  refine W.draw mixed 32 [[], [], [0, 1], [0, 1, 2], [0, 1, 2, 3], [0, 1, 2, 3], [0, 1, 2, 3, 5], [0, 1, 2, 3, 4, 5, 6], [0, 1, 2, 3, 4, 5, 6, 7], [0, 1, 2, 3, 4, 5, 6, 7, 8], [0, 1, 2, 3, 4, 5, 6, 7, 8, 9], [0, 1, 2, 3, 4, 5, 6, 7, 8, 9], [0, 1, 2, 3, 4, 5, 6, 7, 8, 9, 10, 11], [0, 1, 2, 3, 4, 5, 6, 7, 8, 9, 10, 11, 12], [0, 1, 2, 3, 4, 5, 6, 7, 8, 9, 10, 11, 12, 13], [0, 1, 2, 3, 4, 5, 6, 7, 8, 9, 10, 11, 12, 13], [0, 1, 2, 3, 4, 5, 6, 7, 8, 9, 10, 11, 12, 13, 15], [0, 1, 2, 3, 4, 5, 6, 7, 8, 9, 10, 11, 12, 13, 14, 15, 16], [0, 1, 2, 3, 4, 5, 6, 7, 8, 9, 10, 11, 12, 13, 14, 15, 16, 17], [0, 1, 2, 3, 4, 5, 6, 7, 8, 9, 10, 11, 12, 13, 14, 15, 16, 17, 18], [0, 1, 2, 3, 4, 5, 6, 7, 8, 9, 10, 11, 12, 13, 14, 15, 16, 17, 18, 19], [0, 1, 2, 3, 4, 5, 6, 7, 8, 9, 10, 11, 12, 13, 14, 15, 16, 17, 18, 19, 20], [0, 1, 2, 3, 4, 5, 6, 7, 8, 9, 10, 11, 12, 13, 14, 15, 16, 17, 18, 19, 20], [0, 1, 2, 3, 4, 5, 6, 7, 8, 9, 10, 11, 12, 13, 14, 15, 16, 17, 18, 19, 20, 21, 22], [0, 1, 2, 3, 4, 5, 6, 7, 8, 9, 10, 11, 12, 13, 14, 15, 16, 17, 18, 19, 20, 21, 22, 23], [0, 1, 2, 3, 4, 5, 6, 7, 8, 9, 10, 11, 12, 13, 14, 15, 16, 17, 18, 19, 20, 21, 22, 23, 24], [0, 1, 2, 3, 4, 5, 6, 7, 8, 9, 10, 11, 12, 13, 14, 15, 16, 17, 18, 19, 20, 21, 22, 23, 24], [0, 1, 2, 3, 4, 5, 6, 7, 8, 9, 10, 11, 12, 13, 14, 15, 16, 17, 18, 19, 20, 21, 22, 23, 24, 26], [0, 1, 2, 3, 4, 5, 6, 7, 8, 9, 10, 11, 12, 13, 14, 15, 16, 17, 18, 19, 20, 21, 22, 23, 24, 25, 26, 27], [0, 1, 2, 3, 4, 5, 6, 7, 8, 9, 10, 11, 12, 13, 14, 15, 16, 17, 18, 19, 20, 21, 22, 23, 24, 25, 26, 27, 28], [0, 1, 2, 3, 4, 5, 6, 7, 8, 9, 10, 11, 12, 13, 14, 15, 16, 17, 18, 19, 20, 21, 22, 23, 24, 25, 26, 27, 28, 29], [0, 1, 2, 3, 4, 5, 6, 7, 8, 9, 10, 11, 12, 13, 14, 15, 16, 17, 18, 19, 20, 21, 22, 23, 24, 25, 26, 27, 28, 29, 30]] (cl_lt (by decide)) ?_
  refine HeadR.start (cl_lt (by decide)) ?_
  refine HeadR.det rfl (fun β hβ => (det_loadW59 rfl (List.Mem.tail _ (List.Mem.tail _ (List.Mem.tail _ (List.Mem.head _)))))) ?_
  refine HeadR.det rfl (fun β hβ => (det_loadW59 rfl (List.Mem.head _))) ?_
  refine HeadR.det rfl (fun β hβ => (Det.to (det_eql59 rfl rfl) (congrArg Value.bool (nf h0)))) ?_
  refine HeadR.det rfl (fun β hβ => (det_move rfl)) ?_
  refine HeadR.no rfl rfl (fun _ _ => rfl) ?_
  refine HeadR.no rfl rfl (fun _ _ => rfl) ?_
  refine HeadR.no rfl rfl (fun _ _ => rfl) ?_
  refine HeadR.no rfl rfl (fun _ _ => rfl) ?_
  refine HeadR.det rfl (fun β hβ => (det_pick rfl rfl)) ?_
  refine HeadR.det rfl (fun β hβ => (det_move rfl)) ?_
  refine HeadR.yes rfl rfl (fun _ _ => rfl) (fun β hβ => (det_loadW59 rfl (List.Mem.tail _ (List.Mem.tail _ (List.Mem.head _))))) ?_
  refine HeadR.yes rfl rfl (fun _ _ => rfl) (fun β hβ => (det_loadW59 rfl (List.Mem.head _))) ?_
  refine HeadR.yes rfl rfl (fun _ _ => rfl) (fun β hβ => (Det.to (det_eql59 rfl rfl) (congrArg Value.bool (nf h0')))) ?_
  refine HeadR.yes rfl rfl (fun _ _ => rfl) (fun β hβ => (det_move rfl)) ?_
  refine HeadR.no rfl rfl (fun _ _ => rfl) ?_
  refine HeadR.no rfl rfl (fun _ _ => rfl) ?_
  refine HeadR.no rfl rfl (fun _ _ => rfl) ?_
  refine HeadR.no rfl rfl (fun _ _ => rfl) ?_
  refine HeadR.yes rfl rfl (fun _ _ => rfl) (fun β hβ => (det_pick rfl rfl)) ?_
  refine HeadR.det rfl (fun β hβ => (det_pick rfl rfl)) ?_
  refine HeadR.det rfl (fun β hβ => (det_move rfl)) ?_
  refine HeadR.yes rfl rfl (fun _ _ => rfl) (fun β hβ => (det_loadW59 rfl (List.Mem.tail _ (List.Mem.head _)))) ?_
  refine HeadR.yes rfl rfl (fun _ _ => rfl) (fun β hβ => (det_loadW59 rfl (List.Mem.head _))) ?_
  refine HeadR.yes rfl rfl (fun _ _ => rfl) (fun β hβ => (Det.to (det_eql59 rfl rfl) (congrArg Value.bool (yb h1)))) ?_
  refine HeadR.yes rfl rfl (fun _ _ => rfl) (fun β hβ => (det_move rfl)) ?_
  refine HeadR.yes rfl rfl (fun _ _ => rfl) (fun β hβ => (det_loadW59 rfl (List.Mem.tail _ (List.Mem.tail _ (List.Mem.tail _ (List.Mem.head _)))))) ?_
  refine HeadR.yes rfl rfl (fun _ _ => rfl) (fun β hβ => (det_loadW59 rfl (List.Mem.tail _ (List.Mem.tail _ (List.Mem.head _))))) ?_
  refine HeadR.yes rfl rfl (fun _ _ => rfl) (fun β hβ => (det_call en41 rfl (fun w hb ho => PNeg_ok ho.blocks))) ?_
  refine HeadR.yes rfl rfl (fun _ _ => rfl) (fun β hβ => (Det.to (det_eql59 rfl rfl) (congrArg Value.bool (yb h2)))) ?_
  refine HeadR.yes rfl rfl (fun _ _ => rfl) (fun β hβ => (det_pick rfl rfl)) ?_
  refine HeadR.det rfl (fun β hβ => (det_pick rfl rfl)) ?_
  refine HeadR.det rfl (fun β hβ => (det_assign rfl)) ?_
  refine HeadR.done ⟨by kernel_rfl, fun β hβ => ?_⟩
  refine OpsW.norm (F' := ((23, _) :: (24, _) :: (25, _) :: (26, _) :: (27, _) :: (28, _) :: (29, _) :: (30, _) :: (31, _) :: (32, _) :: (33, _) :: (34, _) :: (35, _) :: (36, _) :: (37, _) :: (38, _) :: (39, _) :: (40, _) :: (41, _) :: (42, _) :: (43, _) :: (44, _) :: (45, _) :: (46, _) :: (47, _) :: (48, _) :: (49, _) :: (50, _) :: (51, _) :: (52, _) :: (53, _) :: (6, _) :: (22, _) :: (7, _) :: (5, _) :: (4, _) :: (3, _) :: [])) (H' := [(_, _), (_, _), (_, _), (_, _)]) rfl rfl ?_
  refine sNext ?_
  refine W.keep (F' := [(6, _)]) ⟨rfl, trivial⟩ ?_
  refine sRet ?_
  exact done1 Tryd.results46 (rv_tmp rfl) rfl
set_option maxHeartbeats 2000000 in
set_option maxRecDepth 100000 in
theorem sidesD_ok {p q r : Pt} (h0 : p ≠ (0, 0)) (h0' : q ≠ (0, 0)) (h0'' : r ≠ (0, 0)) (h1 : p = q) (h2 : r.1 ≠ p.1) (h3 : (p.2 + p.2) * (r.2 - p.2) = (p.1 * p.1 + p.1 * p.1 + p.1 * p.1) * (r.1 - p.1)) {w : World} (hG : Blocks (GH T) w)  : Vm.Pure Tryd.prog 46 #[encP p, encP q, encP r] w (.bool true) := by
  refine pure_of_W (n := 140) (args := [encP p, encP q, encP r]) Tryd.func46 rfl Tryd.ntmps46 (Nat.le_of_ble_eq_true rfl) hG ?_
  refine sStart ?_
  refine sSeq ?_
  refine W.region ?_
  refine OpsW.fresh (fr_boxW59 rfl) rfl fun b3 => ?_
  refine OpsW.fresh (fr_boxW59 rfl) rfl fun b4 => ?_
  refine OpsW.fresh (fr_boxW59 rfl) rfl fun b5 => ?_
  refine OpsW.det (det_assign rfl) rfl ?_
  refine sNext ?_
  refine W.keep (F' := [(5, _), (4, _), (3, _)]) ⟨rfl, rfl, rfl, trivial⟩ ?_
  refine sSeq ?_
  refine W.region ?_
  refine OpsW.det (det_zero bz59) rfl ?_
  refine OpsW.fresh (fr_alloc z59r) rfl fun b7 => ?_
  refine OpsW.storeW59 rfl rfl (Upd.here) ?_
  refine sNext ?_
  refine W.keep (F' := [(7, _), (5, _), (4, _), (3, _)]) ⟨rfl, rfl, rfl, rfl, trivial⟩ ?_
  refine sSeq ?_
  refine sSeq ?_
  refine W.region ?_
  refine OpsW.det (det_loadW59 rfl (List.Mem.tail _ (List.Mem.tail _ (List.Mem.tail _ (List.Mem.head _))))) rfl ?_
  refine OpsW.det (det_loadW59 rfl (List.Mem.head _)) rfl ?_
  refine OpsW.det (Det.to (det_eql59 rfl rfl) (congrArg Value.bool (nf h0))) rfl ?_
  refine OpsW.det (det_move rfl) rfl ?_
  refine OpsW.guard_yes rfl rfl ?_
  refine OpsW.det (det_loadW59 rfl (List.Mem.tail _ (List.Mem.tail _ (List.Mem.head _)))) rfl ?_
  refine OpsW.guard_yes rfl rfl ?_
  refine OpsW.det (det_loadW59 rfl (List.Mem.head _)) rfl ?_
  refine OpsW.guard_yes rfl rfl ?_
  refine OpsW.det (Det.to (det_eql59 rfl rfl) (congrArg Value.bool (nf h0'))) rfl ?_
  refine OpsW.det (det_pick rfl rfl) rfl ?_
  refine OpsW.det (det_move rfl) rfl ?_
  refine OpsW.guard_yes rfl rfl ?_
  refine OpsW.det (det_loadW59 rfl (List.Mem.tail _ (List.Mem.head _))) rfl ?_
  refine OpsW.guard_yes rfl rfl ?_
  refine OpsW.det (det_loadW59 rfl (List.Mem.head _)) rfl ?_
  refine OpsW.guard_yes rfl rfl ?_
  refine OpsW.det (Det.to (det_eql59 rfl rfl) (congrArg Value.bool (nf h0''))) rfl ?_
  refine OpsW.det (det_pick rfl rfl) rfl ?_
  refine sNext ?_
  refine W.keep (F' := [(22, _), (7, _), (5, _), (4, _), (3, _)]) ⟨rfl, rfl, rfl, rfl, rfl, trivial⟩ ?_
  refine W.cond_false rfl ?_
  refine sSkip ?_
  refine sSeq ?_
  refine sSeq ?_
  refine W.region ?_
  refine OpsW.det (det_loadW59 rfl (List.Mem.tail _ (List.Mem.tail _ (List.Mem.tail _ (List.Mem.head _))))) rfl ?_
  refine OpsW.det (det_loadW59 rfl (List.Mem.tail _ (List.Mem.tail _ (List.Mem.head _)))) rfl ?_
  refine OpsW.det (Det.to (det_eql59 rfl rfl) (congrArg Value.bool (yb h1))) rfl ?_
  refine sNext ?_
  refine W.keep (F' := [(56, _), (5, _), (4, _), (3, _)]) ⟨rfl, rfl, rfl, rfl, trivial⟩ ?_
  refine W.cond_true rfl ?_
  refine sSeq ?_
  refine W.region ?_
  refine OpsW.det (det_fieldAddr fl59_0 rfl) rfl ?_
  refine OpsW.det (det_loadA ty57 rfl (List.Mem.tail _ (List.Mem.tail _ (List.Mem.tail _ (List.Mem.head _)))) rfl) rfl ?_
  refine OpsW.det (det_call en80 rfl (fun w hb ho => Square_ok ho.blocks)) rfl ?_
  refine OpsW.fresh (fr_alloc z57r) rfl fun b8 => ?_
  refine OpsW.storeW57 rfl rfl (Upd.here) ?_
  refine sNext ?_
  refine W.keep (F' := [(8, _), (5, _), (3, _)]) ⟨rfl, rfl, rfl, trivial⟩ ?_
  refine sSeq ?_
  refine W.draw mixed 47 [[], [0], [], [2], [0, 1, 2, 3], [0, 1, 2, 3, 4], [0, 1, 2, 3, 4, 5], [0, 1, 2, 3, 4, 5, 6], [0, 1, 2, 3, 4, 5], [0, 1, 2, 3, 4, 5, 8], [0, 1, 2, 3, 4, 5, 6, 7, 8, 9], [0, 1, 2, 3, 4, 5], [0, 1, 2, 3, 4, 5, 11], [0, 1, 2, 3, 4, 5], [0, 1, 2, 3, 4, 5, 13], [0, 1, 2, 3, 4, 5, 6, 7, 8, 9, 10, 11, 12, 13, 14], [0, 1, 2, 3, 4, 5, 6, 7, 8, 9, 10, 11, 12, 13, 14, 15], [0, 1, 2, 3, 4, 5], [0, 1, 2, 3, 4, 5], [0, 1, 2, 3, 4, 5, 6, 7, 8, 9, 10, 11, 12, 13, 14, 15, 16, 17, 18], [0, 1, 2, 3, 4, 5], [0, 1, 2, 3, 4, 5, 6, 7, 8, 9, 10, 11, 12, 13, 14, 15, 16, 17, 18, 19, 20], [0, 1, 2, 3, 4, 5], [0, 1, 2, 3, 4, 5, 22], [0, 1, 2, 3, 4, 5], [0, 1, 2, 3, 4, 5, 24], [0, 1, 2, 3, 4, 5, 6, 7, 8, 9, 10, 11, 12, 13, 14, 15, 16, 17, 18, 19, 20, 21, 22, 23, 24, 25], [0, 1, 2, 3, 4, 5, 6, 7, 8, 9, 10, 11, 12, 13, 14, 15, 16, 17, 18, 19, 20, 21, 22, 23, 24, 25, 26], [0, 1, 2, 3, 4, 5, 6, 7, 8, 9, 10, 11, 12, 13, 14, 15, 16, 17, 18, 19, 20, 21, 22, 23, 24, 25, 26, 27], [0, 1, 2, 3, 4, 5, 6, 7, 8, 9, 10, 11, 12, 13, 14, 15, 16, 17, 18, 19, 20, 21, 22, 23, 24, 25, 26, 27, 28], [0, 1, 2, 3, 4, 5, 6, 7, 8, 9, 10, 11, 12, 13, 14, 15, 16, 17, 18, 19, 20, 21, 22, 23, 24, 25, 26, 27, 28, 29], [0, 1, 2, 3, 4, 5, 6, 7, 8, 9, 10, 11, 12, 13, 14, 15, 16, 17, 18, 19, 20, 21, 22, 23, 24, 25, 26, 27, 28, 29, 30], [0, 1, 2, 3, 4, 5, 6, 7, 8, 9, 10, 11, 12, 13, 14, 15, 16, 17, 18, 19, 20, 21, 22, 23, 24, 25, 26, 27, 28, 29, 30, 31], [0, 1, 2, 3, 4, 5, 6, 7, 8, 9, 10, 11, 12, 13, 14, 15, 16, 17, 18, 19, 20, 21, 22, 23, 24, 25, 26, 27, 28, 29, 30], [0, 1, 2, 3, 4, 5, 6, 7, 8, 9, 10, 11, 12, 13, 14, 15, 16, 17, 18, 19, 20, 21, 22, 23, 24, 25, 26, 27, 28, 29, 30, 33], [0, 1, 2, 3, 4, 5, 6, 7, 8, 9, 10, 11, 12, 13, 14, 15, 16, 17, 18, 19, 20, 21, 22, 23, 24, 25, 26, 27, 28, 29, 30, 31, 32, 33, 34], [0, 1, 2, 3, 4, 5, 6, 7, 8, 9, 10, 11, 12, 13, 14, 15, 16, 17, 18, 19, 20, 21, 22, 23, 24, 25, 26, 27, 28, 29, 30, 31, 32, 33, 34, 35], [0, 1, 2, 3, 4, 5, 6, 7, 8, 9, 10, 11, 12, 13, 14, 15, 16, 17, 18, 19, 20, 21, 22, 23, 24, 25, 26, 27, 28, 29, 30, 31, 32, 33, 34, 35, 36], [0, 1, 2, 3, 4, 5, 6, 7, 8, 9, 10, 11, 12, 13, 14, 15, 16, 17, 18, 19, 20, 21, 22, 23, 24, 25, 26, 27, 28, 29, 30, 31, 32, 33, 34, 35, 36], [0, 1, 2, 3, 4, 5, 6, 7, 8, 9, 10, 11, 12, 13, 14, 15, 16, 17, 18, 19, 20, 21, 22, 23, 24, 25, 26, 27, 28, 29, 30, 31, 32, 33, 34, 35, 36, 37, 38], [0, 1, 2, 3, 4, 5, 6, 7, 8, 9, 10, 11, 12, 13, 14, 15, 16, 17, 18, 19, 20, 21, 22, 23, 24, 25, 26, 27, 28, 29, 30, 31, 32, 33, 34, 35, 36, 37, 38, 39], [0, 1, 2, 3, 4, 5, 6, 7, 8, 9, 10, 11, 12, 13, 14, 15, 16, 17, 18, 19, 20, 21, 22, 23, 24, 25, 26, 27, 28, 29, 30, 31, 32, 33, 34, 35, 36, 37, 38, 39, 40], [0, 1, 2, 3, 4, 5, 6, 7, 8, 9, 10, 11, 12, 13, 14, 15, 16, 17, 18, 19, 20, 21, 22, 23, 24, 25, 26, 27, 28, 29, 30, 31, 32, 33, 34, 35, 36, 37, 38, 39, 40, 41], [0, 1, 2, 3, 4, 5, 6, 7, 8, 9, 10, 11, 12, 13, 14, 15, 16, 17, 18, 19, 20, 21, 22, 23, 24, 25, 26, 27, 28, 29, 30, 31, 32, 33, 34, 35, 36, 37, 38, 39, 40, 41, 42], [0, 1, 2, 3, 4, 5, 6, 7, 8, 9, 10, 11, 12, 13, 14, 15, 16, 17, 18, 19, 20, 21, 22, 23, 24, 25, 26, 27, 28, 29, 30, 31, 32, 33, 34, 35, 36, 37, 38, 39, 40, 41, 42, 43], [0, 1, 2, 3, 4, 5, 6, 7, 8, 9, 10, 11, 12, 13, 14, 15, 16, 17, 18, 19, 20, 21, 22, 23, 24, 25, 26, 27, 28, 29, 30, 31, 32, 33, 34, 35, 36, 37, 38, 39, 40, 41, 42, 43, 44], [0, 1, 2, 3, 4, 5, 6, 7, 8, 9, 10, 11, 12, 13, 14, 15, 16, 17, 18, 19, 20, 21, 22, 23, 24, 25, 26, 27, 28, 29, 30, 31, 32, 33, 34, 35, 36, 37, 38, 39, 40, 41, 42, 43, 44, 45]] (cl_lt (by decide)) ?_
  refine HeadR.start (cl_lt (by decide)) ?_
  refine HeadR.det rfl (fun β hβ => (det_fieldAddr fl59_0 rfl)) ?_
  refine HeadR.det rfl (fun β hβ => (det_loadA ty57 rfl (List.Mem.tail _ (List.Mem.tail _ (List.Mem.head _))) rfl)) ?_
  refine HeadR.det rfl (fun β hβ => (det_fieldAddr fl59_0 rfl)) ?_
  refine HeadR.det rfl (fun β hβ => (det_loadA ty57 rfl (List.Mem.tail _ (List.Mem.tail _ (List.Mem.tail _ (List.Mem.tail _ (List.Mem.head _))))) rfl)) ?_
  refine HeadR.det rfl (fun β hβ => (Det.to (det_neq57 rfl rfl) (congrArg Value.bool (ny h2)))) ?_
  refine HeadR.det rfl (fun β hβ => (det_move rfl)) ?_
  refine HeadR.yes rfl rfl (fun _ _ => rfl) (fun β hβ => (det_fieldAddr fl59_1 rfl)) ?_
  refine HeadR.yes rfl rfl (fun _ _ => rfl) (fun β hβ => (det_loadA ty57 rfl (List.Mem.tail _ (List.Mem.tail _ (List.Mem.tail _ (List.Mem.tail _ (List.Mem.head _))))) rfl)) ?_
  refine HeadR.yes rfl rfl (fun _ _ => rfl) (fun β hβ => (det_fieldAddr fl59_1 rfl)) ?_
  refine HeadR.yes rfl rfl (fun _ _ => rfl) (fun β hβ => (det_loadA ty57 rfl (List.Mem.tail _ (List.Mem.tail _ (List.Mem.tail _ (List.Mem.tail _ (List.Mem.head _))))) rfl)) ?_
  refine HeadR.yes rfl rfl (fun _ _ => rfl) (fun β hβ => (det_call en47 rfl (fun w hb ho => Add_ok ho.blocks))) ?_
  refine HeadR.yes rfl rfl (fun _ _ => rfl) (fun β hβ => (det_fieldAddr fl59_1 rfl)) ?_
  refine HeadR.yes rfl rfl (fun _ _ => rfl) (fun β hβ => (det_loadA ty57 rfl (List.Mem.tail _ (List.Mem.tail _ (List.Mem.head _))) rfl)) ?_
  refine HeadR.yes rfl rfl (fun _ _ => rfl) (fun β hβ => (det_fieldAddr fl59_1 rfl)) ?_
  refine HeadR.yes rfl rfl (fun _ _ => rfl) (fun β hβ => (det_loadA ty57 rfl (List.Mem.tail _ (List.Mem.tail _ (List.Mem.tail _ (List.Mem.tail _ (List.Mem.head _))))) rfl)) ?_
  refine HeadR.yes rfl rfl (fun _ _ => rfl) (fun β hβ => (det_call en89 rfl (fun w hb ho => Sub_ok ho.blocks))) ?_
  refine HeadR.yes rfl rfl (fun _ _ => rfl) (fun β hβ => (det_call en81 rfl (fun w hb ho => Mul_ok ho.blocks))) ?_
  refine HeadR.yes rfl rfl (fun _ _ => rfl) (fun β hβ => (det_loadW57 rfl (List.Mem.head _))) ?_
  refine HeadR.yes rfl rfl (fun _ _ => rfl) (fun β hβ => (det_loadW57 rfl (List.Mem.head _))) ?_
  refine HeadR.yes rfl rfl (fun _ _ => rfl) (fun β hβ => (det_call en47 rfl (fun w hb ho => Add_ok ho.blocks))) ?_
  refine HeadR.yes rfl rfl (fun _ _ => rfl) (fun β hβ => (det_loadW57 rfl (List.Mem.head _))) ?_
  refine HeadR.yes rfl rfl (fun _ _ => rfl) (fun β hβ => (det_call en47 rfl (fun w hb ho => Add_ok ho.blocks))) ?_
  refine HeadR.yes rfl rfl (fun _ _ => rfl) (fun β hβ => (det_fieldAddr fl59_0 rfl)) ?_
  refine HeadR.yes rfl rfl (fun _ _ => rfl) (fun β hβ => (det_loadA ty57 rfl (List.Mem.tail _ (List.Mem.tail _ (List.Mem.head _))) rfl)) ?_
  refine HeadR.yes rfl rfl (fun _ _ => rfl) (fun β hβ => (det_fieldAddr fl59_0 rfl)) ?_
  refine HeadR.yes rfl rfl (fun _ _ => rfl) (fun β hβ => (det_loadA ty57 rfl (List.Mem.tail _ (List.Mem.tail _ (List.Mem.tail _ (List.Mem.tail _ (List.Mem.head _))))) rfl)) ?_
  refine HeadR.yes rfl rfl (fun _ _ => rfl) (fun β hβ => (det_call en89 rfl (fun w hb ho => Sub_ok ho.blocks))) ?_
  refine HeadR.yes rfl rfl (fun _ _ => rfl) (fun β hβ => (det_call en81 rfl (fun w hb ho => Mul_ok ho.blocks))) ?_
  refine HeadR.yes rfl rfl (fun _ _ => rfl) (fun β hβ => (Det.to (det_eql57 rfl rfl) (congrArg Value.bool (yb h3)))) ?_
  refine HeadR.det rfl (fun β hβ => (det_pick rfl rfl)) ?_
  refine HeadR.det rfl (fun β hβ => (det_move rfl)) ?_
  refine HeadR.no rfl rfl (fun _ _ => rfl) ?_
  refine HeadR.no rfl rfl (fun _ _ => rfl) ?_
  refine HeadR.no rfl rfl (fun _ _ => rfl) ?_
  refine HeadR.no rfl rfl (fun _ _ => rfl) ?_
  refine HeadR.no rfl rfl (fun _ _ => rfl) ?_
  refine HeadR.no rfl rfl (fun _ _ => rfl) ?_
  refine HeadR.un rfl rfl (fun _ _ => rfl) ?_
  refine HeadR.un rfl rfl (fun _ _ => rfl) ?_
  refine HeadR.un rfl rfl (fun _ _ => rfl) ?_
  refine HeadR.no rfl rfl (fun _ _ => rfl) ?_
  refine HeadR.no rfl rfl (fun _ _ => rfl) ?_
  refine HeadR.un rfl rfl (fun _ _ => rfl) ?_
  refine HeadR.un rfl rfl (fun _ _ => rfl) ?_
  refine HeadR.no rfl rfl (fun _ _ => rfl) ?_
  refine HeadR.det rfl (fun β hβ => (det_pick rfl rfl)) ?_
  refine HeadR.det rfl (fun β hβ => (det_assign rfl)) ?_
  refine HeadR.done ⟨by kernel_rfl, fun β hβ => ?_⟩
  refine OpsW.norm (F' := ((60, _) :: (61, _) :: (62, _) :: (63, _) :: (64, _) :: (65, _) :: (66, _) :: (67, _) :: (68, _) :: (69, _) :: (70, _) :: (71, _) :: (72, _) :: (73, _) :: (74, _) :: (75, _) :: (76, _) :: (77, _) :: (78, _) :: (79, _) :: (80, _) :: (81, _) :: (82, _) :: (83, _) :: (84, _) :: (85, _) :: (86, _) :: (87, _) :: (88, _) :: (89, _) :: (90, _) :: (91, _) :: (92, _) :: (93, _) :: (94, _) :: (95, _) :: (96, _) :: (97, _) :: (98, _) :: (99, _) :: (100, _) :: (101, _) :: (102, _) :: (103, _) :: (104, _) :: (105, _) :: (6, _) :: (8, _) :: (5, _) :: (3, _) :: [])) (H' := [(_, _), (_, _), (_, _), (_, _), (_, _)]) rfl rfl ?_
  refine sNext ?_
  refine W.keep (F' := [(6, _)]) ⟨rfl, trivial⟩ ?_
  refine sRet ?_
  exact done1 Tryd.results46 (rv_tmp rfl) rfl
set_option maxHeartbeats 2000000 in
set_option maxRecDepth 100000 in
theorem sidesE_ok {p q r : Pt} (h0 : p ≠ (0, 0)) (h0' : q ≠ (0, 0)) (h0'' : r ≠ (0, 0)) (h1 : p = q) (h2 : r.1 = p.1) (h3 : r = p) (h4 : threeB p = true) {w : World} (hG : Blocks (GH T) w)  : Vm.Pure Tryd.prog 46 #[encP p, encP q, encP r] w (.bool true) := by
  refine pure_of_W (n := 140) (args := [encP p, encP q, encP r]) Tryd.func46 rfl Tryd.ntmps46 (Nat.le_of_ble_eq_true rfl) hG ?_
  refine sStart ?_
  refine sSeq ?_
  refine W.region ?_
  refine OpsW.fresh (fr_boxW59 rfl) rfl fun b3 => ?_
  refine OpsW.fresh (fr_boxW59 rfl) rfl fun b4 => ?_
  refine OpsW.fresh (fr_boxW59 rfl) rfl fun b5 => ?_
  refine OpsW.det (det_assign rfl) rfl ?_
  refine sNext ?_
  refine W.keep (F' := [(5, _), (4, _), (3, _)]) ⟨rfl, rfl, rfl, trivial⟩ ?_
  refine sSeq ?_
  refine W.region ?_
  refine OpsW.det (det_zero bz59) rfl ?_
  refine OpsW.fresh (fr_alloc z59r) rfl fun b7 => ?_
  refine OpsW.storeW59 rfl rfl (Upd.here) ?_
  refine sNext ?_
  refine W.keep (F' := [(7, _), (5, _), (4, _), (3, _)]) ⟨rfl, rfl, rfl, rfl, trivial⟩ ?_
  refine sSeq ?_
  refine sSeq ?_
  refine W.region ?_
  refine OpsW.det (det_loadW59 rfl (List.Mem.tail _ (List.Mem.tail _ (List.Mem.tail _ (List.Mem.head _))))) rfl ?_
  refine OpsW.det (det_loadW59 rfl (List.Mem.head _)) rfl ?_
  refine OpsW.det (Det.to (det_eql59 rfl rfl) (congrArg Value.bool (nf h0))) rfl ?_
  refine OpsW.det (det_move rfl) rfl ?_
  refine OpsW.guard_yes rfl rfl ?_
  refine OpsW.det (det_loadW59 rfl (List.Mem.tail _ (List.Mem.tail _ (List.Mem.head _)))) rfl ?_
  refine OpsW.guard_yes rfl rfl ?_
  refine OpsW.det (det_loadW59 rfl (List.Mem.head _)) rfl ?_
  refine OpsW.guard_yes rfl rfl ?_
  refine OpsW.det (Det.to (det_eql59 rfl rfl) (congrArg Value.bool (nf h0'))) rfl ?_
  refine OpsW.det (det_pick rfl rfl) rfl ?_
  refine OpsW.det (det_move rfl) rfl ?_
  refine OpsW.guard_yes rfl rfl ?_
  refine OpsW.det (det_loadW59 rfl (List.Mem.tail _ (List.Mem.head _))) rfl ?_
  refine OpsW.guard_yes rfl rfl ?_
  refine OpsW.det (det_loadW59 rfl (List.Mem.head _)) rfl ?_
  refine OpsW.guard_yes rfl rfl ?_
  refine OpsW.det (Det.to (det_eql59 rfl rfl) (congrArg Value.bool (nf h0''))) rfl ?_
  refine OpsW.det (det_pick rfl rfl) rfl ?_
  refine sNext ?_
  refine W.keep (F' := [(22, _), (7, _), (5, _), (4, _), (3, _)]) ⟨rfl, rfl, rfl, rfl, rfl, trivial⟩ ?_
  refine W.cond_false rfl ?_
  refine sSkip ?_
  refine sSeq ?_
  refine sSeq ?_
  refine W.region ?_
  refine OpsW.det (det_loadW59 rfl (List.Mem.tail _ (List.Mem.tail _ (List.Mem.tail _ (List.Mem.head _))))) rfl ?_
  refine OpsW.det (det_loadW59 rfl (List.Mem.tail _ (List.Mem.tail _ (List.Mem.head _)))) rfl ?_
  refine OpsW.det (Det.to (det_eql59 rfl rfl) (congrArg Value.bool (yb h1))) rfl ?_
  refine sNext ?_
  refine W.keep (F' := [(56, _), (5, _), (4, _), (3, _)]) ⟨rfl, rfl, rfl, rfl, trivial⟩ ?_
  refine W.cond_true rfl ?_
  refine sSeq ?_
  refine W.region ?_
  refine OpsW.det (det_fieldAddr fl59_0 rfl) rfl ?_
  refine OpsW.det (det_loadA ty57 rfl (List.Mem.tail _ (List.Mem.tail _ (List.Mem.tail _ (List.Mem.head _)))) rfl) rfl ?_
  refine OpsW.det (det_call en80 rfl (fun w hb ho => Square_ok ho.blocks)) rfl ?_
  refine OpsW.fresh (fr_alloc z57r) rfl fun b8 => ?_
  refine OpsW.storeW57 rfl rfl (Upd.here) ?_
  refine sNext ?_
  refine W.keep (F' := [(8, _), (5, _), (3, _)]) ⟨rfl, rfl, rfl, trivial⟩ ?_
  refine sSeq ?_
  refine W.draw mixed 47 [[], [0], [], [2], [0, 1, 2, 3], [0, 1, 2, 3, 4], [0, 1, 2, 3, 4, 5], [0, 1, 2, 3, 4, 5, 6], [0, 1, 2, 3, 4, 5], [0, 1, 2, 3, 4, 5, 8], [0, 1, 2, 3, 4, 5, 6, 7, 8, 9], [0, 1, 2, 3, 4, 5], [0, 1, 2, 3, 4, 5, 11], [0, 1, 2, 3, 4, 5], [0, 1, 2, 3, 4, 5, 13], [0, 1, 2, 3, 4, 5, 6, 7, 8, 9, 10, 11, 12, 13, 14], [0, 1, 2, 3, 4, 5, 6, 7, 8, 9, 10, 11, 12, 13, 14, 15], [0, 1, 2, 3, 4, 5], [0, 1, 2, 3, 4, 5], [0, 1, 2, 3, 4, 5, 6, 7, 8, 9, 10, 11, 12, 13, 14, 15, 16, 17, 18], [0, 1, 2, 3, 4, 5], [0, 1, 2, 3, 4, 5, 6, 7, 8, 9, 10, 11, 12, 13, 14, 15, 16, 17, 18, 19, 20], [0, 1, 2, 3, 4, 5], [0, 1, 2, 3, 4, 5, 22], [0, 1, 2, 3, 4, 5], [0, 1, 2, 3, 4, 5, 24], [0, 1, 2, 3, 4, 5, 6, 7, 8, 9, 10, 11, 12, 13, 14, 15, 16, 17, 18, 19, 20, 21, 22, 23, 24, 25], [0, 1, 2, 3, 4, 5, 6, 7, 8, 9, 10, 11, 12, 13, 14, 15, 16, 17, 18, 19, 20, 21, 22, 23, 24, 25, 26], [0, 1, 2, 3, 4, 5, 6, 7, 8, 9, 10, 11, 12, 13, 14, 15, 16, 17, 18, 19, 20, 21, 22, 23, 24, 25, 26, 27], [0, 1, 2, 3, 4, 5, 6, 7, 8, 9, 10, 11, 12, 13, 14, 15, 16, 17, 18, 19, 20, 21, 22, 23, 24, 25, 26, 27, 28], [0, 1, 2, 3, 4, 5, 6, 7, 8, 9, 10, 11, 12, 13, 14, 15, 16, 17, 18, 19, 20, 21, 22, 23, 24, 25, 26, 27, 28, 29], [0, 1, 2, 3, 4, 5, 6, 7, 8, 9, 10, 11, 12, 13, 14, 15, 16, 17, 18, 19, 20, 21, 22, 23, 24, 25, 26, 27, 28, 29, 30], [0, 1, 2, 3, 4, 5, 6, 7, 8, 9, 10, 11, 12, 13, 14, 15, 16, 17, 18, 19, 20, 21, 22, 23, 24, 25, 26, 27, 28, 29, 30, 31], [0, 1, 2, 3, 4, 5, 6, 7, 8, 9, 10, 11, 12, 13, 14, 15, 16, 17, 18, 19, 20, 21, 22, 23, 24, 25, 26, 27, 28, 29, 30], [0, 1, 2, 3, 4, 5, 6, 7, 8, 9, 10, 11, 12, 13, 14, 15, 16, 17, 18, 19, 20, 21, 22, 23, 24, 25, 26, 27, 28, 29, 30, 33], [0, 1, 2, 3, 4, 5, 6, 7, 8, 9, 10, 11, 12, 13, 14, 15, 16, 17, 18, 19, 20, 21, 22, 23, 24, 25, 26, 27, 28, 29, 30, 31, 32, 33, 34], [0, 1, 2, 3, 4, 5, 6, 7, 8, 9, 10, 11, 12, 13, 14, 15, 16, 17, 18, 19, 20, 21, 22, 23, 24, 25, 26, 27, 28, 29, 30, 31, 32, 33, 34, 35], [0, 1, 2, 3, 4, 5, 6, 7, 8, 9, 10, 11, 12, 13, 14, 15, 16, 17, 18, 19, 20, 21, 22, 23, 24, 25, 26, 27, 28, 29, 30, 31, 32, 33, 34, 35, 36], [0, 1, 2, 3, 4, 5, 6, 7, 8, 9, 10, 11, 12, 13, 14, 15, 16, 17, 18, 19, 20, 21, 22, 23, 24, 25, 26, 27, 28, 29, 30, 31, 32, 33, 34, 35, 36], [0, 1, 2, 3, 4, 5, 6, 7, 8, 9, 10, 11, 12, 13, 14, 15, 16, 17, 18, 19, 20, 21, 22, 23, 24, 25, 26, 27, 28, 29, 30, 31, 32, 33, 34, 35, 36, 37, 38], [0, 1, 2, 3, 4, 5, 6, 7, 8, 9, 10, 11, 12, 13, 14, 15, 16, 17, 18, 19, 20, 21, 22, 23, 24, 25, 26, 27, 28, 29, 30, 31, 32, 33, 34, 35, 36, 37, 38, 39], [0, 1, 2, 3, 4, 5, 6, 7, 8, 9, 10, 11, 12, 13, 14, 15, 16, 17, 18, 19, 20, 21, 22, 23, 24, 25, 26, 27, 28, 29, 30, 31, 32, 33, 34, 35, 36, 37, 38, 39, 40], [0, 1, 2, 3, 4, 5, 6, 7, 8, 9, 10, 11, 12, 13, 14, 15, 16, 17, 18, 19, 20, 21, 22, 23, 24, 25, 26, 27, 28, 29, 30, 31, 32, 33, 34, 35, 36, 37, 38, 39, 40, 41], [0, 1, 2, 3, 4, 5, 6, 7, 8, 9, 10, 11, 12, 13, 14, 15, 16, 17, 18, 19, 20, 21, 22, 23, 24, 25, 26, 27, 28, 29, 30, 31, 32, 33, 34, 35, 36, 37, 38, 39, 40, 41, 42], [0, 1, 2, 3, 4, 5, 6, 7, 8, 9, 10, 11, 12, 13, 14, 15, 16, 17, 18, 19, 20, 21, 22, 23, 24, 25, 26, 27, 28, 29, 30, 31, 32, 33, 34, 35, 36, 37, 38, 39, 40, 41, 42, 43], [0, 1, 2, 3, 4, 5, 6, 7, 8, 9, 10, 11, 12, 13, 14, 15, 16, 17, 18, 19, 20, 21, 22, 23, 24, 25, 26, 27, 28, 29, 30, 31, 32, 33, 34, 35, 36, 37, 38, 39, 40, 41, 42, 43, 44], [0, 1, 2, 3, 4, 5, 6, 7, 8, 9, 10, 11, 12, 13, 14, 15, 16, 17, 18, 19, 20, 21, 22, 23, 24, 25, 26, 27, 28, 29, 30, 31, 32, 33, 34, 35, 36, 37, 38, 39, 40, 41, 42, 43, 44, 45]] (cl_lt (by decide)) ?_
  refine HeadR.start (cl_lt (by decide)) ?_
  refine HeadR.det rfl (fun β hβ => (det_fieldAddr fl59_0 rfl)) ?_
  refine HeadR.det rfl (fun β hβ => (det_loadA ty57 rfl (List.Mem.tail _ (List.Mem.tail _ (List.Mem.head _))) rfl)) ?_
  refine HeadR.det rfl (fun β hβ => (det_fieldAddr fl59_0 rfl)) ?_
  refine HeadR.det rfl (fun β hβ => (det_loadA ty57 rfl (List.Mem.tail _ (List.Mem.tail _ (List.Mem.tail _ (List.Mem.tail _ (List.Mem.head _))))) rfl)) ?_
  refine HeadR.det rfl (fun β hβ => (Det.to (det_neq57 rfl rfl) (congrArg Value.bool (nb h2)))) ?_
  refine HeadR.det rfl (fun β hβ => (det_move rfl)) ?_
  refine HeadR.no rfl rfl (fun _ _ => rfl) ?_
  refine HeadR.no rfl rfl (fun _ _ => rfl) ?_
  refine HeadR.no rfl rfl (fun _ _ => rfl) ?_
  refine HeadR.no rfl rfl (fun _ _ => rfl) ?_
  refine HeadR.no rfl rfl (fun _ _ => rfl) ?_
  refine HeadR.no rfl rfl (fun _ _ => rfl) ?_
  refine HeadR.no rfl rfl (fun _ _ => rfl) ?_
  refine HeadR.no rfl rfl (fun _ _ => rfl) ?_
  refine HeadR.no rfl rfl (fun _ _ => rfl) ?_
  refine HeadR.no rfl rfl (fun _ _ => rfl) ?_
  refine HeadR.no rfl rfl (fun _ _ => rfl) ?_
  refine HeadR.no rfl rfl (fun _ _ => rfl) ?_
  refine HeadR.no rfl rfl (fun _ _ => rfl) ?_
  refine HeadR.no rfl rfl (fun _ _ => rfl) ?_
  refine HeadR.no rfl rfl (fun _ _ => rfl) ?_
  refine HeadR.no rfl rfl (fun _ _ => rfl) ?_
  refine HeadR.no rfl rfl (fun _ _ => rfl) ?_
  refine HeadR.no rfl rfl (fun _ _ => rfl) ?_
  refine HeadR.no rfl rfl (fun _ _ => rfl) ?_
  refine HeadR.no rfl rfl (fun _ _ => rfl) ?_
  refine HeadR.no rfl rfl (fun _ _ => rfl) ?_
  refine HeadR.no rfl rfl (fun _ _ => rfl) ?_
  refine HeadR.no rfl rfl (fun _ _ => rfl) ?_
  refine HeadR.det rfl (fun β hβ => (det_pick rfl rfl)) ?_
  refine HeadR.det rfl (fun β hβ => (det_move rfl)) ?_
  refine HeadR.yes rfl rfl (fun _ _ => rfl) (fun β hβ => (det_fieldAddr fl59_0 rfl)) ?_
  refine HeadR.yes rfl rfl (fun _ _ => rfl) (fun β hβ => (det_loadA ty57 rfl (List.Mem.tail _ (List.Mem.tail _ (List.Mem.head _))) rfl)) ?_
  refine HeadR.yes rfl rfl (fun _ _ => rfl) (fun β hβ => (det_fieldAddr fl59_0 rfl)) ?_
  refine HeadR.yes rfl rfl (fun _ _ => rfl) (fun β hβ => (det_loadA ty57 rfl (List.Mem.tail _ (List.Mem.tail _ (List.Mem.tail _ (List.Mem.tail _ (List.Mem.head _))))) rfl)) ?_
  refine HeadR.yes rfl rfl (fun _ _ => rfl) (fun β hβ => (Det.to (det_eql57 rfl rfl) (congrArg Value.bool (yb h2)))) ?_
  refine HeadR.yes rfl rfl (fun _ _ => rfl) (fun β hβ => (det_move rfl)) ?_
  refine HeadR.yes rfl rfl (fun _ _ => rfl) (fun β hβ => (det_loadW59 rfl (List.Mem.tail _ (List.Mem.tail _ (List.Mem.head _))))) ?_
  refine HeadR.yes rfl rfl (fun _ _ => rfl) (fun β hβ => (det_loadW59 rfl (List.Mem.tail _ (List.Mem.tail _ (List.Mem.tail _ (List.Mem.tail _ (List.Mem.head _))))))) ?_
  refine HeadR.yes rfl rfl (fun _ _ => rfl) (fun β hβ => (Det.to (det_eql59 rfl rfl) (congrArg Value.bool (yb h3)))) ?_
  refine HeadR.yes rfl rfl (fun _ _ => rfl) (fun β hβ => (det_pick rfl rfl)) ?_
  refine HeadR.yes rfl rfl (fun _ _ => rfl) (fun β hβ => (det_move rfl)) ?_
  refine HeadR.yes rfl rfl (fun _ _ => rfl) (fun β hβ => (det_loadW59 rfl (List.Mem.tail _ (List.Mem.tail _ (List.Mem.tail _ (List.Mem.tail _ (List.Mem.head _))))))) ?_
  refine HeadR.yes rfl rfl (fun _ _ => rfl) (fun β hβ => (Det.to (det_call en90 rfl (fun w hb ho => three_ok ho.blocks)) (congrArg Value.bool (h4)))) ?_
  refine HeadR.yes rfl rfl (fun _ _ => rfl) (fun β hβ => (det_pick rfl rfl)) ?_
  refine HeadR.det rfl (fun β hβ => (det_pick rfl rfl)) ?_
  refine HeadR.det rfl (fun β hβ => (det_assign rfl)) ?_
  refine HeadR.done ⟨by kernel_rfl, fun β hβ => ?_⟩
  refine OpsW.norm (F' := ((60, _) :: (61, _) :: (62, _) :: (63, _) :: (64, _) :: (65, _) :: (66, _) :: (67, _) :: (68, _) :: (69, _) :: (70, _) :: (71, _) :: (72, _) :: (73, _) :: (74, _) :: (75, _) :: (76, _) :: (77, _) :: (78, _) :: (79, _) :: (80, _) :: (81, _) :: (82, _) :: (83, _) :: (84, _) :: (85, _) :: (86, _) :: (87, _) :: (88, _) :: (89, _) :: (90, _) :: (91, _) :: (92, _) :: (93, _) :: (94, _) :: (95, _) :: (96, _) :: (97, _) :: (98, _) :: (99, _) :: (100, _) :: (101, _) :: (102, _) :: (103, _) :: (104, _) :: (105, _) :: (6, _) :: (8, _) :: (5, _) :: (3, _) :: [])) (H' := [(_, _), (_, _), (_, _), (_, _), (_, _)]) rfl rfl ?_
  refine sNext ?_
  refine W.keep (F' := [(6, _)]) ⟨rfl, trivial⟩ ?_
  refine sRet ?_
  exact done1 Tryd.results46 (rv_tmp rfl) rfl
set_option maxHeartbeats 2000000 in
set_option maxRecDepth 100000 in
theorem sidesF_ok {p q r : Pt} (h0 : p ≠ (0, 0)) (h0' : q ≠ (0, 0)) (h0'' : r ≠ (0, 0)) (h1 : p ≠ q) (h2 : p.1 ≠ q.1) (h3 : (q.1 - p.1) * (r.2 - p.2) = (r.1 - p.1) * (q.2 - p.2)) (h4 : lambdaB p q r = true) {w : World} (hG : Blocks (GH T) w)  : Vm.Pure Tryd.prog 46 #[encP p, encP q, encP r] w (.bool true) := by
  refine pure_of_W (n := 140) (args := [encP p, encP q, encP r]) Tryd.func46 rfl Tryd.ntmps46 (Nat.le_of_ble_eq_true rfl) hG ?_
  refine sStart ?_
  refine sSeq ?_
  refine W.region ?_
  refine OpsW.fresh (fr_boxW59 rfl) rfl fun b3 => ?_
  refine OpsW.fresh (fr_boxW59 rfl) rfl fun b4 => ?_
  refine OpsW.fresh (fr_boxW59 rfl) rfl fun b5 => ?_
  refine OpsW.det (det_assign rfl) rfl ?_
  refine sNext ?_
  refine W.keep (F' := [(5, _), (4, _), (3, _)]) ⟨rfl, rfl, rfl, trivial⟩ ?_
  refine sSeq ?_
  refine W.region ?_
  refine OpsW.det (det_zero bz59) rfl ?_
  refine OpsW.fresh (fr_alloc z59r) rfl fun b7 => ?_
  refine OpsW.storeW59 rfl rfl (Upd.here) ?_
  refine sNext ?_
  refine W.keep (F' := [(7, _), (5, _), (4, _), (3, _)]) ⟨rfl, rfl, rfl, rfl, trivial⟩ ?_
  refine sSeq ?_
  refine sSeq ?_
  refine W.region ?_
  refine OpsW.det (det_loadW59 rfl (List.Mem.tail _ (List.Mem.tail _ (List.Mem.tail _ (List.Mem.head _))))) rfl ?_
  refine OpsW.det (det_loadW59 rfl (List.Mem.head _)) rfl ?_
  refine OpsW.det (Det.to (det_eql59 rfl rfl) (congrArg Value.bool (nf h0))) rfl ?_
  refine OpsW.det (det_move rfl) rfl ?_
  refine OpsW.guard_yes rfl rfl ?_
  refine OpsW.det (det_loadW59 rfl (List.Mem.tail _ (List.Mem.tail _ (List.Mem.head _)))) rfl ?_
  refine OpsW.guard_yes rfl rfl ?_
  refine OpsW.det (det_loadW59 rfl (List.Mem.head _)) rfl ?_
  refine OpsW.guard_yes rfl rfl ?_
  refine OpsW.det (Det.to (det_eql59 rfl rfl) (congrArg Value.bool (nf h0'))) rfl ?_
  refine OpsW.det (det_pick rfl rfl) rfl ?_
  refine OpsW.det (det_move rfl) rfl ?_
  refine OpsW.guard_yes rfl rfl ?_
  refine OpsW.det (det_loadW59 rfl (List.Mem.tail _ (List.Mem.head _))) rfl ?_
  refine OpsW.guard_yes rfl rfl ?_
  refine OpsW.det (det_loadW59 rfl (List.Mem.head _)) rfl ?_
  refine OpsW.guard_yes rfl rfl ?_
  refine OpsW.det (Det.to (det_eql59 rfl rfl) (congrArg Value.bool (nf h0''))) rfl ?_
  refine OpsW.det (det_pick rfl rfl) rfl ?_
  refine sNext ?_
  refine W.keep (F' := [(22, _), (7, _), (5, _), (4, _), (3, _)]) ⟨rfl, rfl, rfl, rfl, rfl, trivial⟩ ?_
  refine W.cond_false rfl ?_
  refine sSkip ?_
  refine sSeq ?_
  refine sSeq ?_
  refine W.region ?_
  refine OpsW.det (det_loadW59 rfl (List.Mem.tail _ (List.Mem.tail _ (List.Mem.tail _ (List.Mem.head _))))) rfl ?_
  refine OpsW.det (det_loadW59 rfl (List.Mem.tail _ (List.Mem.tail _ (List.Mem.head _)))) rfl ?_
  refine OpsW.det (Det.to (det_eql59 rfl rfl) (congrArg Value.bool (nf h1))) rfl ?_
  refine sNext ?_
  refine W.keep (F' := [(56, _), (5, _), (4, _), (3, _)]) ⟨rfl, rfl, rfl, rfl, trivial⟩ ?_
  refine W.cond_false rfl ?_
  refine sSkip ?_
  refine sSeq ?_
  refine sSeq ?_
  refine W.region ?_
  refine OpsW.det (det_fieldAddr fl59_0 rfl) rfl ?_
  refine OpsW.det (det_loadA ty57 rfl (List.Mem.tail _ (List.Mem.tail _ (List.Mem.tail _ (List.Mem.head _)))) rfl) rfl ?_
  refine OpsW.det (det_fieldAddr fl59_0 rfl) rfl ?_
  refine OpsW.det (det_loadA ty57 rfl (List.Mem.tail _ (List.Mem.tail _ (List.Mem.head _))) rfl) rfl ?_
  refine OpsW.det (Det.to (det_eql57 rfl rfl) (congrArg Value.bool (nf h2))) rfl ?_
  refine sNext ?_
  refine W.keep (F' := [(110, _), (5, _), (4, _), (3, _)]) ⟨rfl, rfl, rfl, rfl, trivial⟩ ?_
  refine W.cond_false rfl ?_
  refine sSkip ?_
  refine sSeq ?_
  refine W.draw mixed 30 [[], [0], [], [2], [0, 1, 2, 3], [], [5], [], [7], [0, 1, 2, 3, 4, 5, 6, 7, 8], [0, 1, 2, 3, 4, 5, 6, 7, 8, 9], [], [11], [], [13], [0, 1, 2, 3, 4, 5, 6, 7, 8, 9, 10, 11, 12, 13, 14], [], [16], [], [18], [0, 1, 2, 3, 4, 5, 6, 7, 8, 9, 10, 11, 12, 13, 14, 15, 16, 17, 18, 19], [0, 1, 2, 3, 4, 5, 6, 7, 8, 9, 10, 11, 12, 13, 14, 15, 16, 17, 18, 19, 20], [0, 1, 2, 3, 4, 5, 6, 7, 8, 9, 10, 11, 12, 13, 14, 15, 16, 17, 18, 19, 20, 21], [0, 1, 2, 3, 4, 5, 6, 7, 8, 9, 10, 11, 12, 13, 14, 15, 16, 17, 18, 19, 20, 21, 22], [0, 1, 2, 3, 4, 5, 6, 7, 8, 9, 10, 11, 12, 13, 14, 15, 16, 17, 18, 19, 20, 21, 22, 23], [0, 1, 2, 3, 4, 5, 6, 7, 8, 9, 10, 11, 12, 13, 14, 15, 16, 17, 18, 19, 20, 21, 22, 23], [0, 1, 2, 3, 4, 5, 6, 7, 8, 9, 10, 11, 12, 13, 14, 15, 16, 17, 18, 19, 20, 21, 22, 23], [0, 1, 2, 3, 4, 5, 6, 7, 8, 9, 10, 11, 12, 13, 14, 15, 16, 17, 18, 19, 20, 21, 22, 23, 24, 25, 26], [0, 1, 2, 3, 4, 5, 6, 7, 8, 9, 10, 11, 12, 13, 14, 15, 16, 17, 18, 19, 20, 21, 22, 23, 24, 25, 26, 27], [0, 1, 2, 3, 4, 5, 6, 7, 8, 9, 10, 11, 12, 13, 14, 15, 16, 17, 18, 19, 20, 21, 22, 23, 24, 25, 26, 27, 28]] (cl_lt (by decide)) ?_
  refine HeadR.start (cl_lt (by decide)) ?_
  refine HeadR.det rfl (fun β hβ => (det_fieldAddr fl59_0 rfl)) ?_
  refine HeadR.det rfl (fun β hβ => (det_loadA ty57 rfl (List.Mem.tail _ (List.Mem.tail _ (List.Mem.head _))) rfl)) ?_
  refine HeadR.det rfl (fun β hβ => (det_fieldAddr fl59_0 rfl)) ?_
  refine HeadR.det rfl (fun β hβ => (det_loadA ty57 rfl (List.Mem.tail _ (List.Mem.tail _ (List.Mem.tail _ (List.Mem.head _)))) rfl)) ?_
  refine HeadR.det rfl (fun β hβ => (det_call en89 rfl (fun w hb ho => Sub_ok ho.blocks))) ?_
  refine HeadR.det rfl (fun β hβ => (det_fieldAddr fl59_1 rfl)) ?_
  refine HeadR.det rfl (fun β hβ => (det_loadA ty57 rfl (List.Mem.tail _ (List.Mem.head _)) rfl)) ?_
  refine HeadR.det rfl (fun β hβ => (det_fieldAddr fl59_1 rfl)) ?_
  refine HeadR.det rfl (fun β hβ => (det_loadA ty57 rfl (List.Mem.tail _ (List.Mem.tail _ (List.Mem.tail _ (List.Mem.head _)))) rfl)) ?_
  refine HeadR.det rfl (fun β hβ => (det_call en89 rfl (fun w hb ho => Sub_ok ho.blocks))) ?_
  refine HeadR.det rfl (fun β hβ => (det_call en81 rfl (fun w hb ho => Mul_ok ho.blocks))) ?_
  refine HeadR.det rfl (fun β hβ => (det_fieldAddr fl59_0 rfl)) ?_
  refine HeadR.det rfl (fun β hβ => (det_loadA ty57 rfl (List.Mem.tail _ (List.Mem.head _)) rfl)) ?_
  refine HeadR.det rfl (fun β hβ => (det_fieldAddr fl59_0 rfl)) ?_
  refine HeadR.det rfl (fun β hβ => (det_loadA ty57 rfl (List.Mem.tail _ (List.Mem.tail _ (List.Mem.tail _ (List.Mem.head _)))) rfl)) ?_
  refine HeadR.det rfl (fun β hβ => (det_call en89 rfl (fun w hb ho => Sub_ok ho.blocks))) ?_
  refine HeadR.det rfl (fun β hβ => (det_fieldAddr fl59_1 rfl)) ?_
  refine HeadR.det rfl (fun β hβ => (det_loadA ty57 rfl (List.Mem.tail _ (List.Mem.tail _ (List.Mem.head _))) rfl)) ?_
  refine HeadR.det rfl (fun β hβ => (det_fieldAddr fl59_1 rfl)) ?_
  refine HeadR.det rfl (fun β hβ => (det_loadA ty57 rfl (List.Mem.tail _ (List.Mem.tail _ (List.Mem.tail _ (List.Mem.head _)))) rfl)) ?_
  refine HeadR.det rfl (fun β hβ => (det_call en89 rfl (fun w hb ho => Sub_ok ho.blocks))) ?_
  refine HeadR.det rfl (fun β hβ => (det_call en81 rfl (fun w hb ho => Mul_ok ho.blocks))) ?_
  refine HeadR.det rfl (fun β hβ => (Det.to (det_eql57 rfl rfl) (congrArg Value.bool (yb h3)))) ?_
  refine HeadR.det rfl (fun β hβ => (det_move rfl)) ?_
  refine HeadR.yes rfl rfl (fun _ _ => rfl) (fun β hβ => (det_loadW59 rfl (List.Mem.tail _ (List.Mem.tail _ (List.Mem.tail _ (List.Mem.head _)))))) ?_
  refine HeadR.yes rfl rfl (fun _ _ => rfl) (fun β hβ => (det_loadW59 rfl (List.Mem.tail _ (List.Mem.tail _ (List.Mem.head _))))) ?_
  refine HeadR.yes rfl rfl (fun _ _ => rfl) (fun β hβ => (det_loadW59 rfl (List.Mem.tail _ (List.Mem.head _)))) ?_
  refine HeadR.yes rfl rfl (fun _ _ => rfl) (fun β hβ => (Det.to (det_call en91 rfl (fun w hb ho => lambda_ok ho.blocks)) (congrArg Value.bool (h4)))) ?_
  refine HeadR.det rfl (fun β hβ => (det_pick rfl rfl)) ?_
  refine HeadR.det rfl (fun β hβ => (det_assign rfl)) ?_
  refine HeadR.done ⟨by kernel_rfl, fun β hβ => ?_⟩
  refine OpsW.norm (F' := ((111, _) :: (112, _) :: (113, _) :: (114, _) :: (115, _) :: (116, _) :: (117, _) :: (118, _) :: (119, _) :: (120, _) :: (121, _) :: (122, _) :: (123, _) :: (124, _) :: (125, _) :: (126, _) :: (127, _) :: (128, _) :: (129, _) :: (130, _) :: (131, _) :: (132, _) :: (133, _) :: (134, _) :: (135, _) :: (136, _) :: (137, _) :: (138, _) :: (139, _) :: (6, _) :: (110, _) :: (5, _) :: (4, _) :: (3, _) :: [])) (H' := [(_, _), (_, _), (_, _), (_, _)]) rfl rfl ?_
  refine sNext ?_
  refine W.keep (F' := [(6, _)]) ⟨rfl, trivial⟩ ?_
  refine sRet ?_
  exact done1 Tryd.results46 (rv_tmp rfl) rfl
set_option maxRecDepth 100000 in
theorem wild_ok {n : Nat} (hn : n < 65536) {w : World} (hG : Blocks (GH T) w)  : Vm.Pure Tryd.prog 44 #[.int .u16 (n : Nat)] w (encP (wild n)) := by
  refine pure_of_W (n := 38) (args := [.int .u16 (n : Nat)]) Tryd.func44 rfl Tryd.ntmps44 (Nat.le_of_ble_eq_true rfl) hG ?_
  refine sStart ?_
  refine sSeq ?_
  refine W.region ?_
  refine OpsW.fresh (fr_alloc z59r) rfl fun b2 => ?_
  refine sNext ?_
  refine sSeq ?_
  refine sSeq ?_
  refine W.region ?_
  refine OpsW.det (det_move rfl) rfl ?_
  refine OpsW.det ((det_conv u39 u25 rfl).to (v := u64 n) (by rw [wrap_u64 (by omega)]; rfl)) rfl ?_
  refine OpsW.det (det_assign rfl) rfl ?_
  refine sNext ?_
  refine W.keep (F' := [(3, _), (2, _), (0, _)]) ⟨rfl, rfl, rfl, trivial⟩ ?_
  refine sBlock ?_
  refine sLoop (σ := Nat) (fun k => [(3, u64 k), (2, .pointer (some ⟨b2, 0, none⟩)), (0, .int .u16 (n : Nat))]) (fun k => [(b2, blk (cellsP (0, 0)) 59)]) (fun k => n ≤ k ∧ k ≤ n + 200 ∧ wild n = wfrom (n + 200 - k) k) (fun k => n + 200 - k) n ⟨Nat.le_refl _, Nat.le_add_right _ _, by rw [Nat.add_sub_cancel_left]; rfl⟩ ⟨rfl, rfl, rfl, trivial⟩ (List.Sublist.refl _) ?_
  rintro k ⟨hk1, hk2, hw⟩
  refine sSeq ?_
  refine sSeq ?_
  refine W.region ?_
  refine OpsW.det (det_move rfl) rfl ?_
  refine OpsW.det (det_move rfl) rfl ?_
  refine OpsW.det ((det_conv u39 u25 rfl).to (v := u64 n) (by rw [wrap_u64 (by omega)]; rfl)) rfl ?_
  refine OpsW.det ((det_add (a := (n : Int)) (b := 200) rfl rfl).to (v := u64 (n + 200)) (by rw [wrap_u64 (by omega)]; rfl)) rfl ?_
  refine OpsW.det ((det_lss (a := ((k : Nat) : Int)) (b := ((n + 200 : Nat) : Int)) rfl rfl)) rfl ?_
  refine sNext ?_
  refine W.keep (F' := [(13, _), (3, _), (2, _), (0, _)]) ⟨rfl, rfl, rfl, rfl, trivial⟩ ?_
  refine W.cond rfl (fun hc13 => ?_) (fun hc13 => ?_)
  · skip
    have hlt : k < n + 200 := by have h := hc13; simp only [decide_eq_true_eq] at h; omega
    refine sSkip ?_
    refine sSeq ?_
    refine sBlock ?_
    refine sSeq ?_
    refine W.region ?_
    refine OpsW.det (det_move rfl) rfl ?_
    refine OpsW.det (det_call en84 rfl (fun w hb ho => Small_ok (m := k) (n := 1) (by omega) (by decide) ho.blocks)) rfl ?_
    refine OpsW.fresh (fr_alloc z57r) rfl fun b4 => ?_
    refine OpsW.storeW57 rfl rfl (Upd.here) ?_
    refine sNext ?_
    refine W.keep (F' := [(4, _), (3, _), (2, _), (0, _)]) ⟨rfl, rfl, rfl, rfl, trivial⟩ ?_
    refine sSeq ?_
    refine W.draw mixed 11 [[], [0], [], [0, 1, 2], [0, 1, 2, 3], [0, 1, 2, 3, 4], [0, 1, 2, 3, 4, 5], [0, 1, 2, 3, 4, 5, 6], [0, 1, 2, 3, 4, 5, 6, 7], [0, 1, 2, 3, 4, 5, 6, 7], [], [0, 1, 2, 3, 4, 5, 6, 7, 8, 10], [0, 1, 2, 3, 4, 5, 6, 7, 8, 9, 10, 11]] (cl_lt (by decide)) ?_
    refine HeadR.start (cl_lt (by decide)) ?_
    refine HeadR.det rfl (fun β hβ => (det_loadW57 rfl (List.Mem.head _))) ?_
    refine HeadR.det rfl (fun β hβ => (det_call en80 rfl (fun w hb ho => Square_ok ho.blocks))) ?_
    refine HeadR.det rfl (fun β hβ => (det_loadW57 rfl (List.Mem.head _))) ?_
    refine HeadR.det rfl (fun β hβ => (det_call en81 rfl (fun w hb ho => Mul_ok ho.blocks))) ?_
    refine HeadR.det rfl (fun β hβ => (det_call en84 rfl (fun w hb ho => Small_ok (m := 4) (n := 4) (by decide) (by decide) ho.blocks))) ?_
    refine HeadR.det rfl (fun β hβ => (det_call en47 rfl (fun w hb ho => Add_ok ho.blocks))) ?_
    refine HeadR.det rfl (fun β hβ => (det_call en85 rfl (fun w hb ho => Sqrt_ok ho.blocks))) ?_
    refine HeadR.det rfl (fun β hβ => (det_move rfl)) ?_
    refine HeadR.det rfl (fun β hβ => (det_extract rfl rfl)) ?_
    refine HeadR.flt rfl (fun _ _ _ _ hs => flt_extract hs rfl rfl) ?_
    refine HeadR.fresh rfl (fun β hβ => (fr_alloc z57r).new) ?_
    refine HeadR.done ⟨by kernel_rfl, fun β hβ => ?_⟩
    refine OpsW.norm (F' := [(19, _), (20, _), (21, _), (22, _), (23, _), (24, _), (25, _), (18, _), (26, _), (27, _), (5, .pointer (some ⟨(β 5).1, 0, none⟩)), (4, _), (3, _), (2, _), (0, _)]) (H' := [(_, _), (_, _), (_, _)]) rfl rfl ?_
    generalize (β 5).1 = b5
    refine OpsW.storeW57 rfl rfl (Upd.here) ?_
    refine OpsW.det (det_assign rfl) rfl ?_
    refine sNext ?_
    refine W.keep (F' := [(6, _), (5, _), (4, _), (3, _), (2, _), (0, _)]) ⟨rfl, rfl, rfl, rfl, rfl, rfl, trivial⟩ ?_
    refine sSeq ?_
    rcases hb : (sqrt2 (small k 1 * small k 1 * small k 1 + small 4 4)).2 with _ | _
    · skip
      replace hb : (sqrt2 (wcube k)).2 = false := hb
      refine W.region ?_
      refine OpsW.det (det_move rfl) rfl ?_
      refine OpsW.det (det_move rfl) rfl ?_
      refine OpsW.guard_no rfl rfl rfl ?_
      refine OpsW.guard_no rfl rfl rfl ?_
      refine OpsW.guard_no rfl rfl rfl ?_
      refine OpsW.det (det_pick rfl rfl) rfl ?_
      refine sNext ?_
      refine W.keep (F' := [(33, _), (5, _), (4, _), (3, _), (2, _), (0, _)]) ⟨rfl, rfl, rfl, rfl, rfl, rfl, trivial⟩ ?_
      refine W.cond_false rfl ?_
      refine sSkip0 ?_
      refine bNext ?_
      refine W.keep (F' := [(3, _), (2, _), (0, _)]) ⟨rfl, rfl, rfl, trivial⟩ ?_
      refine W.region ?_
      refine OpsW.det (det_move rfl) rfl ?_
      refine OpsW.det ((det_add (a := (k : Int)) (b := 1) rfl rfl).to (v := u64 (k + 1)) (by rw [wrap_u64 (by omega)]; rfl)) rfl ?_
      refine OpsW.det (det_assign rfl) rfl ?_
      refine sLast ?_
      exact rEnd (k + 1) ⟨by omega, by omega, wild_no hlt hw hb⟩ ⟨rfl, rfl, rfl, trivial⟩ (List.Sublist.cons _ (List.Sublist.cons _ (List.Sublist.refl _))) (by omega)
    · skip
      replace hb : (sqrt2 (wcube k)).2 = true := hb
      refine W.region ?_
      refine OpsW.det (det_move rfl) rfl ?_
      refine OpsW.det (det_move rfl) rfl ?_
      refine OpsW.guard_yes rfl rfl ?_
      refine OpsW.det (det_loadW57 rfl (List.Mem.head _)) rfl ?_
      refine OpsW.guard_yes rfl rfl ?_
      refine OpsW.det (det_call en86 rfl (fun w hb ho => Zero_ok ho.blocks)) rfl ?_
      refine OpsW.guard_yes rfl rfl ?_
      refine OpsW.det (det_not rfl) rfl ?_
      refine OpsW.det (det_pick rfl rfl) rfl ?_
      refine sNext ?_
      refine W.keep (F' := [(33, _), (5, _), (4, _), (3, _), (2, _), (0, _)]) ⟨rfl, rfl, rfl, rfl, rfl, rfl, trivial⟩ ?_
      refine W.cond rfl (fun hc33 => ?_) (fun hc33 => ?_)
      · skip
        refine sSeq ?_
        refine W.region ?_
        refine OpsW.det (det_loadW57 rfl (List.Mem.tail _ (List.Mem.head _))) rfl ?_
        refine OpsW.det (det_loadW57 rfl (List.Mem.head _)) rfl ?_
        refine OpsW.det (det_build rfl bld59) rfl ?_
        refine OpsW.storeW59 rfl rfl (Upd.there (Upd.there (Upd.here))) ?_
        refine sNext ?_
        refine W.keep (F' := [(2, _)]) ⟨rfl, trivial⟩ ?_
        refine sRet ?_
        refine retBlk ?_
        refine retLoop ?_
        refine retBlk ?_
        exact done1 Tryd.results44 (rv_cellA ty59 rfl (List.Mem.tail _ (List.Mem.tail _ (List.Mem.head _))) rfl) (congrArg encP (wild_hit hlt hw hb hc33))
      · skip
        refine sSkip0 ?_
        refine bNext ?_
        refine W.keep (F' := [(3, _), (2, _), (0, _)]) ⟨rfl, rfl, rfl, trivial⟩ ?_
        refine W.region ?_
        refine OpsW.det (det_move rfl) rfl ?_
        refine OpsW.det ((det_add (a := (k : Int)) (b := 1) rfl rfl).to (v := u64 (k + 1)) (by rw [wrap_u64 (by omega)]; rfl)) rfl ?_
        refine OpsW.det (det_assign rfl) rfl ?_
        refine sLast ?_
        exact rEnd (k + 1) ⟨by omega, by omega, wild_zero hlt hw hc33⟩ ⟨rfl, rfl, rfl, trivial⟩ (List.Sublist.cons _ (List.Sublist.cons _ (List.Sublist.refl _))) (by omega)
  · skip
    have hge : ¬ k < n + 200 := by have h := hc13; simp only [decide_eq_false_iff_not] at h; omega
    refine sExit ?_
    refine xLoop ?_
    refine xHere ?_
    refine W.keep (F' := [(2, _)]) ⟨rfl, trivial⟩ ?_
    refine sSeq ?_
    refine W.region ?_
    refine OpsW.det (det_zero bz59) rfl ?_
    refine OpsW.storeW59 rfl rfl (Upd.here) ?_
    refine sNext ?_
    refine W.keep (F' := [(2, _)]) ⟨rfl, trivial⟩ ?_
    refine sRet ?_
    exact done1 Tryd.results44 (rv_cellA ty59 rfl (List.Mem.head _) rfl) (congrArg encP (wild_end hge hk2 hw))

end Go.Cw
