/-
  Part 10 of the joined texts of the curves' laws: The second group's laws: G2Scalars: the walk. Conditions: the rules that the points obey.
  Conditions: those that each theorem states.
-/
import Derived.Test.YtbchpfmfiokbgaaDoorR8
import Derived.Test.YtbchpfmfiokbgaaDoorR9
/- The second group's laws: G2Scalars: the walk. Conditions: the rules that the points obey. -/
namespace Go.Cw
open Go Go.Vm Go.RowKit Go.Proofs Go.Cu
attribute [local irreducible] W OpsW Det Fresh New Writes Vm.Pure Makes Changes ExternTo BuildTo ZeroTo FieldTo IndexTo BinTo SliceTo Vm.Enters
set_option linter.unusedVariables false
set_option linter.unusedSimpArgs false
variable {T : Nat → TypeId × Nat × Nat}

structure ScalarsOk (x y : Fs) (p : Pt) : Prop where
  r1 : padd (pmul p x) (pmul p y) = pmul p (x + y)
  r2 : pmul (pmul p x) y = pmul p (x * y)
  r3 : pneg (pmul p x) = pmul p (0 - x)
  r4 : pmul p (Zp.of 1) = p
  r5 : pmul p 0 = (0, 0)
  r6 : inB p = true
  r7 : onB (pmul p x) = true
attribute [local irreducible] pmul times padd pneg psum wide gen sqrt2

theorem en43 : Vm.Enters Tryd.prog 43 := Vm.Enters.of fun _ _ => by kernel_rfl
set_option maxHeartbeats 2000000 in
set_option maxRecDepth 100000 in
theorem G2Scalars_ok {G' : Hp} {va vb vc : Value} {la lb lc : List Nat} (ha : Bs G' va la) (hb' : Bs G' vb lb) (hc' : Bs G' vc lc) (hh : HeadOk) (hr : ScalarsOk (wide la) (wide lb) (gp lc)) {w : World} (hG : Blocks (G' ++ GH T) w)  : Vm.Pure Tryd.prog 11 #[va, vb, vc] w (.bool true) := by
  obtain ⟨aa, ca, hva⟩ := ha.shape
  obtain ⟨ab, cb, hvb⟩ := hb'.shape
  obtain ⟨ac, cc, hvc⟩ := hc'.shape
  refine pure_of_W (n := 83) (args := [va, vb, vc]) Tryd.func11 rfl Tryd.ntmps11 (Nat.le_of_ble_eq_true rfl) hG ?_
  refine sStart ?_
  refine sSeq ?_
  subst hva
  subst hvb
  subst hvc
  refine W.region ?_
  refine OpsW.det (det_assign rfl) rfl ?_
  refine sNext ?_
  refine W.keep (F' := [(0, _), (1, _), (2, _)]) ⟨rfl, rfl, rfl, trivial⟩ ?_
  refine sSeq ?_
  refine sSeq ?_
  refine W.region ?_
  refine OpsW.det (det_call en34 rfl (fun w hb ho => head_ok hh (fun p hp => ho.look (List.mem_append_right _ hp)))) rfl ?_
  refine OpsW.det (det_not rfl) rfl ?_
  refine sNext ?_
  refine W.keep (F' := [(11, _), (0, _), (1, _), (2, _)]) ⟨rfl, rfl, rfl, rfl, trivial⟩ ?_
  refine W.cond_false rfl ?_
  refine sSkip ?_
  refine sSeq ?_
  refine sSeq ?_
  refine W.region ?_
  refine OpsW.det (det_move rfl) rfl ?_
  refine OpsW.det (det_move rfl) rfl ?_
  refine OpsW.det (det_move rfl) rfl ?_
  refine OpsW.det (det_call en35 rfl (fun w hb ho => long_ok (fun p hp => ho.look (List.mem_append_right _ hp)))) rfl ?_
  refine sNext ?_
  refine W.keep (F' := [(15, _), (0, _), (1, _), (2, _)]) ⟨rfl, rfl, rfl, rfl, trivial⟩ ?_
  refine W.cond rfl (fun hc15 => ?_) (fun hc15 => ?_)
  · skip
    refine sSeq ?_
    refine W.region ?_
    refine OpsW.det (det_assign rfl) rfl ?_
    refine sNext ?_
    refine W.keep (F' := [(6, _)]) ⟨rfl, trivial⟩ ?_
    refine sRet ?_
    exact done1 Tryd.results11 (rv_tmp rfl) rfl
  · skip
    have hl := not_long hc15
    refine sSkip ?_
    refine sSeq ?_
    refine W.region ?_
    refine OpsW.det (det_move rfl) rfl ?_
    refine OpsW.det (det_call en38 rfl (fun w hb ho => scalar_ok (G' := G') ha (Nat.le_trans hl.1 (by decide)) ho.blocks)) rfl ?_
    refine OpsW.fresh (fr_alloc z35r) rfl fun b7 => ?_
    refine OpsW.storeW35 rfl rfl (Upd.here) ?_
    refine sNext ?_
    refine W.keep (F' := [(7, _), (1, _), (2, _)]) ⟨rfl, rfl, rfl, trivial⟩ ?_
    refine sSeq ?_
    refine W.region ?_
    refine OpsW.det (det_move rfl) rfl ?_
    refine OpsW.det (det_call en38 rfl (fun w hb ho => scalar_ok (G' := G') hb' (Nat.le_trans hl.2.1 (by decide)) ho.blocks)) rfl ?_
    refine OpsW.fresh (fr_alloc z35r) rfl fun b8 => ?_
    refine OpsW.storeW35 rfl rfl (Upd.here) ?_
    refine sNext ?_
    refine W.keep (F' := [(8, _), (7, _), (2, _)]) ⟨rfl, rfl, rfl, trivial⟩ ?_
    refine sSeq ?_
    refine W.region ?_
    refine OpsW.det (det_call en36 rfl (fun w hb ho => Gen_ok (fun p hp => ho.look (List.mem_append_right _ hp)))) rfl ?_
    refine OpsW.det (det_move rfl) rfl ?_
    refine OpsW.det (det_call en38 rfl (fun w hb ho => scalar_ok (G' := G') hc' (Nat.le_trans hl.2.2 (by decide)) ho.blocks)) rfl ?_
    refine OpsW.det (det_call en37 rfl (fun w hb ho => PMul_ok (fun p hp => ho.look (List.mem_append_right _ hp)))) rfl ?_
    refine OpsW.fresh (fr_alloc z59r) rfl fun b9 => ?_
    refine OpsW.storeW59 rfl rfl (Upd.here) ?_
    refine sNext ?_
    refine W.keep (F' := [(9, _), (8, _), (7, _)]) ⟨rfl, rfl, rfl, trivial⟩ ?_
    refine sSeq ?_
    refine sSeq ?_
    refine W.draw mixed 37 [[], [], [0, 1], [], [], [0, 1, 2, 3, 4], [0, 1, 2, 3, 4, 5], [], [], [], [0, 1, 2, 3, 4, 5, 6, 8, 9], [0, 1, 2, 3, 4, 5, 6, 7, 8, 9, 10], [0, 1, 2, 3, 4, 5, 6, 7, 8, 9, 10, 11], [0, 1, 2, 3, 4, 5, 6, 7, 8, 9, 10, 11, 12], [0, 1, 2, 3, 4, 5, 6, 7, 8, 9, 10, 11, 12, 13], [0, 1, 2, 3, 4, 5, 6, 7, 8, 9, 10, 11, 12, 13], [0, 1, 2, 3, 4, 5, 6, 7, 8, 9, 10, 11, 12, 13, 14, 15], [0, 1, 2, 3, 4, 5, 6, 7, 8, 9, 10, 11, 12, 13], [0, 1, 2, 3, 4, 5, 6, 7, 8, 9, 10, 11, 12, 13, 14, 15, 16, 17], [0, 1, 2, 3, 4, 5, 6, 7, 8, 9, 10, 11, 12, 13], [0, 1, 2, 3, 4, 5, 6, 7, 8, 9, 10, 11, 12, 13], [0, 1, 2, 3, 4, 5, 6, 7, 8, 9, 10, 11, 12, 13], [0, 1, 2, 3, 4, 5, 6, 7, 8, 9, 10, 11, 12, 13, 14, 15, 16, 17, 18, 20, 21], [0, 1, 2, 3, 4, 5, 6, 7, 8, 9, 10, 11, 12, 13, 14, 15, 16, 17, 18, 19, 20, 21, 22], [0, 1, 2, 3, 4, 5, 6, 7, 8, 9, 10, 11, 12, 13, 14, 15, 16, 17, 18, 19, 20, 21, 22, 23], [0, 1, 2, 3, 4, 5, 6, 7, 8, 9, 10, 11, 12, 13, 14, 15, 16, 17, 18, 19, 20, 21, 22, 23, 24], [0, 1, 2, 3, 4, 5, 6, 7, 8, 9, 10, 11, 12, 13, 14, 15, 16, 17, 18, 19, 20, 21, 22, 23, 24, 25], [0, 1, 2, 3, 4, 5, 6, 7, 8, 9, 10, 11, 12, 13, 14, 15, 16, 17, 18, 19, 20, 21, 22, 23, 24, 25, 26], [0, 1, 2, 3, 4, 5, 6, 7, 8, 9, 10, 11, 12, 13, 14, 15, 16, 17, 18, 19, 20, 21, 22, 23, 24, 25, 26], [0, 1, 2, 3, 4, 5, 6, 7, 8, 9, 10, 11, 12, 13, 14, 15, 16, 17, 18, 19, 20, 21, 22, 23, 24, 25, 26, 27, 28], [0, 1, 2, 3, 4, 5, 6, 7, 8, 9, 10, 11, 12, 13, 14, 15, 16, 17, 18, 19, 20, 21, 22, 23, 24, 25, 26, 27, 28, 29], [0, 1, 2, 3, 4, 5, 6, 7, 8, 9, 10, 11, 12, 13, 14, 15, 16, 17, 18, 19, 20, 21, 22, 23, 24, 25, 26], [0, 1, 2, 3, 4, 5, 6, 7, 8, 9, 10, 11, 12, 13, 14, 15, 16, 17, 18, 19, 20, 21, 22, 23, 24, 25, 26], [0, 1, 2, 3, 4, 5, 6, 7, 8, 9, 10, 11, 12, 13, 14, 15, 16, 17, 18, 19, 20, 21, 22, 23, 24, 25, 26, 27, 28, 29, 30, 32], [0, 1, 2, 3, 4, 5, 6, 7, 8, 9, 10, 11, 12, 13, 14, 15, 16, 17, 18, 19, 20, 21, 22, 23, 24, 25, 26, 27, 28, 29, 30, 31, 32, 33], [0, 1, 2, 3, 4, 5, 6, 7, 8, 9, 10, 11, 12, 13, 14, 15, 16, 17, 18, 19, 20, 21, 22, 23, 24, 25, 26, 27, 28, 29, 30, 31, 32, 33, 34], [0, 1, 2, 3, 4, 5, 6, 7, 8, 9, 10, 11, 12, 13, 14, 15, 16, 17, 18, 19, 20, 21, 22, 23, 24, 25, 26, 27, 28, 29, 30, 31, 32, 33, 34, 35]] (cl_lt (by decide)) ?_
    refine HeadR.start (cl_lt (by decide)) ?_
    refine HeadR.det rfl (fun β hβ => (det_loadW59 rfl (List.Mem.head _))) ?_
    refine HeadR.det rfl (fun β hβ => (det_loadW35 rfl (List.Mem.tail _ (List.Mem.tail _ (List.Mem.head _))))) ?_
    refine HeadR.det rfl (fun β hβ => (det_call en37 rfl (fun w hb ho => PMul_ok (fun p hp => ho.look (List.mem_append_right _ hp))))) ?_
    refine HeadR.det rfl (fun β hβ => (det_loadW59 rfl (List.Mem.head _))) ?_
    refine HeadR.det rfl (fun β hβ => (det_loadW35 rfl (List.Mem.tail _ (List.Mem.head _)))) ?_
    refine HeadR.det rfl (fun β hβ => (det_call en37 rfl (fun w hb ho => PMul_ok (fun p hp => ho.look (List.mem_append_right _ hp))))) ?_
    refine HeadR.det rfl (fun β hβ => (det_call en39 rfl (fun w hb ho => PAdd_ok (fun p hp => ho.look (List.mem_append_right _ hp))))) ?_
    refine HeadR.det rfl (fun β hβ => (det_loadW59 rfl (List.Mem.head _))) ?_
    refine HeadR.det rfl (fun β hβ => (det_loadW35 rfl (List.Mem.tail _ (List.Mem.tail _ (List.Mem.head _))))) ?_
    refine HeadR.det rfl (fun β hβ => (det_loadW35 rfl (List.Mem.tail _ (List.Mem.head _)))) ?_
    refine HeadR.det rfl (fun β hβ => (det_call en28 rfl (fun w hb ho => Cu.RAdd_ok (fun p hp => ho.look (List.mem_append_right _ hp))))) ?_
    refine HeadR.det rfl (fun β hβ => (det_call en37 rfl (fun w hb ho => PMul_ok (fun p hp => ho.look (List.mem_append_right _ hp))))) ?_
    refine HeadR.det rfl (fun β hβ => (Det.to (det_neq59 rfl rfl) (congrArg Value.bool (nb hr.r1)))) ?_
    refine HeadR.det rfl (fun β hβ => (det_move rfl)) ?_
    refine HeadR.yes rfl rfl (fun _ _ => rfl) (fun β hβ => (det_loadW59 rfl (List.Mem.head _))) ?_
    refine HeadR.yes rfl rfl (fun _ _ => rfl) (fun β hβ => (det_loadW35 rfl (List.Mem.tail _ (List.Mem.tail _ (List.Mem.head _))))) ?_
    refine HeadR.yes rfl rfl (fun _ _ => rfl) (fun β hβ => (det_call en37 rfl (fun w hb ho => PMul_ok (fun p hp => ho.look (List.mem_append_right _ hp))))) ?_
    refine HeadR.yes rfl rfl (fun _ _ => rfl) (fun β hβ => (det_loadW35 rfl (List.Mem.tail _ (List.Mem.head _)))) ?_
    refine HeadR.yes rfl rfl (fun _ _ => rfl) (fun β hβ => (det_call en37 rfl (fun w hb ho => PMul_ok (fun p hp => ho.look (List.mem_append_right _ hp))))) ?_
    refine HeadR.yes rfl rfl (fun _ _ => rfl) (fun β hβ => (det_loadW59 rfl (List.Mem.head _))) ?_
    refine HeadR.yes rfl rfl (fun _ _ => rfl) (fun β hβ => (det_loadW35 rfl (List.Mem.tail _ (List.Mem.tail _ (List.Mem.head _))))) ?_
    refine HeadR.yes rfl rfl (fun _ _ => rfl) (fun β hβ => (det_loadW35 rfl (List.Mem.tail _ (List.Mem.head _)))) ?_
    refine HeadR.yes rfl rfl (fun _ _ => rfl) (fun β hβ => (det_call en30 rfl (fun w hb ho => Cu.RMul_ok (fun p hp => ho.look (List.mem_append_right _ hp))))) ?_
    refine HeadR.yes rfl rfl (fun _ _ => rfl) (fun β hβ => (det_call en37 rfl (fun w hb ho => PMul_ok (fun p hp => ho.look (List.mem_append_right _ hp))))) ?_
    refine HeadR.yes rfl rfl (fun _ _ => rfl) (fun β hβ => (Det.to (det_neq59 rfl rfl) (congrArg Value.bool (nb hr.r2)))) ?_
    refine HeadR.det rfl (fun β hβ => (det_pick rfl rfl)) ?_
    refine HeadR.det rfl (fun β hβ => (det_move rfl)) ?_
    refine HeadR.yes rfl rfl (fun _ _ => rfl) (fun β hβ => (det_loadW59 rfl (List.Mem.head _))) ?_
    refine HeadR.yes rfl rfl (fun _ _ => rfl) (fun β hβ => (det_loadW35 rfl (List.Mem.tail _ (List.Mem.tail _ (List.Mem.head _))))) ?_
    refine HeadR.yes rfl rfl (fun _ _ => rfl) (fun β hβ => (det_call en37 rfl (fun w hb ho => PMul_ok (fun p hp => ho.look (List.mem_append_right _ hp))))) ?_
    refine HeadR.yes rfl rfl (fun _ _ => rfl) (fun β hβ => (det_call en41 rfl (fun w hb ho => PNeg_ok (fun p hp => ho.look (List.mem_append_right _ hp))))) ?_
    refine HeadR.yes rfl rfl (fun _ _ => rfl) (fun β hβ => (det_loadW59 rfl (List.Mem.head _))) ?_
    refine HeadR.yes rfl rfl (fun _ _ => rfl) (fun β hβ => (det_loadW35 rfl (List.Mem.tail _ (List.Mem.tail _ (List.Mem.head _))))) ?_
    refine HeadR.yes rfl rfl (fun _ _ => rfl) (fun β hβ => (det_call en27 rfl (fun w hb ho => Cu.RNeg_ok (fun p hp => ho.look (List.mem_append_right _ hp))))) ?_
    refine HeadR.yes rfl rfl (fun _ _ => rfl) (fun β hβ => (det_call en37 rfl (fun w hb ho => PMul_ok (fun p hp => ho.look (List.mem_append_right _ hp))))) ?_
    refine HeadR.yes rfl rfl (fun _ _ => rfl) (fun β hβ => (Det.to (det_neq59 rfl rfl) (congrArg Value.bool (nb hr.r3)))) ?_
    refine HeadR.det rfl (fun β hβ => (det_pick rfl rfl)) ?_
    refine HeadR.done ⟨by kernel_rfl, fun β hβ => ?_⟩
    refine OpsW.norm (F' := ((24, _) :: (25, _) :: (26, _) :: (27, _) :: (28, _) :: (29, _) :: (30, _) :: (31, _) :: (32, _) :: (33, _) :: (34, _) :: (35, _) :: (36, _) :: (37, _) :: (38, _) :: (39, _) :: (40, _) :: (41, _) :: (42, _) :: (43, _) :: (44, _) :: (45, _) :: (46, _) :: (47, _) :: (48, _) :: (49, _) :: (50, _) :: (51, _) :: (52, _) :: (53, _) :: (54, _) :: (55, _) :: (56, _) :: (57, _) :: (58, _) :: (59, _) :: (60, _) :: (9, _) :: (8, _) :: (7, _) :: [])) (H' := [(_, _), (_, _), (_, _)]) rfl rfl ?_
    refine sNext ?_
    refine W.keep (F' := [(60, _), (9, _), (7, _)]) ⟨rfl, rfl, rfl, trivial⟩ ?_
    refine W.cond_false rfl ?_
    refine sSkip ?_
    refine sSeq ?_
    refine W.draw mixed 23 [[], [], [0, 1], [], [0, 1, 2, 3], [0, 1, 2, 3, 4], [0, 1, 2, 3, 4, 5], [0, 1, 2, 3, 4, 5], [0, 1, 2, 3, 4, 5, 6, 7], [0, 1, 2, 3, 4, 5], [0, 1, 2, 3, 4, 5, 6, 7, 8, 9], [0, 1, 2, 3, 4, 5, 6, 7, 8, 9, 10], [0, 1, 2, 3, 4, 5, 6, 7, 8, 9, 10, 11], [0, 1, 2, 3, 4, 5, 6, 7, 8, 9, 10, 11, 12], [0, 1, 2, 3, 4, 5, 6, 7, 8, 9, 10, 11, 12, 13], [0, 1, 2, 3, 4, 5, 6, 7, 8, 9, 10, 11, 12, 13, 14], [0, 1, 2, 3, 4, 5, 6, 7, 8, 9, 10, 11, 12, 13, 14, 15], [0, 1, 2, 3, 4, 5, 6, 7, 8, 9, 10, 11, 12, 13, 14, 15, 16], [0, 1, 2, 3, 4, 5, 6, 7, 8, 9, 10, 11, 12, 13, 14, 15, 16], [0, 1, 2, 3, 4, 5, 6, 7, 8, 9, 10, 11, 12, 13, 14, 15, 16, 17, 18], [0, 1, 2, 3, 4, 5, 6, 7, 8, 9, 10, 11, 12, 13, 14, 15, 16, 17, 18, 19], [0, 1, 2, 3, 4, 5, 6, 7, 8, 9, 10, 11, 12, 13, 14, 15, 16, 17, 18, 19, 20], [0, 1, 2, 3, 4, 5, 6, 7, 8, 9, 10, 11, 12, 13, 14, 15, 16, 17, 18, 19, 20, 21]] (cl_lt (by decide)) ?_
    refine HeadR.start (cl_lt (by decide)) ?_
    refine HeadR.det rfl (fun β hβ => (det_loadW59 rfl (List.Mem.head _))) ?_
    refine HeadR.det rfl (fun β hβ => (det_call en26 rfl (fun w hb ho => ROf_ok (n := 1) (by decide) (fun p hp => ho.look (List.mem_append_right _ hp))))) ?_
    refine HeadR.det rfl (fun β hβ => (det_call en37 rfl (fun w hb ho => PMul_ok (fun p hp => ho.look (List.mem_append_right _ hp))))) ?_
    refine HeadR.det rfl (fun β hβ => (det_loadW59 rfl (List.Mem.head _))) ?_
    refine HeadR.det rfl (fun β hβ => (Det.to (det_eql59 rfl rfl) (congrArg Value.bool (yb hr.r4)))) ?_
    refine HeadR.det rfl (fun β hβ => (det_move rfl)) ?_
    refine HeadR.yes rfl rfl (fun _ _ => rfl) (fun β hβ => (det_loadW59 rfl (List.Mem.head _))) ?_
    refine HeadR.yes rfl rfl (fun _ _ => rfl) (fun β hβ => (det_zero bz35)) ?_
    refine HeadR.yes rfl rfl (fun _ _ => rfl) (fun β hβ => (det_call en37 rfl (fun w hb ho => PMul_ok (p := gp lc) (x := 0) (fun p hp => ho.look (List.mem_append_right _ hp))))) ?_
    refine HeadR.yes rfl rfl (fun _ _ => rfl) (fun β hβ => (det_zero bz59)) ?_
    refine HeadR.yes rfl rfl (fun _ _ => rfl) (fun β hβ => (Det.to (det_eql59 rfl rfl) (congrArg Value.bool (yb hr.r5)))) ?_
    refine HeadR.det rfl (fun β hβ => (det_pick rfl rfl)) ?_
    refine HeadR.det rfl (fun β hβ => (det_move rfl)) ?_
    refine HeadR.yes rfl rfl (fun _ _ => rfl) (fun β hβ => (det_loadW59 rfl (List.Mem.head _))) ?_
    refine HeadR.yes rfl rfl (fun _ _ => rfl) (fun β hβ => (Det.to (det_call en43 rfl (fun w hb ho => PIn_ok (fun p hp => ho.look (List.mem_append_right _ hp)))) (congrArg Value.bool (hr.r6)))) ?_
    refine HeadR.det rfl (fun β hβ => (det_pick rfl rfl)) ?_
    refine HeadR.det rfl (fun β hβ => (det_move rfl)) ?_
    refine HeadR.yes rfl rfl (fun _ _ => rfl) (fun β hβ => (det_loadW59 rfl (List.Mem.head _))) ?_
    refine HeadR.yes rfl rfl (fun _ _ => rfl) (fun β hβ => (det_loadW35 rfl (List.Mem.tail _ (List.Mem.tail _ (List.Mem.head _))))) ?_
    refine HeadR.yes rfl rfl (fun _ _ => rfl) (fun β hβ => (det_call en37 rfl (fun w hb ho => PMul_ok (fun p hp => ho.look (List.mem_append_right _ hp))))) ?_
    refine HeadR.yes rfl rfl (fun _ _ => rfl) (fun β hβ => (Det.to (det_call en42 rfl (fun w hb ho => POn_ok (fun p hp => ho.look (List.mem_append_right _ hp)))) (congrArg Value.bool (hr.r7)))) ?_
    refine HeadR.det rfl (fun β hβ => (det_pick rfl rfl)) ?_
    refine HeadR.det rfl (fun β hβ => (det_assign rfl)) ?_
    refine HeadR.done ⟨by kernel_rfl, fun β hβ => ?_⟩
    refine OpsW.norm (F' := [(61, _), (62, _), (63, _), (64, _), (65, _), (66, _), (67, _), (68, _), (69, _), (70, _), (71, _), (72, _), (73, _), (74, _), (75, _), (76, _), (77, _), (78, _), (79, _), (80, _), (81, _), (82, _), (6, _), (60, _), (9, _), (7, _)]) (H' := [(_, _), (_, _), (_, _)]) rfl rfl ?_
    refine sNext ?_
    refine W.keep (F' := [(6, _)]) ⟨rfl, trivial⟩ ?_
    refine sRet ?_
    exact done1 Tryd.results11 (rv_tmp rfl) rfl

end Go.Cw

/- The second group's laws: G2Counts: the walk. Conditions: the rules that the points obey. -/
namespace Go.Cw
open Go Go.Vm Go.RowKit Go.Proofs Go.Cu
attribute [local irreducible] W OpsW Det Fresh New Writes Vm.Pure Makes Changes ExternTo BuildTo ZeroTo FieldTo IndexTo BinTo SliceTo Vm.Enters
set_option linter.unusedVariables false
set_option linter.unusedSimpArgs false
variable {T : Nat → TypeId × Nat × Nat}

def nadd (p : Pt) : Nat → Pt
  | 0 => (0, 0)
  | i + 1 => padd (nadd p i) p
structure CountsOk (k : Nat) (p q : Pt) : Prop where
  c1 : times [k] p = nadd p k
  c2 : times [0, 0, k] p = nadd p k
  c3 : times [k] q = nadd q k
  c4 : times [] q = (0, 0)
  c5 : pmul p (Zp.of k) = nadd p k
attribute [local irreducible] pmul times padd pneg psum wide gen sqrt2

theorem en44 : Vm.Enters Tryd.prog 44 := Vm.Enters.of fun _ _ => by kernel_rfl
set_option maxHeartbeats 4000000 in
set_option maxRecDepth 100000 in
theorem G2Counts_ok {G' : Hp} {va : Value} {la : List Nat} {n m : Nat} (ha : Bs G' va la) (hn : n < 256) (hm : m < 65536) (hh : HeadOk) (hr : CountsOk (n % 32) (gp la) (wild m)) {w : World} (hG : Blocks (G' ++ GH T) w)  : Vm.Pure Tryd.prog 12 #[va, .int .u8 (n : Nat), .int .u16 (m : Nat)] w (.bool true) := by
  obtain ⟨aa, ca, hva⟩ := ha.shape
  refine pure_of_W (n := 80) (args := [va, .int .u8 (n : Nat), .int .u16 (m : Nat)]) Tryd.func12 rfl Tryd.ntmps12 (Nat.le_of_ble_eq_true rfl) hG ?_
  refine sStart ?_
  refine sSeq ?_
  subst hva
  refine W.region ?_
  refine OpsW.det (det_assign rfl) rfl ?_
  refine sNext ?_
  refine W.keep (F' := [(0, _), (1, _), (2, _)]) ⟨rfl, rfl, rfl, trivial⟩ ?_
  refine sSeq ?_
  refine sSeq ?_
  refine W.region ?_
  refine OpsW.det (det_call en34 rfl (fun w hb ho => head_ok hh (fun p hp => ho.look (List.mem_append_right _ hp)))) rfl ?_
  refine OpsW.det (det_not rfl) rfl ?_
  refine sNext ?_
  refine W.keep (F' := [(15, _), (0, _), (1, _), (2, _)]) ⟨rfl, rfl, rfl, rfl, trivial⟩ ?_
  refine W.cond_false rfl ?_
  refine sSkip ?_
  refine sSeq ?_
  refine sSeq ?_
  refine W.region ?_
  refine OpsW.det (det_move rfl) rfl ?_
  refine OpsW.det (det_call en35 rfl (fun w hb ho => long_ok (fun p hp => ho.look (List.mem_append_right _ hp)))) rfl ?_
  refine sNext ?_
  refine W.keep (F' := [(17, _), (0, _), (1, _), (2, _)]) ⟨rfl, rfl, rfl, rfl, trivial⟩ ?_
  refine W.cond rfl (fun hc17 => ?_) (fun hc17 => ?_)
  · skip
    refine sSeq ?_
    refine W.region ?_
    refine OpsW.det (det_assign rfl) rfl ?_
    refine sNext ?_
    refine W.keep (F' := [(6, _)]) ⟨rfl, trivial⟩ ?_
    refine sRet ?_
    exact done1 Tryd.results12 (rv_tmp rfl) rfl
  · skip
    have hl := not_long hc17
    refine sSkip ?_
    refine sSeq ?_
    refine W.region ?_
    refine OpsW.det (det_call en36 rfl (fun w hb ho => Gen_ok (fun p hp => ho.look (List.mem_append_right _ hp)))) rfl ?_
    refine OpsW.det (det_move rfl) rfl ?_
    refine OpsW.det (det_call en38 rfl (fun w hb ho => scalar_ok (G' := G') ha (Nat.le_trans hl.1 (by decide)) ho.blocks)) rfl ?_
    refine OpsW.det (det_call en37 rfl (fun w hb ho => PMul_ok (fun p hp => ho.look (List.mem_append_right _ hp)))) rfl ?_
    refine OpsW.fresh (fr_alloc z59r) rfl fun b7 => ?_
    refine OpsW.storeW59 rfl rfl (Upd.here) ?_
    refine sNext ?_
    refine W.keep (F' := [(7, _), (1, _), (2, _)]) ⟨rfl, rfl, rfl, trivial⟩ ?_
    refine sSeq ?_
    refine W.region ?_
    refine OpsW.det (det_move rfl) rfl ?_
    refine OpsW.det (det_call en44 rfl (fun w hb ho => wild_ok hm (fun p hp => ho.look (List.mem_append_right _ hp)))) rfl ?_
    refine OpsW.fresh (fr_alloc z59r) rfl fun b8 => ?_
    refine OpsW.storeW59 rfl rfl (Upd.here) ?_
    refine sNext ?_
    refine W.keep (F' := [(8, _), (7, _), (1, _)]) ⟨rfl, rfl, rfl, trivial⟩ ?_
    refine sSeq ?_
    refine W.region ?_
    refine OpsW.det (det_zero bz59) rfl ?_
    refine OpsW.fresh (fr_alloc z59r) rfl fun b9 => ?_
    refine OpsW.storeW59 rfl rfl (Upd.here) ?_
    refine sNext ?_
    refine W.keep (F' := [(9, _), (8, _), (7, _), (1, _)]) ⟨rfl, rfl, rfl, rfl, trivial⟩ ?_
    refine sSeq ?_
    refine W.region ?_
    refine OpsW.det (det_zero bz59) rfl ?_
    refine OpsW.fresh (fr_alloc z59r) rfl fun b10 => ?_
    refine OpsW.storeW59 rfl rfl (Upd.here) ?_
    refine sNext ?_
    refine W.keep (F' := [(10, _), (9, _), (8, _), (7, _), (1, _)]) ⟨rfl, rfl, rfl, rfl, rfl, trivial⟩ ?_
    refine sSeq ?_
    refine sSeq ?_
    refine W.region ?_
    refine OpsW.det (det_assign rfl) rfl ?_
    refine sNext ?_
    refine sBlock ?_
    refine sLoop (σ := Nat) (fun i => [(11, .int .i64 (i : Nat)), (10, .pointer (some ⟨b10, 0, none⟩)), (9, .pointer (some ⟨b9, 0, none⟩)), (8, .pointer (some ⟨b8, 0, none⟩)), (7, .pointer (some ⟨b7, 0, none⟩)), (1, .int .u8 (n : Nat))]) (fun i => [(b10, blk (cellsP (nadd (wild m) i)) 59), (b9, blk (cellsP (nadd (gp la) i)) 59), (b8, blk (cellsP (wild m)) 59), (b7, blk (cellsP (gp la)) 59)]) (fun i => i ≤ n % 32) (fun i => n % 32 - i) 0 (Nat.zero_le _) ⟨rfl, rfl, rfl, rfl, rfl, rfl, trivial⟩ (List.Sublist.refl _) ?_
    intro i hi
    refine sSeq ?_
    refine sSeq ?_
    refine W.region ?_
    refine OpsW.det (det_move rfl) rfl ?_
    refine OpsW.det (det_move rfl) rfl ?_
    refine OpsW.det ((det_and (a := (n : Int)) (b := 31) rfl rfl).to (v := .int .u8 ((n % 32 : Nat) : Int)) (by rw [and31 hn])) rfl ?_
    refine OpsW.det ((det_conv u5 u3 rfl).to (v := .int .i64 ((n % 32 : Nat) : Int)) (by rw [wrap_i64 (by omega)])) rfl ?_
    refine OpsW.det (det_lss rfl rfl) rfl ?_
    refine sNext ?_
    refine W.keep (F' := [(30, _), (11, _), (10, _), (9, _), (8, _), (7, _), (1, _)]) ⟨rfl, rfl, rfl, rfl, rfl, rfl, rfl, trivial⟩ ?_
    refine W.cond rfl (fun hc30 => ?_) (fun hc30 => ?_)
    · skip
      have hlt : i < n % 32 := by have h := hc30; simp only [decide_eq_true_eq] at h; omega
      refine sSkip ?_
      refine sSeq ?_
      refine sBlock ?_
      refine sSeq ?_
      refine W.region ?_
      refine OpsW.det (det_loadW59 rfl (List.Mem.tail _ (List.Mem.head _))) rfl ?_
      refine OpsW.det (det_loadW59 rfl (List.Mem.tail _ (List.Mem.tail _ (List.Mem.tail _ (List.Mem.head _))))) rfl ?_
      refine OpsW.det (det_call en39 rfl (fun w hb ho => PAdd_ok (fun p hp => ho.look (List.mem_append_right _ hp)))) rfl ?_
      refine OpsW.storeW59 rfl rfl (Upd.there (Upd.here)) ?_
      refine sNext ?_
      refine W.keep (F' := [(11, _), (10, _), (9, _), (8, _), (7, _), (1, _)]) ⟨rfl, rfl, rfl, rfl, rfl, rfl, trivial⟩ ?_
      refine W.region ?_
      refine OpsW.det (det_loadW59 rfl (List.Mem.head _)) rfl ?_
      refine OpsW.det (det_loadW59 rfl (List.Mem.tail _ (List.Mem.tail _ (List.Mem.head _)))) rfl ?_
      refine OpsW.det (det_call en39 rfl (fun w hb ho => PAdd_ok (fun p hp => ho.look (List.mem_append_right _ hp)))) rfl ?_
      refine OpsW.storeW59 rfl rfl (Upd.here) ?_
      refine sLast ?_
      refine bNext ?_
      refine W.keep (F' := [(11, _), (10, _), (9, _), (8, _), (7, _), (1, _)]) ⟨rfl, rfl, rfl, rfl, rfl, rfl, trivial⟩ ?_
      refine W.region ?_
      refine OpsW.det (det_move rfl) rfl ?_
      refine OpsW.det (det_addN (b := 1) rfl rfl (by omega)) rfl ?_
      refine OpsW.det (det_assign rfl) rfl ?_
      refine sLast ?_
      exact rEnd (i + 1) hlt ⟨rfl, rfl, rfl, rfl, rfl, rfl, trivial⟩ (List.Sublist.refl _) (step_lt hlt)
    · skip
      have hi32 : i = n % 32 := by have h := hc30; simp only [decide_eq_false_iff_not] at h; omega
      subst hi32
      refine sExit ?_
      refine xLoop ?_
      refine xHere ?_
      refine W.keep (F' := [(10, _), (9, _), (8, _), (7, _), (1, _)]) ⟨rfl, rfl, rfl, rfl, rfl, trivial⟩ ?_
      refine sSeq ?_
      refine W.region ?_
      refine OpsW.det (det_move rfl) rfl ?_
      refine OpsW.det ((det_and (a := (n : Int)) (b := 31) rfl rfl).to (v := .int .u8 ((n % 32 : Nat) : Int)) (by rw [and31 hn])) rfl ?_
      refine OpsW.fresh (fr_buildSlice rfl (one_sl (k := ((n % 32 : Nat) : Int)))) rfl fun b41 => ?_
      refine OpsW.det (det_assign rfl) rfl ?_
      refine sNext ?_
      refine W.keep (F' := [(12, _), (10, _), (9, _), (8, _), (7, _), (1, _)]) ⟨rfl, rfl, rfl, rfl, rfl, rfl, trivial⟩ ?_
      refine sSeq ?_
      refine W.region ?_
      refine OpsW.det (det_move rfl) rfl ?_
      refine OpsW.det ((det_and (a := (n : Int)) (b := 31) rfl rfl).to (v := .int .u8 ((n % 32 : Nat) : Int)) (by rw [and31 hn])) rfl ?_
      refine OpsW.fresh (fr_buildSlice rfl (three_sl (k := ((n % 32 : Nat) : Int)))) rfl fun b44 => ?_
      refine OpsW.det (det_assign rfl) rfl ?_
      refine sNext ?_
      refine W.keep (F' := [(13, _), (12, _), (10, _), (9, _), (8, _), (7, _), (1, _)]) ⟨rfl, rfl, rfl, rfl, rfl, rfl, rfl, trivial⟩ ?_
      refine sSeq ?_
      refine W.draw mixed 36 [[], [], [0, 1], [], [0, 1, 2, 3], [0, 1, 2, 3, 4], [0, 1, 2, 3, 4, 5], [0, 1, 2, 3, 4, 5], [0, 1, 2, 3, 4, 5, 6, 7], [0, 1, 2, 3, 4, 5], [0, 1, 2, 3, 4, 5, 6, 7, 8, 9], [0, 1, 2, 3, 4, 5, 6, 7, 8, 9, 10], [0, 1, 2, 3, 4, 5, 6, 7, 8, 9, 10, 11], [0, 1, 2, 3, 4, 5, 6, 7, 8, 9, 10, 11, 12], [0, 1, 2, 3, 4, 5, 6, 7, 8, 9, 10, 11, 12], [0, 1, 2, 3, 4, 5, 6, 7, 8, 9, 10, 11, 12, 13, 14], [0, 1, 2, 3, 4, 5, 6, 7, 8, 9, 10, 11, 12], [0, 1, 2, 3, 4, 5, 6, 7, 8, 9, 10, 11, 12, 13, 14, 15, 16], [0, 1, 2, 3, 4, 5, 6, 7, 8, 9, 10, 11, 12, 13, 14, 15, 16, 17], [0, 1, 2, 3, 4, 5, 6, 7, 8, 9, 10, 11, 12, 13, 14, 15, 16, 17, 18], [0, 1, 2, 3, 4, 5, 6, 7, 8, 9, 10, 11, 12, 13, 14, 15, 16, 17, 18, 19], [0, 1, 2, 3, 4, 5, 6, 7, 8, 9, 10, 11, 12, 13, 14, 15, 16, 17, 18, 19, 20], [0, 1, 2, 3, 4, 5, 6, 7, 8, 9, 10, 11, 12, 13, 14, 15, 16, 17, 18, 19], [0, 1, 2, 3, 4, 5, 6, 7, 8, 9, 10, 11, 12, 13, 14, 15, 16, 17, 18, 19, 20, 21, 22], [0, 1, 2, 3, 4, 5, 6, 7, 8, 9, 10, 11, 12, 13, 14, 15, 16, 17, 18, 19, 20, 21, 22, 23], [0, 1, 2, 3, 4, 5, 6, 7, 8, 9, 10, 11, 12, 13, 14, 15, 16, 17, 18, 19, 20, 21, 22, 23, 24], [0, 1, 2, 3, 4, 5, 6, 7, 8, 9, 10, 11, 12, 13, 14, 15, 16, 17, 18, 19, 20, 21, 22, 23, 24, 25], [0, 1, 2, 3, 4, 5, 6, 7, 8, 9, 10, 11, 12, 13, 14, 15, 16, 17, 18, 19, 20, 21, 22, 23, 24, 25], [0, 1, 2, 3, 4, 5, 6, 7, 8, 9, 10, 11, 12, 13, 14, 15, 16, 17, 18, 19, 20, 21, 22, 23, 24, 25, 27], [0, 1, 2, 3, 4, 5, 6, 7, 8, 9, 10, 11, 12, 13, 14, 15, 16, 17, 18, 19, 20, 21, 22, 23, 24, 25, 27, 28], [0, 1, 2, 3, 4, 5, 6, 7, 8, 9, 10, 11, 12, 13, 14, 15, 16, 17, 18, 19, 20, 21, 22, 23, 24, 25, 27, 28, 29], [0, 1, 2, 3, 4, 5, 6, 7, 8, 9, 10, 11, 12, 13, 14, 15, 16, 17, 18, 19, 20, 21, 22, 23, 24, 25, 26, 27, 28, 29, 30], [0, 1, 2, 3, 4, 5, 6, 7, 8, 9, 10, 11, 12, 13, 14, 15, 16, 17, 18, 19, 20, 21, 22, 23, 24, 25], [0, 1, 2, 3, 4, 5, 6, 7, 8, 9, 10, 11, 12, 13, 14, 15, 16, 17, 18, 19, 20, 21, 22, 23, 24, 25, 26, 27, 28, 29, 30, 31, 32], [0, 1, 2, 3, 4, 5, 6, 7, 8, 9, 10, 11, 12, 13, 14, 15, 16, 17, 18, 19, 20, 21, 22, 23, 24, 25, 26, 27, 28, 29, 30, 31, 32, 33], [0, 1, 2, 3, 4, 5, 6, 7, 8, 9, 10, 11, 12, 13, 14, 15, 16, 17, 18, 19, 20, 21, 22, 23, 24, 25, 26, 27, 28, 29, 30, 31, 32, 33, 34]] (cl_lt (by decide)) ?_
      refine HeadR.start (cl_lt (by decide)) ?_
      refine HeadR.det rfl (fun β hβ => (det_loadW59 rfl (List.Mem.tail _ (List.Mem.tail _ (List.Mem.tail _ (List.Mem.tail _ (List.Mem.tail _ (List.Mem.head _)))))))) ?_
      refine HeadR.det rfl (fun β hβ => (det_move rfl)) ?_
      refine HeadR.det rfl (fun β hβ => (det_call en45 rfl (fun w hb ho => Times_ok (G' := [(b41, blk (bcells [n % 32] ++ []) 5)]) (l := [n % 32]) (p := gp la) (Bs.of (one_small (by omega)) (Nat.le_refl _)) (Nat.le_of_ble_eq_true rfl) (blocks_cons (hb _ (by repeat (first | exact List.Mem.head _ | apply List.Mem.tail))) (fun p hp => ho.look (List.mem_append_right _ hp)))))) ?_
      refine HeadR.det rfl (fun β hβ => (det_loadW59 rfl (List.Mem.tail _ (List.Mem.tail _ (List.Mem.tail _ (List.Mem.head _)))))) ?_
      refine HeadR.det rfl (fun β hβ => (Det.to (det_eql59 rfl rfl) (congrArg Value.bool (yb hr.c1)))) ?_
      refine HeadR.det rfl (fun β hβ => (det_move rfl)) ?_
      refine HeadR.yes rfl rfl (fun _ _ => rfl) (fun β hβ => (det_loadW59 rfl (List.Mem.tail _ (List.Mem.tail _ (List.Mem.tail _ (List.Mem.tail _ (List.Mem.tail _ (List.Mem.head _)))))))) ?_
      refine HeadR.yes rfl rfl (fun _ _ => rfl) (fun β hβ => (det_move rfl)) ?_
      refine HeadR.yes rfl rfl (fun _ _ => rfl) (fun β hβ => (det_call en45 rfl (fun w hb ho => Times_ok (G' := [(b44, blk (bcells [0, 0, n % 32] ++ []) 5)]) (l := [0, 0, n % 32]) (p := gp la) (Bs.of (three_small (by omega)) (Nat.le_refl _)) (Nat.le_of_ble_eq_true rfl) (blocks_cons (hb _ (by repeat (first | exact List.Mem.head _ | apply List.Mem.tail))) (fun p hp => ho.look (List.mem_append_right _ hp)))))) ?_
      refine HeadR.yes rfl rfl (fun _ _ => rfl) (fun β hβ => (det_loadW59 rfl (List.Mem.tail _ (List.Mem.tail _ (List.Mem.tail _ (List.Mem.head _)))))) ?_
      refine HeadR.yes rfl rfl (fun _ _ => rfl) (fun β hβ => (Det.to (det_eql59 rfl rfl) (congrArg Value.bool (yb hr.c2)))) ?_
      refine HeadR.det rfl (fun β hβ => (det_pick rfl rfl)) ?_
      refine HeadR.det rfl (fun β hβ => (det_move rfl)) ?_
      refine HeadR.yes rfl rfl (fun _ _ => rfl) (fun β hβ => (det_loadW59 rfl (List.Mem.tail _ (List.Mem.tail _ (List.Mem.tail _ (List.Mem.tail _ (List.Mem.head _))))))) ?_
      refine HeadR.yes rfl rfl (fun _ _ => rfl) (fun β hβ => (det_move rfl)) ?_
      refine HeadR.yes rfl rfl (fun _ _ => rfl) (fun β hβ => (det_call en45 rfl (fun w hb ho => Times_ok (G' := [(b41, blk (bcells [n % 32] ++ []) 5)]) (l := [n % 32]) (p := wild m) (Bs.of (one_small (by omega)) (Nat.le_refl _)) (Nat.le_of_ble_eq_true rfl) (blocks_cons (hb _ (by repeat (first | exact List.Mem.head _ | apply List.Mem.tail))) (fun p hp => ho.look (List.mem_append_right _ hp)))))) ?_
      refine HeadR.yes rfl rfl (fun _ _ => rfl) (fun β hβ => (det_loadW59 rfl (List.Mem.tail _ (List.Mem.tail _ (List.Mem.head _))))) ?_
      refine HeadR.yes rfl rfl (fun _ _ => rfl) (fun β hβ => (Det.to (det_eql59 rfl rfl) (congrArg Value.bool (yb hr.c3)))) ?_
      refine HeadR.det rfl (fun β hβ => (det_pick rfl rfl)) ?_
      refine HeadR.det rfl (fun β hβ => (det_move rfl)) ?_
      refine HeadR.yes rfl rfl (fun _ _ => rfl) (fun β hβ => (det_loadW59 rfl (List.Mem.tail _ (List.Mem.tail _ (List.Mem.tail _ (List.Mem.tail _ (List.Mem.head _))))))) ?_
      refine HeadR.yes rfl rfl (fun _ _ => rfl) (fun β hβ => (det_call en45 rfl (fun w hb ho => Times_ok (G' := []) (l := []) (p := wild m) nil_Bs (by decide) (fun p hp => ho.look (List.mem_append_right _ hp))))) ?_
      refine HeadR.yes rfl rfl (fun _ _ => rfl) (fun β hβ => (det_zero bz59)) ?_
      refine HeadR.yes rfl rfl (fun _ _ => rfl) (fun β hβ => (Det.to (det_eql59 rfl rfl) (congrArg Value.bool (yb hr.c4)))) ?_
      refine HeadR.det rfl (fun β hβ => (det_pick rfl rfl)) ?_
      refine HeadR.det rfl (fun β hβ => (det_move rfl)) ?_
      refine HeadR.yes rfl rfl (fun _ _ => rfl) (fun β hβ => (det_loadW59 rfl (List.Mem.tail _ (List.Mem.tail _ (List.Mem.tail _ (List.Mem.tail _ (List.Mem.tail _ (List.Mem.head _)))))))) ?_
      refine HeadR.yes rfl rfl (fun _ _ => rfl) (fun β hβ => (det_move rfl)) ?_
      refine HeadR.yes rfl rfl (fun _ _ => rfl) (fun β hβ => ((det_and (a := (n : Int)) (b := 31) rfl rfl).to (v := .int .u8 ((n % 32 : Nat) : Int)) (by rw [and31 hn]))) ?_
      refine HeadR.yes rfl rfl (fun _ _ => rfl) (fun β hβ => ((det_conv u5 u25 rfl).to (v := u64 (n % 32)) (by rw [wrap_u64 (by omega)]; rfl))) ?_
      refine HeadR.yes rfl rfl (fun _ _ => rfl) (fun β hβ => (det_call en26 rfl (fun w hb ho => ROf_ok (n := n % 32) (by omega) (fun p hp => ho.look (List.mem_append_right _ hp))))) ?_
      refine HeadR.yes rfl rfl (fun _ _ => rfl) (fun β hβ => (det_call en37 rfl (fun w hb ho => PMul_ok (fun p hp => ho.look (List.mem_append_right _ hp))))) ?_
      refine HeadR.yes rfl rfl (fun _ _ => rfl) (fun β hβ => (det_loadW59 rfl (List.Mem.tail _ (List.Mem.tail _ (List.Mem.tail _ (List.Mem.head _)))))) ?_
      refine HeadR.yes rfl rfl (fun _ _ => rfl) (fun β hβ => (Det.to (det_eql59 rfl rfl) (congrArg Value.bool (yb hr.c5)))) ?_
      refine HeadR.det rfl (fun β hβ => (det_pick rfl rfl)) ?_
      refine HeadR.det rfl (fun β hβ => (det_assign rfl)) ?_
      refine HeadR.done ⟨by kernel_rfl, fun β hβ => ?_⟩
      refine OpsW.norm (F' := ((45, _) :: (46, _) :: (47, _) :: (48, _) :: (49, _) :: (50, _) :: (51, _) :: (52, _) :: (53, _) :: (54, _) :: (55, _) :: (56, _) :: (57, _) :: (58, _) :: (59, _) :: (60, _) :: (61, _) :: (62, _) :: (63, _) :: (64, _) :: (65, _) :: (66, _) :: (67, _) :: (68, _) :: (69, _) :: (70, _) :: (71, _) :: (72, _) :: (73, _) :: (74, _) :: (75, _) :: (76, _) :: (77, _) :: (78, _) :: (79, _) :: (6, _) :: (13, _) :: (12, _) :: (10, _) :: (9, _) :: (8, _) :: (7, _) :: (1, _) :: [])) (H' := [(_, _), (_, _), (_, _), (_, _), (_, _), (_, _)]) rfl rfl ?_
      refine sNext ?_
      refine W.keep (F' := [(6, _)]) ⟨rfl, trivial⟩ ?_
      refine sRet ?_
      exact done1 Tryd.results12 (rv_tmp rfl) rfl

end Go.Cw

/- The second group's laws: what scalars, counts, lines and the group's own test come to. -/
namespace Go.Cw
open Go.Cu Go.Ec
open Go Go.Vm
set_option linter.unusedVariables false
set_option linter.unusedSimpArgs false
set_option linter.unusedSectionVars false
open CR
/-! ### The turn, and the group's test -/
def te : Fq2 := ⟨Zp.of 877076961050607968509681729531255177986764537961432449499635504522207616027455086505066378536590128544573588734230, Zp.of 877076961050607968509681729531255177986764537961432449499635504522207616027455086505066378536590128544573588734230⟩
theorem te_sq : te * te = turnx := by decide +kernel
theorem te_cube : te * te * te = turny := by decide +kernel
theorem te_ne : te ≠ 0 := by decide +kernel
theorem sig_conj : Sig conj2 := ⟨fun x y => Fq2.ext rfl (show (0 - (x.b + y.b)) = ((0 - x.b) + (0 - y.b)) from ring_id (fun vi_ => vget vi_ [x.b, y.b]) (.sub .zero (.add (.var 0) (.var 1))) (.add (.sub .zero (.var 0)) (.sub .zero (.var 1))) (by kernel_rfl)),
  fun x y => Fq2.ext (show ((x.a * y.a) - (x.b * y.b)) = ((x.a * y.a) - ((0 - x.b) * (0 - y.b))) from ring_id (fun vi_ => vget vi_ [x.a, x.b, y.a, y.b]) (.sub (.mul (.var 0) (.var 2)) (.mul (.var 1) (.var 3))) (.sub (.mul (.var 0) (.var 2)) (.mul (.sub .zero (.var 1)) (.sub .zero (.var 3)))) (by kernel_rfl)) (show (0 - ((((x.a + x.b) * (y.a + y.b)) - (x.a * y.a)) - (x.b * y.b))) = ((((x.a + (0 - x.b)) * (y.a + (0 - y.b))) - (x.a * y.a)) - ((0 - x.b) * (0 - y.b))) from ring_id (fun vi_ => vget vi_ [x.a, x.b, y.a, y.b]) (.sub .zero (.sub (.sub (.mul (.add (.var 0) (.var 1)) (.add (.var 2) (.var 3))) (.mul (.var 0) (.var 2))) (.mul (.var 1) (.var 3)))) (.sub (.sub (.mul (.add (.var 0) (.sub .zero (.var 1))) (.add (.var 2) (.sub .zero (.var 3)))) (.mul (.var 0) (.var 2))) (.mul (.sub .zero (.var 1)) (.sub .zero (.var 3)))) (by kernel_rfl)),
  fun x y h => by
    have h1 : (conj2 x).a = (conj2 y).a := congrArg (fun z : Fq2 => z.a) h
    have h2 : (conj2 x).b = (conj2 y).b := congrArg (fun z : Fq2 => z.b) h
    have h1 : x.a = y.a := h1
    have h2 : 0 - x.b = 0 - y.b := h2
    exact Fq2.ext h1 (eq_of_sub (Eq.trans (show (x.b - y.b) = ((-1) * ((0 - x.b) - (0 - y.b))) from ring_id (fun vi_ => vget vi_ [x.b, y.b]) (.sub (.var 0) (.var 1)) (.mul (.neg .one) (.sub (.sub .zero (.var 0)) (.sub .zero (.var 1)))) (by kernel_rfl)) (lz h2)))⟩
theorem te_keep : te * te * te * (te * te * te) * conj2 four = four := by decide +kernel
theorem tturn : Turn four conj2 te := ⟨sig_conj, te_ne, te_keep⟩
def psi (P : G2) : G2 := turnG tturn P
theorem psi_val (P : G2) : (psi P).1 = turnP P.1 := by
  show (te * te * conj2 P.1.1, te * te * te * conj2 P.1.2) = _
  rw [te_cube, te_sq, mul_comm turnx, mul_comm turny]; rfl
theorem inB_iff (P : G2) : inB P.1 = true ↔ psi P = -nmul sz P := by
  unfold inB
  rw [times_ok sizeL_small, pneg_ok, ← psi_val, decide_eq_true_iff]
  exact ⟨fun h => Gp.ext h, fun h => congrArg (fun x : G2 => x.1) h⟩
set_option maxRecDepth 100000 in
theorem psi_z : (gadd (glad gG.1 256 sz) (psi gG).1).2.2 = 0 := by
  show (gadd (glad gen 256 sz) (te * te * conj2 gen.1, te * te * te * conj2 gen.2)).2.2 = 0
  decide +kernel
theorem sz_lt2 : sz < 2 ^ 256 := by rw [sz_val]; exact of_decide_eq_true (by kernel_rfl)
theorem psi_gen : psi gG = -nmul sz gG := by
  obtain ⟨h1, h2⟩ := glad_ok gG 256 sz sz_lt2
  obtain ⟨h3, h4⟩ := step_add (psi gG) h1 h2
  have hz : (gadd (glad gG.1 256 sz) (psi gG).1).2.2 = 0 := psi_z
  have h5 : nmul sz gG + psi gG = 0 := by
    generalize gadd (glad gG.1 256 sz) (psi gG).1 = j at h4 hz
    exact Gp.ext (h4.symm.trans (if_pos hz))
  exact a_neg_eq h5
theorem psi_mul (n : Nat) : psi (nmul n gG) = -nmul sz (nmul n gG) := by
  show turnG tturn (nmul n gG) = _
  rw [turnG_nmul]
  show nmul n (psi gG) = _
  rw [psi_gen, nmul_neg, nmul_comm n]
theorem in_mul (n : Nat) : inB (nmul n gG).1 = true := (inB_iff _).2 (psi_mul n)
theorem gp_on (l : List Nat) : On four (gp l) := by rw [gp_ok]; exact (nmul (wide l).val gG).2

/-! ### Roots -/
theorem sqrtF_ok {x : Fq} (h : (sqrtF x).2 = true) : (sqrtF x).1 * (sqrtF x).1 = x := by
  unfold sqrtF at h ⊢
  split at h
  · rename_i hr; rw [if_pos hr]; exact hr
  · cases h
theorem root_sq (x : Fq) : root x * root x = x * pw x ((pp - 1) / 2) := by
  unfold root
  rw [← pw_add, show ppq + ppq = (pp - 1) / 2 + 1 from by decide +kernel, pw, mul_comm]
theorem half_pm {x : Fq} (hx : x ≠ 0) : pw x ((pp - 1) / 2) = 1 ∨ pw x ((pp - 1) / 2) = -1 := by
  have h := fermat prime_pp hx
  rw [show pp - 1 = 2 * ((pp - 1) / 2) from by decide +kernel, pw_two] at h
  generalize pw x ((pp - 1) / 2) = t at h
  by_cases h1 : t = 1
  · exact .inl h1
  · right
    apply Classical.byContradiction
    intro h2
    refine Fld.mul_ne (a := t - 1) (b := t + 1) (fun e => h1 (eq_of_sub e)) (fun e => h2 (eq_of_sub (Eq.trans (show (t - (-1)) = (1 * ((t + 1) - 0)) from ring_id (fun vi_ => vget vi_ [t]) (.sub (.var 0) (.neg .one)) (.mul .one (.sub (.add (.var 0) .one) .zero)) (by kernel_rfl)) (lz e)))) ?_
    exact (eq_of_sub (Eq.trans (show (((t - 1) * (t + 1)) - 0) = (1 * ((t * t) - 1)) from ring_id (fun vi_ => vget vi_ [t]) (.sub (.mul (.sub (.var 0) .one) (.add (.var 0) .one)) .zero) (.mul .one (.sub (.mul (.var 0) (.var 0)) .one)) (by kernel_rfl)) (lz h)))
theorem pw_neg_one : pw (-1 : Fq) ((pp - 1) / 2) = -1 := by
  obtain ⟨k, hk⟩ : ∃ k, (pp - 1) / 2 = 2 * k + 1 := ⟨(pp - 3) / 4, by decide +kernel⟩
  rw [hk, pw, pw_mul, show pw (-1 : Fq) 2 = 1 from by decide +kernel, one_pw, one_mul]
/-- Of a number and its negative one has a root. -/
theorem sqrtF_neg {x : Fq} (h : (sqrtF x).2 = false) : (sqrtF (0 - x)).1 * (sqrtF (0 - x)).1 = 0 - x := by
  have hr : root x * root x ≠ x := fun e => by
    unfold sqrtF at h
    rw [if_pos e] at h; cases h
  have hx : x ≠ 0 := by
    rintro rfl
    exact hr (by rw [root_sq, zero_mul'])
  have ht : pw x ((pp - 1) / 2) = -1 := (half_pm hx).resolve_left fun e => hr (by rw [root_sq, e, mul_one'])
  have hn : root (0 - x) * root (0 - x) = 0 - x := by
    rw [root_sq, show (0 - x : Fq) = -1 * x from (show (0 - x) = ((-1) * x) from ring_id (fun vi_ => vget vi_ [x]) (.sub .zero (.var 0)) (.mul (.neg .one) (.var 0)) (by kernel_rfl)), mul_pw, pw_neg_one, ht]
    exact (show (((-1) * x) * ((-1) * (-1))) = ((-1) * x) from ring_id (fun vi_ => vget vi_ [x]) (.mul (.mul (.neg .one) (.var 0)) (.mul (.neg .one) (.neg .one))) (.mul (.neg .one) (.var 0)) (by kernel_rfl))
  unfold sqrtF
  rw [if_pos hn]
  exact hn
theorem sq_a {r a b : Fq} (hr : r * r = a) (hb : b = 0) : (⟨r, 0⟩ * ⟨r, 0⟩ : Fq2) = ⟨a, b⟩ := by
  subst hb
  refine Fq2.ext ?_ ?_
  · show r * r - 0 * 0 = a
    rw [hr]; exact (show (a - (0 * 0)) = a from ring_id (fun vi_ => vget vi_ [a]) (.sub (.var 0) (.mul .zero .zero)) (.var 0) (by kernel_rfl))
  · show (r + 0) * (r + 0) - r * r - 0 * 0 = 0
    exact (show ((((r + 0) * (r + 0)) - (r * r)) - (0 * 0)) = 0 from ring_id (fun vi_ => vget vi_ [r]) (.sub (.sub (.mul (.add (.var 0) .zero) (.add (.var 0) .zero)) (.mul (.var 0) (.var 0))) (.mul .zero .zero)) .zero (by kernel_rfl))
theorem sq_b {r a b : Fq} (hr : r * r = 0 - a) (hb : b = 0) : (⟨0, r⟩ * ⟨0, r⟩ : Fq2) = ⟨a, b⟩ := by
  subst hb
  refine Fq2.ext ?_ ?_
  · show 0 * 0 - r * r = a
    rw [hr]; exact (show ((0 * 0) - (0 - a)) = a from ring_id (fun vi_ => vget vi_ [a]) (.sub (.mul .zero .zero) (.sub .zero (.var 0))) (.var 0) (by kernel_rfl))
  · show (0 + r) * (0 + r) - 0 * 0 - r * r = 0
    exact (show ((((0 + r) * (0 + r)) - (0 * 0)) - (r * r)) = 0 from ring_id (fun vi_ => vget vi_ [r]) (.sub (.sub (.mul (.add .zero (.var 0)) (.add .zero (.var 0))) (.mul .zero .zero)) (.mul (.var 0) (.var 0))) .zero (by kernel_rfl))
theorem sq_c {a b n h A v : Fq} (hh : h + h = 1) (hn : n * n = a * a + b * b) (hA : A * A = (a + n) * h) (hv : A * v = 1) : (⟨A, b * h * v⟩ * ⟨A, b * h * v⟩ : Fq2) = ⟨a, b⟩ := by
  refine Fq2.ext ?_ ?_
  · show A * A - b * h * v * (b * h * v) = a
    exact (eq_of_sub (Eq.trans (show (((A * A) - (((b * h) * v) * ((b * h) * v))) - a) = (((((((h * h) * v) * v) * ((n * n) - ((a * a) + (b * b)))) + ((((((n - a) * h) * v) * v) + 1) * ((A * A) - ((a + n) * h)))) + ((-(((n - a) * h) * ((A * v) + 1))) * ((A * v) - 1))) + (a * ((h + h) - 1))) from ring_id (fun vi_ => vget vi_ [a, b, n, h, A, v]) (.sub (.sub (.mul (.var 4) (.var 4)) (.mul (.mul (.mul (.var 1) (.var 3)) (.var 5)) (.mul (.mul (.var 1) (.var 3)) (.var 5)))) (.var 0)) (.add (.add (.add (.mul (.mul (.mul (.mul (.var 3) (.var 3)) (.var 5)) (.var 5)) (.sub (.mul (.var 2) (.var 2)) (.add (.mul (.var 0) (.var 0)) (.mul (.var 1) (.var 1))))) (.mul (.add (.mul (.mul (.mul (.sub (.var 2) (.var 0)) (.var 3)) (.var 5)) (.var 5)) .one) (.sub (.mul (.var 4) (.var 4)) (.mul (.add (.var 0) (.var 2)) (.var 3))))) (.mul (.neg (.mul (.mul (.sub (.var 2) (.var 0)) (.var 3)) (.add (.mul (.var 4) (.var 5)) .one))) (.sub (.mul (.var 4) (.var 5)) .one))) (.mul (.var 0) (.sub (.add (.var 3) (.var 3)) .one))) (by kernel_rfl)) (lz2 (lz2 (lz2 (lz hn) (lz hA)) (lz hv)) (lz hh))))
  · show (A + b * h * v) * (A + b * h * v) - A * A - b * h * v * (b * h * v) = b
    exact (eq_of_sub (Eq.trans (show (((((A + ((b * h) * v)) * (A + ((b * h) * v))) - (A * A)) - (((b * h) * v) * ((b * h) * v))) - b) = (((b * (h + h)) * ((A * v) - 1)) + (b * ((h + h) - 1))) from ring_id (fun vi_ => vget vi_ [b, h, A, v]) (.sub (.sub (.sub (.mul (.add (.var 2) (.mul (.mul (.var 0) (.var 1)) (.var 3))) (.add (.var 2) (.mul (.mul (.var 0) (.var 1)) (.var 3)))) (.mul (.var 2) (.var 2))) (.mul (.mul (.mul (.var 0) (.var 1)) (.var 3)) (.mul (.mul (.var 0) (.var 1)) (.var 3)))) (.var 0)) (.add (.mul (.mul (.var 0) (.add (.var 1) (.var 1))) (.sub (.mul (.var 2) (.var 3)) .one)) (.mul (.var 0) (.sub (.add (.var 1) (.var 1)) .one))) (by kernel_rfl)) (lz2 (lz hv) (lz hh))))
theorem s2from_ok {a b h : Fq} (hh : h + h = 1) : ∀ (f : Nat) (n : Fq), n * n = a * a + b * b → (s2from ⟨a, b⟩ h f n).2 = true → (s2from ⟨a, b⟩ h f n).1 * (s2from ⟨a, b⟩ h f n).1 = ⟨a, b⟩
  | 0, n, _, h2 => by cases h2
  | f + 1, n, hn, h2 => by
    by_cases hc : (sqrtF ((a + n) * h)).2 = true ∧ (sqrtF ((a + n) * h)).1 ≠ 0
    · have e : s2from ⟨a, b⟩ h (f + 1) n = (⟨(sqrtF ((a + n) * h)).1, b * h * Cu.inv (sqrtF ((a + n) * h)).1⟩, true) := if_pos hc
      rw [e]
      exact sq_c hh hn (sqrtF_ok hc.1) (Fld.mul_finv _ hc.2)
    · have e : s2from ⟨a, b⟩ h (f + 1) n = s2from ⟨a, b⟩ h f (0 - n) := if_neg hc
      rw [e] at h2 ⊢
      exact s2from_ok hh f (0 - n) (eq_of_sub (Eq.trans (show (((0 - n) * (0 - n)) - ((a * a) + (b * b))) = (1 * ((n * n) - ((a * a) + (b * b)))) from ring_id (fun vi_ => vget vi_ [a, b, n]) (.sub (.mul (.sub .zero (.var 2)) (.sub .zero (.var 2))) (.add (.mul (.var 0) (.var 0)) (.mul (.var 1) (.var 1)))) (.mul .one (.sub (.mul (.var 2) (.var 2)) (.add (.mul (.var 0) (.var 0)) (.mul (.var 1) (.var 1))))) (by kernel_rfl)) (lz hn))) h2
theorem two_inv : Cu.inv (Zp.of 2) + Cu.inv (Zp.of 2) = (1 : Fq) := by
  have h2 := Fld.mul_finv (Zp.of 2 : Fq) (by decide +kernel)
  have h2 : (Zp.of 2 : Fq) * Cu.inv (Zp.of 2) = 1 := h2
  rw [← h2, show (Zp.of 2 : Fq) = 1 + 1 from by decide +kernel]
  obtain ⟨k, hk⟩ : ∃ k : Fq, k = Cu.inv (1 + 1) := ⟨_, rfl⟩
  rw [← hk]
  exact (show (k + k) = ((1 + 1) * k) from ring_id (fun vi_ => vget vi_ [k]) (.add (.var 0) (.var 0)) (.mul (.add .one .one) (.var 0)) (by kernel_rfl))
theorem sqrt2_ok {x : Fq2} (h : (sqrt2 x).2 = true) : (sqrt2 x).1 * (sqrt2 x).1 = x := by
  obtain ⟨a, b⟩ := x
  by_cases hb : b = 0
  · by_cases h1 : (sqrtF a).2 = true
    · have e : sqrt2 ⟨a, b⟩ = (⟨(sqrtF a).1, 0⟩, true) := (if_pos hb).trans (if_pos h1)
      rw [e]
      exact sq_a (sqrtF_ok h1) hb
    · have e : sqrt2 ⟨a, b⟩ = (⟨0, (sqrtF (0 - a)).1⟩, true) := (if_pos hb).trans (if_neg h1)
      rw [e]
      exact sq_b (sqrtF_neg (by simpa using h1)) hb
  · by_cases h1 : (sqrtF (norm2 ⟨a, b⟩)).2 = true
    · have e : sqrt2 ⟨a, b⟩ = s2from ⟨a, b⟩ (Cu.inv (Zp.of 2)) 2 (sqrtF (norm2 ⟨a, b⟩)).1 := (if_neg hb).trans (if_pos h1)
      rw [e] at h ⊢
      exact s2from_ok two_inv 2 _ (sqrtF_ok h1) h
    · have e : sqrt2 ⟨a, b⟩ = (0, false) := (if_neg hb).trans (if_neg h1)
      rw [e] at h; cases h
/-! ### Scalars -/
theorem order_mul (n : Nat) : nmul rr (nmul n gG) = 0 := by rw [nmul_comm, gG_order, nmul_zero]
theorem scalarsOk (x y : Fs) (c : List Nat) : ScalarsOk x y (gp c) := by
  have hp := gp_ok c
  have hin := in_mul (wide c).val
  have hord := order_mul (wide c).val
  generalize nmul (wide c).val gG = P at *
  rw [hp]
  exact {
    r1 := by
      rw [pmul_ok, pmul_ok, pmul_ok, padd_ok, Zp.add_val, nmul_mod hord, nmul_add]
    r2 := by
      rw [pmul_ok, pmul_ok, pmul_ok, Zp.mul_val, nmul_mod hord, nmul_mul]
    r3 := by
      rw [pmul_ok, pmul_ok, pneg_ok, Zp.sub_val, Zp.zero_val, nmul_mod hord, Nat.zero_add]
      refine congrArg (fun z : G2 => z.1) (a_neg_eq ?_).symm
      rw [← nmul_add, show x.val + (rr - x.val) = rr by have := x.lt; omega]; exact hord
    r4 := by rw [pmul_ok, of_small (by decide), nmul_one]
    r5 := by rw [pmul_ok, Zp.zero_val]; rfl
    r6 := hin
    r7 := by rw [pmul_ok]; exact onB_ok (nmul x.val P).2 }

/-! ### Points that are as a rule not of the group -/
theorem wfrom_on : ∀ f k, On four (wfrom f k)
  | 0, _ => .inl rfl
  | f + 1, k => by
    unfold wfrom
    split
    · rename_i h
      have h1 : (sqrt2 (wcube k)).1 * (sqrt2 (wcube k)).1 = wcube k := sqrt2_ok h.1
      obtain ⟨y, hy⟩ : ∃ y, y = (sqrt2 (wcube k)).1 := ⟨_, rfl⟩
      rw [← hy] at h1 ⊢
      exact .inr (show y * y = small k 1 * small k 1 * small k 1 + four from h1)
    · exact wfrom_on f (k + 1)
def wG (n : Nat) : G2 := ⟨wild n, wfrom_on 200 n⟩

/-! ### Counts -/
theorem nadd_ok (P : G2) : ∀ k, nadd P.1 k = (nmul k P).1
  | 0 => rfl
  | k + 1 => by rw [nadd, nadd_ok P k, padd_ok, nmul]
theorem countsOk (k : Nat) (hk : k < 32) (P Q : G2) : CountsOk k P.1 Q.1 where
  c1 := by rw [times_ok (one_small (by omega)), nadd_ok, show beN [k] = k by simp [beN]]
  c2 := by rw [times_ok (three_small (by omega)), nadd_ok, show beN [0, 0, k] = k by simp [beN]]
  c3 := by rw [times_ok (one_small (by omega)), nadd_ok, show beN [k] = k by simp [beN]]
  c4 := times_ok (l := []) (fun c hc => by cases hc) Q
  c5 := by rw [pmul_ok, nadd_ok, of_small (Nat.lt_trans hk (by decide))]

attribute [local irreducible] wfrom wild
theorem wG_val (n : Nat) : (wG n).1 = wild n := rfl
theorem wild_on (n : Nat) : On four (wild n) := (wG_val n) ▸ (wG n).2
theorem countsOk_gp (n : Nat) (l : List Nat) (m : Nat) : CountsOk (n % 32) (gp l) (wild m) := by
  rw [gp_ok, ← wG_val]; exact countsOk _ (Nat.mod_lt _ (by decide)) _ (wG m)
theorem neg_on (P : G2) : On four (pneg P.1) := by rw [pneg_ok]; exact (-P).2
theorem on_neg {p : Pt} (h : On four p) : On four (pneg p) := (neg_on ⟨p, h⟩)
theorem on_zero : On four ((0, 0) : Pt) := Or.inl rfl
end Go.Cw

/- The second group's laws: G2Groups: the walk. Conditions: the rules that the points obey. -/
namespace Go.Cw
open Go Go.Vm Go.RowKit Go.Proofs Go.Cu
attribute [local irreducible] W OpsW Det Fresh New Writes Vm.Pure Makes Changes ExternTo BuildTo ZeroTo FieldTo IndexTo BinTo SliceTo Vm.Enters
set_option linter.unusedVariables false
set_option linter.unusedSimpArgs false
variable {T : Nat → TypeId × Nat × Nat}

structure GroupsOk (p q : Pt) : Prop where
  g1 : inB p = true
  g2 : inB q = decide (times rL q = (0, 0))
  g3 : onB q = true
  g4 : times rL p = (0, 0)
  g5 : inB (padd q p) = inB q
  g6 : onB (q.1, q.2 + q.2) = decide (q = (0, 0))
attribute [local irreducible] pmul times padd pneg psum wide gen sqrt2


set_option maxHeartbeats 4000000 in
set_option maxRecDepth 100000 in
theorem G2Groups_ok {G' : Hp} {va : Value} {la : List Nat} {n : Nat} (ha : Bs G' va la) (hn : n < 65536) (hh : HeadOk) (hr : GroupsOk (gp la) (wild n)) {w : World} (hG : Blocks (G' ++ GH T) w)  : Vm.Pure Tryd.prog 14 #[va, .int .u16 (n : Nat)] w (.bool true) := by
  obtain ⟨aa, ca, hva⟩ := ha.shape
  refine pure_of_W (n := 75) (args := [va, .int .u16 (n : Nat)]) Tryd.func14 rfl Tryd.ntmps14 (Nat.le_of_ble_eq_true rfl) hG ?_
  refine sStart ?_
  refine sSeq ?_
  subst hva
  refine W.region ?_
  refine OpsW.det (det_assign rfl) rfl ?_
  refine sNext ?_
  refine W.keep (F' := [(0, _), (1, _)]) ⟨rfl, rfl, trivial⟩ ?_
  refine sSeq ?_
  refine sSeq ?_
  refine W.region ?_
  refine OpsW.det (det_call en34 rfl (fun w hb ho => head_ok hh (fun p hp => ho.look (List.mem_append_right _ hp)))) rfl ?_
  refine OpsW.det (det_not rfl) rfl ?_
  refine sNext ?_
  refine W.keep (F' := [(10, _), (0, _), (1, _)]) ⟨rfl, rfl, rfl, trivial⟩ ?_
  refine W.cond_false rfl ?_
  refine sSkip ?_
  refine sSeq ?_
  refine sSeq ?_
  refine W.region ?_
  refine OpsW.det (det_move rfl) rfl ?_
  refine OpsW.det (det_call en35 rfl (fun w hb ho => long_ok (fun p hp => ho.look (List.mem_append_right _ hp)))) rfl ?_
  refine sNext ?_
  refine W.keep (F' := [(12, _), (0, _), (1, _)]) ⟨rfl, rfl, rfl, trivial⟩ ?_
  refine W.cond rfl (fun hc12 => ?_) (fun hc12 => ?_)
  · skip
    refine sSeq ?_
    refine W.region ?_
    refine OpsW.det (det_assign rfl) rfl ?_
    refine sNext ?_
    refine W.keep (F' := [(4, _)]) ⟨rfl, trivial⟩ ?_
    refine sRet ?_
    exact done1 Tryd.results14 (rv_tmp rfl) rfl
  · skip
    have hl := not_long hc12
    refine sSkip ?_
    refine sSeq ?_
    refine W.region ?_
    refine OpsW.det (det_call en36 rfl (fun w hb ho => Gen_ok (fun p hp => ho.look (List.mem_append_right _ hp)))) rfl ?_
    refine OpsW.det (det_move rfl) rfl ?_
    refine OpsW.det (det_call en38 rfl (fun w hb ho => scalar_ok (G' := G') ha (Nat.le_trans hl.1 (by decide)) ho.blocks)) rfl ?_
    refine OpsW.det (det_call en37 rfl (fun w hb ho => PMul_ok (fun p hp => ho.look (List.mem_append_right _ hp)))) rfl ?_
    refine OpsW.fresh (fr_alloc z59r) rfl fun b5 => ?_
    refine OpsW.storeW59 rfl rfl (Upd.here) ?_
    refine sNext ?_
    refine W.keep (F' := [(5, _), (1, _)]) ⟨rfl, rfl, trivial⟩ ?_
    refine sSeq ?_
    refine W.region ?_
    refine OpsW.det (det_move rfl) rfl ?_
    refine OpsW.det (det_call en44 rfl (fun w hb ho => wild_ok hn (fun p hp => ho.look (List.mem_append_right _ hp)))) rfl ?_
    refine OpsW.fresh (fr_alloc z59r) rfl fun b6 => ?_
    refine OpsW.storeW59 rfl rfl (Upd.here) ?_
    refine sNext ?_
    refine W.keep (F' := [(6, _), (5, _)]) ⟨rfl, rfl, trivial⟩ ?_
    refine sSeq ?_
    refine W.region ?_
    refine OpsW.det (det_call en26 rfl (fun w hb ho => ROf_ok (n := 1) (by decide) (fun p hp => ho.look (List.mem_append_right _ hp)))) rfl ?_
    refine OpsW.det (det_call en27 rfl (fun w hb ho => Cu.RNeg_ok (fun p hp => ho.look (List.mem_append_right _ hp)))) rfl ?_
    refine OpsW.det (det_call en32 rfl (fun w hb ho => Cu.RBytes_ok (fun p hp => ho.look (List.mem_append_right _ hp)))) rfl ?_
    refine OpsW.fresh (fr_alloc z52) rfl fun b7 => ?_
    refine OpsW.store sz52 rfl rfl rfl (rbytes_len _) (rbytes_one _) (Upd.here) (splice_52 _) ?_
    rw [rm_cells]
    refine sNext ?_
    refine W.keep (F' := [(7, _), (6, _), (5, _)]) ⟨rfl, rfl, rfl, trivial⟩ ?_
    refine sSeq ?_
    refine W.region ?_
    refine OpsW.det ((det_sliceArr (lo := none) (hi := none) (l := 0) (h := 32) u52 sz5 rfl rfl rfl (by decide) (by decide)).to (v := .slice (some ⟨b7, 0, none⟩) 32 32) rfl) rfl ?_
    refine OpsW.det (det_assign rfl) rfl ?_
    refine sNext ?_
    refine W.keep (F' := [(8, _), (6, _), (5, _)]) ⟨rfl, rfl, rfl, trivial⟩ ?_
    refine sSeq ?_
    refine W.region ?_
    refine OpsW.det (det_move rfl) rfl ?_
    refine OpsW.det (det_indexAddr_sl u22 sz5 rfl rfl ⟨by decide, by decide⟩) rfl ?_
    refine OpsW.det (det_loadC tc5 rfl (List.Mem.head _) rL_at) rfl ?_
    refine OpsW.det ((det_add (a := 0) (b := 1) rfl rfl).to (v := .int .u8 1) rfl) rfl ?_
    refine OpsW.det (det_indexAddr_sl u22 sz5 rfl rfl ⟨by decide, by decide⟩) rfl ?_
    refine OpsW.store sz5 rfl rfl rfl rfl rfl (Upd.here) rL_put ?_
    refine sNext ?_
    refine W.keep (F' := [(8, _), (6, _), (5, _)]) ⟨rfl, rfl, rfl, trivial⟩ ?_
    refine sSeq ?_
    refine sSeq ?_
    refine W.draw mixed 25 [[], [0], [0, 1], [0, 1, 2], [0, 1, 2, 3], [0, 1, 2, 3, 4], [0, 1, 2, 3], [0, 1, 2, 3], [0, 1, 2, 3, 4, 5, 6, 7], [0, 1, 2, 3], [0, 1, 2, 3, 4, 5, 6, 7, 8, 9], [0, 1, 2, 3, 4, 5, 6, 7, 8, 9, 10], [0, 1, 2, 3, 4, 5, 6, 7, 8, 9, 10, 11], [0, 1, 2, 3, 4, 5, 6, 7, 8, 9, 10, 11, 12], [0, 1, 2, 3, 4, 5, 6, 7, 8, 9, 10, 11, 12, 13], [0, 1, 2, 3, 4, 5, 6, 7, 8, 9, 10, 11, 12, 13, 14], [0, 1, 2, 3, 4, 5, 6, 7, 8, 9, 10, 11, 12, 13, 14, 15], [0, 1, 2, 3, 4, 5, 6, 7, 8, 9, 10, 11, 12, 13, 14, 15, 16], [0, 1, 2, 3, 4, 5, 6, 7, 8, 9, 10, 11, 12, 13, 14, 15, 16, 17], [0, 1, 2, 3, 4, 5, 6, 7, 8, 9, 10, 11, 12, 13, 14, 15, 16, 17, 18], [0, 1, 2, 3, 4, 5, 6, 7, 8, 9, 10, 11, 12, 13, 14, 15, 16, 17, 18], [0, 1, 2, 3, 4, 5, 6, 7, 8, 9, 10, 11, 12, 13, 14, 15, 16, 17, 18, 19, 20], [0, 1, 2, 3, 4, 5, 6, 7, 8, 9, 10, 11, 12, 13, 14, 15, 16, 17, 18], [0, 1, 2, 3, 4, 5, 6, 7, 8, 9, 10, 11, 12, 13, 14, 15, 16, 17, 18, 19, 20, 21, 22], [0, 1, 2, 3, 4, 5, 6, 7, 8, 9, 10, 11, 12, 13, 14, 15, 16, 17, 18, 19, 20, 21, 22, 23]] (cl_lt (by decide)) ?_
    refine HeadR.start (cl_lt (by decide)) ?_
    refine HeadR.det rfl (fun β hβ => (det_loadW59 rfl (List.Mem.tail _ (List.Mem.tail _ (List.Mem.head _))))) ?_
    refine HeadR.det rfl (fun β hβ => (Det.to (det_call en43 rfl (fun w hb ho => PIn_ok (fun p hp => ho.look (List.mem_append_right _ hp)))) (congrArg Value.bool (hr.g1)))) ?_
    refine HeadR.det rfl (fun β hβ => (det_not rfl)) ?_
    refine HeadR.det rfl (fun β hβ => (det_move rfl)) ?_
    refine HeadR.yes rfl rfl (fun _ _ => rfl) (fun β hβ => (det_loadW59 rfl (List.Mem.tail _ (List.Mem.head _)))) ?_
    refine HeadR.yes rfl rfl (fun _ _ => rfl) (fun β hβ => (det_call en43 rfl (fun w hb ho => PIn_ok (fun p hp => ho.look (List.mem_append_right _ hp))))) ?_
    refine HeadR.yes rfl rfl (fun _ _ => rfl) (fun β hβ => (det_loadW59 rfl (List.Mem.tail _ (List.Mem.head _)))) ?_
    refine HeadR.yes rfl rfl (fun _ _ => rfl) (fun β hβ => (det_move rfl)) ?_
    refine HeadR.yes rfl rfl (fun _ _ => rfl) (fun β hβ => (det_call en45 rfl (fun w hb ho => Times_ok (G' := [(b7, blk (bcells rL) 52)]) (l := rL) (p := wild n) rL_Bs (by decide) (blocks_cons (hb _ (by repeat (first | exact List.Mem.head _ | apply List.Mem.tail))) (fun p hp => ho.look (List.mem_append_right _ hp)))))) ?_
    refine HeadR.yes rfl rfl (fun _ _ => rfl) (fun β hβ => (det_zero bz59)) ?_
    refine HeadR.yes rfl rfl (fun _ _ => rfl) (fun β hβ => (det_eql59 rfl rfl)) ?_
    refine HeadR.yes rfl rfl (fun _ _ => rfl) (fun β hβ => (Det.to (det_neqb u4 rfl rfl) (congrArg Value.bool (ne_same hr.g2)))) ?_
    refine HeadR.det rfl (fun β hβ => (det_pick rfl rfl)) ?_
    refine HeadR.det rfl (fun β hβ => (det_move rfl)) ?_
    refine HeadR.yes rfl rfl (fun _ _ => rfl) (fun β hβ => (det_loadW59 rfl (List.Mem.tail _ (List.Mem.head _)))) ?_
    refine HeadR.yes rfl rfl (fun _ _ => rfl) (fun β hβ => (Det.to (det_call en42 rfl (fun w hb ho => POn_ok (fun p hp => ho.look (List.mem_append_right _ hp)))) (congrArg Value.bool (hr.g3)))) ?_
    refine HeadR.yes rfl rfl (fun _ _ => rfl) (fun β hβ => (det_not rfl)) ?_
    refine HeadR.det rfl (fun β hβ => (det_pick rfl rfl)) ?_
    refine HeadR.det rfl (fun β hβ => (det_move rfl)) ?_
    refine HeadR.yes rfl rfl (fun _ _ => rfl) (fun β hβ => (det_loadW59 rfl (List.Mem.tail _ (List.Mem.tail _ (List.Mem.head _))))) ?_
    refine HeadR.yes rfl rfl (fun _ _ => rfl) (fun β hβ => (det_move rfl)) ?_
    refine HeadR.yes rfl rfl (fun _ _ => rfl) (fun β hβ => (det_call en45 rfl (fun w hb ho => Times_ok (G' := [(b7, blk (bcells rL) 52)]) (l := rL) (p := gp la) rL_Bs (by decide) (blocks_cons (hb _ (by repeat (first | exact List.Mem.head _ | apply List.Mem.tail))) (fun p hp => ho.look (List.mem_append_right _ hp)))))) ?_
    refine HeadR.yes rfl rfl (fun _ _ => rfl) (fun β hβ => (det_zero bz59)) ?_
    refine HeadR.yes rfl rfl (fun _ _ => rfl) (fun β hβ => (Det.to (det_neq59 rfl rfl) (congrArg Value.bool (nb hr.g4)))) ?_
    refine HeadR.det rfl (fun β hβ => (det_pick rfl rfl)) ?_
    refine HeadR.done ⟨by kernel_rfl, fun β hβ => ?_⟩
    refine OpsW.norm (F' := [(28, _), (29, _), (30, _), (31, _), (32, _), (33, _), (34, _), (35, _), (36, _), (37, _), (38, _), (39, _), (40, _), (41, _), (42, _), (43, _), (44, _), (45, _), (46, _), (47, _), (48, _), (49, _), (50, _), (51, _), (52, _), (8, _), (6, _), (5, _)]) (H' := [(_, _), (_, _), (_, _)]) rfl rfl ?_
    refine sNext ?_
    refine W.keep (F' := [(52, _), (6, _), (5, _)]) ⟨rfl, rfl, rfl, trivial⟩ ?_
    refine W.cond_false rfl ?_
    refine sSkip ?_
    refine sSeq ?_
    refine W.draw mixed 23 [[], [], [0, 1], [0, 1, 2], [], [0, 1, 2, 3, 4], [0, 1, 2, 3, 4, 5], [0, 1, 2, 3, 4, 5, 6], [0, 1, 2, 3, 4, 5, 6, 7], [0, 1, 2, 3, 4, 5, 6, 7, 8], [0, 1, 2, 3, 4, 5, 6, 7], [0, 1, 2, 3, 4, 5, 6, 7, 10], [0, 1, 2, 3, 4, 5, 6, 7], [0, 1, 2, 3, 4, 5, 6, 7, 12], [0, 1, 2, 3, 4, 5, 6, 7, 10, 11, 12, 13], [0, 1, 2, 3, 4, 5, 6, 7, 8, 9, 10, 11, 12, 13, 14], [0, 1, 2, 3, 4, 5, 6, 7, 8, 9, 10, 11, 12, 13, 14, 15], [0, 1, 2, 3, 4, 5, 6, 7], [0, 1, 2, 3, 4, 5, 6, 7], [0, 1, 2, 3, 4, 5, 6, 7, 17, 18], [0, 1, 2, 3, 4, 5, 6, 7, 8, 9, 10, 11, 12, 13, 14, 15, 16, 17, 18, 19], [0, 1, 2, 3, 4, 5, 6, 7, 8, 9, 10, 11, 12, 13, 14, 15, 16, 17, 18, 19, 20], [0, 1, 2, 3, 4, 5, 6, 7, 8, 9, 10, 11, 12, 13, 14, 15, 16, 17, 18, 19, 20, 21]] (cl_lt (by decide)) ?_
    refine HeadR.start (cl_lt (by decide)) ?_
    refine HeadR.det rfl (fun β hβ => (det_loadW59 rfl (List.Mem.tail _ (List.Mem.head _)))) ?_
    refine HeadR.det rfl (fun β hβ => (det_loadW59 rfl (List.Mem.tail _ (List.Mem.tail _ (List.Mem.head _))))) ?_
    refine HeadR.det rfl (fun β hβ => (det_call en39 rfl (fun w hb ho => PAdd_ok (fun p hp => ho.look (List.mem_append_right _ hp))))) ?_
    refine HeadR.det rfl (fun β hβ => (det_call en43 rfl (fun w hb ho => PIn_ok (fun p hp => ho.look (List.mem_append_right _ hp))))) ?_
    refine HeadR.det rfl (fun β hβ => (det_loadW59 rfl (List.Mem.tail _ (List.Mem.head _)))) ?_
    refine HeadR.det rfl (fun β hβ => (det_call en43 rfl (fun w hb ho => PIn_ok (fun p hp => ho.look (List.mem_append_right _ hp))))) ?_
    refine HeadR.det rfl (fun β hβ => (Det.to (det_eqlb u4 rfl rfl) (congrArg Value.bool (eq_same hr.g5)))) ?_
    refine HeadR.det rfl (fun β hβ => (det_move rfl)) ?_
    refine HeadR.yes rfl rfl (fun _ _ => rfl) (fun β hβ => (det_fieldAddr fl59_0 rfl)) ?_
    refine HeadR.yes rfl rfl (fun _ _ => rfl) (fun β hβ => (det_loadA ty57 rfl (List.Mem.tail _ (List.Mem.head _)) rfl)) ?_
    refine HeadR.yes rfl rfl (fun _ _ => rfl) (fun β hβ => (det_fieldAddr fl59_1 rfl)) ?_
    refine HeadR.yes rfl rfl (fun _ _ => rfl) (fun β hβ => (det_loadA ty57 rfl (List.Mem.tail _ (List.Mem.head _)) rfl)) ?_
    refine HeadR.yes rfl rfl (fun _ _ => rfl) (fun β hβ => (det_fieldAddr fl59_1 rfl)) ?_
    refine HeadR.yes rfl rfl (fun _ _ => rfl) (fun β hβ => (det_loadA ty57 rfl (List.Mem.tail _ (List.Mem.head _)) rfl)) ?_
    refine HeadR.yes rfl rfl (fun _ _ => rfl) (fun β hβ => (det_call en47 rfl (fun w hb ho => Add_ok (fun p hp => ho.look (List.mem_append_right _ hp))))) ?_
    refine HeadR.yes rfl rfl (fun _ _ => rfl) (fun β hβ => (det_build rfl bld59)) ?_
    refine HeadR.yes rfl rfl (fun _ _ => rfl) (fun β hβ => (det_call en42 rfl (fun w hb ho => POn_ok (fun p hp => ho.look (List.mem_append_right _ hp))))) ?_
    refine HeadR.yes rfl rfl (fun _ _ => rfl) (fun β hβ => (det_loadW59 rfl (List.Mem.tail _ (List.Mem.head _)))) ?_
    refine HeadR.yes rfl rfl (fun _ _ => rfl) (fun β hβ => (det_zero bz59)) ?_
    refine HeadR.yes rfl rfl (fun _ _ => rfl) (fun β hβ => (det_eql59 rfl rfl)) ?_
    refine HeadR.yes rfl rfl (fun _ _ => rfl) (fun β hβ => (Det.to (det_eqlb u4 rfl rfl) (congrArg Value.bool (eq_same hr.g6)))) ?_
    refine HeadR.det rfl (fun β hβ => (det_pick rfl rfl)) ?_
    refine HeadR.det rfl (fun β hβ => (det_assign rfl)) ?_
    refine HeadR.done ⟨by kernel_rfl, fun β hβ => ?_⟩
    refine OpsW.norm (F' := [(53, _), (54, _), (55, _), (56, _), (57, _), (58, _), (59, _), (60, _), (61, _), (62, _), (63, _), (64, _), (65, _), (66, _), (67, _), (68, _), (69, _), (70, _), (71, _), (72, _), (73, _), (74, _), (4, _), (52, _), (6, _), (5, _)]) (H' := [(_, _), (_, _), (_, _)]) rfl rfl ?_
    refine sNext ?_
    refine W.keep (F' := [(4, _)]) ⟨rfl, trivial⟩ ?_
    refine sRet ?_
    exact done1 Tryd.results14 (rv_tmp rfl) rfl

end Go.Cw

/- The second group: of the curve's points just those are in the group that come to nought when taken r times. -/
namespace Go.Cw
open Go.Cu Go.Ec
open Go Go.Vm
set_option linter.unusedVariables false
set_option linter.unusedSimpArgs false
set_option linter.unusedSectionVars false
open CR

/-- Three points with one y lie on a line. -/
theorem line_three {α : Type} [Fld α] [DecidableEq α] {B : α} [Gd B] {p : α × α} {t : α} (ha : Aff B p) (ht : t * t + t + 1 = 0) (h1 : t * t - 1 ≠ 0) : cadd (p.1 * t * t, p.2) p = (p.1 * t, 0 - p.2) := by
  obtain ⟨x, y⟩ := p
  have h0 : y * y = x * x * x + B := ha
  have hq : Aff B (x * t * t, y) := by
    show y * y = x * t * t * (x * t * t) * (x * t * t) + B
    exact (eq_of_sub (Eq.trans (show ((y * y) - (((((x * t) * t) * ((x * t) * t)) * ((x * t) * t)) + B)) = ((1 * ((y * y) - (((x * x) * x) + B))) + ((0 - ((((x * x) * x) * (t - 1)) * (((t * t) * t) + 1))) * ((((t * t) + t) + 1) - 0))) from ring_id (fun vi_ => vget vi_ [x, y, t, B]) (.sub (.mul (.var 1) (.var 1)) (.add (.mul (.mul (.mul (.mul (.var 0) (.var 2)) (.var 2)) (.mul (.mul (.var 0) (.var 2)) (.var 2))) (.mul (.mul (.var 0) (.var 2)) (.var 2))) (.var 3))) (.add (.mul .one (.sub (.mul (.var 1) (.var 1)) (.add (.mul (.mul (.var 0) (.var 0)) (.var 0)) (.var 3)))) (.mul (.sub .zero (.mul (.mul (.mul (.mul (.var 0) (.var 0)) (.var 0)) (.sub (.var 2) .one)) (.add (.mul (.mul (.var 2) (.var 2)) (.var 2)) .one))) (.sub (.add (.add (.mul (.var 2) (.var 2)) (.var 2)) .one) .zero))) (by kernel_rfl)) (lz2 (lz h0) (lz ht))))
  have hline : ¬ (x * t * t = x ∧ y + y = 0) := by
    rintro ⟨e1, e2⟩
    have hy : y = 0 := Classical.byContradiction fun hy => half B hy e2
    have hx : x = 0 := Classical.byContradiction fun hx => Fld.mul_ne hx h1 (eq_of_sub (Eq.trans (show ((x * ((t * t) - 1)) - 0) = (1 * (((x * t) * t) - x)) from ring_id (fun vi_ => vget vi_ [x, t]) (.sub (.mul (.var 0) (.sub (.mul (.var 1) (.var 1)) .one)) .zero) (.mul .one (.sub (.mul (.mul (.var 0) (.var 1)) (.var 1)) (.var 0))) (by kernel_rfl)) (lz e1)))
    exact ha.ne (Prod.ext hx hy)
  have hl : Ln 0 (x * t * t, y) (x, y) := ⟨(show y = (y + (0 * (x - ((x * t) * t)))) from ring_id (fun vi_ => vget vi_ [x, y, t]) (.var 1) (.add (.var 1) (.mul .zero (.sub (.var 0) (.mul (.mul (.var 0) (.var 2)) (.var 2))))) (by kernel_rfl)),
    (eq_of_sub (Eq.trans (show ((((((x * t) * t) * ((x * t) * t)) + (((x * t) * t) * x)) + (x * x)) - (0 * ((y + y) + (0 * (x - ((x * t) * t)))))) = (((x * x) * (((t * t) - t) + 1)) * ((((t * t) + t) + 1) - 0)) from ring_id (fun vi_ => vget vi_ [x, y, t]) (.sub (.add (.add (.mul (.mul (.mul (.var 0) (.var 2)) (.var 2)) (.mul (.mul (.var 0) (.var 2)) (.var 2))) (.mul (.mul (.mul (.var 0) (.var 2)) (.var 2)) (.var 0))) (.mul (.var 0) (.var 0))) (.mul .zero (.add (.add (.var 1) (.var 1)) (.mul .zero (.sub (.var 0) (.mul (.mul (.var 0) (.var 2)) (.var 2))))))) (.mul (.mul (.mul (.var 0) (.var 0)) (.add (.sub (.mul (.var 2) (.var 2)) (.var 2)) .one)) (.sub (.add (.add (.mul (.var 2) (.var 2)) (.var 2)) .one) .zero)) (by kernel_rfl)) (lz ht)))⟩
  show cadd (x * t * t, y) (x, y) = (x * t, 0 - y)
  rw [cadd_line hq ha hline hl]
  exact Prod.ext (eq_of_sub (Eq.trans (show ((((0 * 0) - ((x * t) * t)) - x) - (x * t)) = ((0 - x) * ((((t * t) + t) + 1) - 0)) from ring_id (fun vi_ => vget vi_ [x, t]) (.sub (.sub (.sub (.mul .zero .zero) (.mul (.mul (.var 0) (.var 1)) (.var 1))) (.var 0)) (.mul (.var 0) (.var 1))) (.mul (.sub .zero (.var 0)) (.sub (.add (.add (.mul (.var 1) (.var 1)) (.var 1)) .one) .zero)) (by kernel_rfl)) (lz ht))) (show ((0 * (((x * t) * t) - (((0 * 0) - ((x * t) * t)) - x))) - y) = (0 - y) from ring_id (fun vi_ => vget vi_ [x, y, t]) (.sub (.mul .zero (.sub (.mul (.mul (.var 0) (.var 2)) (.var 2)) (.sub (.sub (.mul .zero .zero) (.mul (.mul (.var 0) (.var 2)) (.var 2))) (.var 0)))) (.var 1)) (.sub .zero (.var 1)) (by kernel_rfl))
/-! ### The turn: of order twelve -/
def om : Fq2 := conj2 turnx * turnx
theorem om_sq : om * om + om + 1 = 0 := by decide +kernel
theorem om_one : om * om - 1 ≠ 0 := by decide +kernel
theorem om_ne : om ≠ 0 := by decide +kernel
theorem turny_neg : conj2 turny * turny = 0 - 1 := by decide +kernel
theorem conj_conj (x : Fq2) : conj2 (conj2 x) = x := Fq2.ext rfl (show (0 - (0 - x.b)) = x.b from ring_id (fun vi_ => vget vi_ [x.b]) (.sub .zero (.sub .zero (.var 0))) (.var 0) (by kernel_rfl))
theorem psi_two (P : G2) : (psi (psi P)).1 = (P.1.1 * om, 0 - P.1.2) := by
  rw [psi_val, psi_val]
  unfold turnP
  refine Prod.ext ?_ ?_
  · show conj2 (conj2 P.1.1 * turnx) * turnx = P.1.1 * (conj2 turnx * turnx)
    rw [sig_conj.mul, conj_conj]
    exact (show ((P.1.1 * ((conj2 turnx))) * turnx) = (P.1.1 * (((conj2 turnx)) * turnx)) from ring_id (fun vi_ => vget vi_ [P.1.1, (conj2 turnx), turnx]) (.mul (.mul (.var 0) (.var 1)) (.var 2)) (.mul (.var 0) (.mul (.var 1) (.var 2))) (by kernel_rfl))
  · show conj2 (conj2 P.1.2 * turny) * turny = 0 - P.1.2
    rw [sig_conj.mul, conj_conj]
    have h := turny_neg
    exact (eq_of_sub (Eq.trans (show (((P.1.2 * ((conj2 turny))) * turny) - (0 - P.1.2)) = (P.1.2 * ((((conj2 turny)) * turny) - (0 - 1))) from ring_id (fun vi_ => vget vi_ [P.1.2, (conj2 turny), turny]) (.sub (.mul (.mul (.var 0) (.var 1)) (.var 2)) (.sub .zero (.var 0))) (.mul (.var 0) (.sub (.mul (.var 1) (.var 2)) (.sub .zero .one))) (by kernel_rfl)) (lz h)))
theorem psi_four (P : G2) : (psi (psi (psi (psi P)))).1 = (P.1.1 * om * om, P.1.2) := by
  rw [psi_two, psi_two]
  refine Prod.ext rfl ?_
  exact (show (0 - (0 - P.1.2)) = P.1.2 from ring_id (fun vi_ => vget vi_ [P.1.2]) (.sub .zero (.sub .zero (.var 0))) (.var 0) (by kernel_rfl))
attribute [local irreducible] om turnx turny
theorem psi_zero : psi (0 : G2) = 0 := turnG_zero tturn
theorem psi_add (P Q : G2) : psi (P + Q) = psi P + psi Q := turnG_add tturn P Q
theorem psi_nmul (P : G2) (n : Nat) : psi (nmul n P) = nmul n (psi P) := turnG_nmul tturn P n
theorem psi_neg (P : G2) : psi (-P) = -psi P := turnG_neg tturn P
attribute [local irreducible] psi
theorem psi_sum (P : G2) : psi (psi (psi (psi P))) + P = psi (psi P) := by
  by_cases hz : P.1 = (0, 0)
  · have : P = 0 := Gp.ext hz
    subst this
    rw [psi_zero, psi_zero, psi_zero, psi_zero, AG.zero_a]
  · refine Gp.ext ?_
    show cadd (psi (psi (psi (psi P)))).1 P.1 = (psi (psi P)).1
    rw [psi_four, psi_two]
    exact line_three (P.2.resolve_left hz) om_sq om_one
theorem in_iff (P : G2) : inB P.1 = true ↔ psi P + nmul sz P = 0 := by
  rw [inB_iff]
  constructor
  · intro h; rw [h, AG.neg_a]
  · intro h; rw [AG.acomm] at h; exact a_neg_eq h
theorem in_rr0 (P : G2) (h : inB P.1 = true) : nmul rr P = 0 := by
  have h1 := (inB_iff P).1 h
  have step : ∀ n, psi (nmul n P) = -nmul (n * sz) P := fun n => by
    rw [psi_nmul, h1, nmul_neg, ← nmul_mul, Nat.mul_comm]
  have h2 : psi (psi P) = nmul (sz * sz) P := by
    rw [h1, psi_neg, step, a_neg_neg]
  have h4 : psi (psi (psi (psi P))) = nmul (sz * sz * (sz * sz)) P := by
    rw [h2, psi_nmul, psi_nmul, h2, ← nmul_mul]
  have h5 := psi_sum P
  rw [h4, h2] at h5
  have h6 : nmul rr P + nmul (sz * sz) P = nmul (sz * sz * (sz * sz)) P + P := by rw [← nmul_add, ss_r, nmul_add, nmul_one]
  exact a_cancel_r (a := nmul (sz * sz) P) (by rw [h6, h5, AG.zero_a])

/-! ### A point of great order -/
def wX : Fq2 := ⟨Zp.of 1108736322851702099102354848434034950377306657124679118817385260333238414911786463543592834940280345158986363576436, Zp.of 1736130119165850674658973446589467555760020192215780667871311821155751795612294173838521624257964294569083334490306⟩
def wY : Fq2 := ⟨Zp.of 1208810801847482859921259281374007702783754488390098560595685458054353021981070595342835021072715259223908067314612, Zp.of 894531772096837576996282094506194985723578178097712852564535246932474634759967343752421243869262661942048520970913⟩
theorem wW_on : onB (wX, wY) = true := by decide +kernel
def wW : G2 := ⟨(wX, wY), on_of wW_on⟩
set_option maxRecDepth 100000 in
theorem wW_order : nmul qq wW = 0 := nmul_zero_of (f := 450) (by decide +kernel) (by show (glad (wX, wY) 450 qq).2.2 = 0; decide +kernel)
theorem wW_ne : wW ≠ 0 := fun e => (by decide +kernel : ((wX, wY) : Pt) ≠ (0, 0)) (congrArg (fun x : G2 => x.1) e)

/-! ### Counting -/
def fcode (x : Fq2) : Nat := x.a.val + pp * x.b.val
theorem fcode_lt (x : Fq2) : fcode x < pp * pp := by
  unfold fcode
  have h1 := x.a.lt
  have h2 := x.b.lt
  have : pp * (x.b.val + 1) ≤ pp * pp := Nat.mul_le_mul_left _ h2
  rw [Nat.mul_succ] at this
  omega
theorem fcode_inj {x y : Fq2} (h : fcode x = fcode y) : x = y := by
  unfold fcode at h
  have e1 : (x.a.val + pp * x.b.val) % pp = (y.a.val + pp * y.b.val) % pp := by rw [h]
  have e2 : (x.a.val + pp * x.b.val) / pp = (y.a.val + pp * y.b.val) / pp := by rw [h]
  rw [Nat.add_mul_mod_self_left, Nat.add_mul_mod_self_left, Nat.mod_eq_of_lt x.a.lt, Nat.mod_eq_of_lt y.a.lt] at e1
  rw [Nat.add_mul_div_left _ _ pp_pos, Nat.add_mul_div_left _ _ pp_pos, Nat.div_eq_of_lt x.a.lt, Nat.div_eq_of_lt y.a.lt, Nat.zero_add, Nat.zero_add] at e2
  exact Fq2.ext (Zp.ext e1) (Zp.ext e2)
def pcode (P : G2) : Nat := if P.1 = (0, 0) then 0 else 1 + (2 * fcode P.1.1 + (if fcode P.1.2 < fcode (0 - P.1.2) then 0 else 1))
theorem pcode_lt (P : G2) : pcode P < 2 * (pp * pp) + 1 := by
  unfold pcode
  have := fcode_lt P.1.1
  split
  · omega
  · split <;> omega
theorem pcode_inj {P Q : G2} (h : pcode P = pcode Q) : P = Q := by
  unfold pcode at h
  by_cases hP : P.1 = (0, 0)
  · by_cases hQ : Q.1 = (0, 0)
    · exact Gp.ext (hP.trans hQ.symm)
    · rw [if_pos hP, if_neg hQ] at h; omega
  · by_cases hQ : Q.1 = (0, 0)
    · rw [if_neg hP, if_pos hQ] at h; omega
    · rw [if_neg hP, if_neg hQ] at h
      have hx : P.1.1 = Q.1.1 := fcode_inj (by split at h <;> split at h <;> omega)
      rcases same_x (P.2.resolve_left hP) (Q.2.resolve_left hQ) hx with e | e
      · exact Gp.ext e
      · have e1 : P.1.2 = 0 - Q.1.2 := by
          rw [e]; unfold cneg; rw [if_neg hQ]
        have e2 : 0 - P.1.2 = Q.1.2 := by rw [e1]; exact (show (0 - (0 - Q.1.2)) = Q.1.2 from ring_id (fun vi_ => vget vi_ [Q.1.2]) (.sub .zero (.sub .zero (.var 0))) (.var 0) (by kernel_rfl))
        rw [e2, e1] at h
        have hv : fcode (0 - Q.1.2) = fcode Q.1.2 := by
          split at h <;> split at h <;> omega
        exact Gp.ext (Prod.ext hx (e1.trans (fcode_inj hv)))

section
variable {γ : Type} [AG γ]
theorem nmul_gcd (x : γ) (m n : Nat) : nmul m x = 0 → nmul n x = 0 → nmul (Nat.gcd m n) x = 0 := by
  induction m, n using Nat.gcd.induction with
  | H0 n => intro _ h; rwa [Nat.gcd_zero_left]
  | H1 m n hm ih =>
    intro h1 h2
    rw [Nat.gcd_rec]
    refine ih ?_ h1
    rw [← Nat.div_add_mod n m, nmul_add, nmul_mul, h1, nmul_zero, AG.zero_a] at h2
    exact h2
theorem ord_prime {r : Nat} (hr : Cu.Prime r) {x : γ} (h0 : nmul r x = 0) (hx : x ≠ 0) (b : Nat) (hb : nmul b x = 0) : b % r = 0 := by
  refine Classical.byContradiction fun hne => hx ?_
  have hc : Nat.Coprime r b := hr.gcd fun h => hne (Nat.mod_eq_zero_of_dvd h)
  have := nmul_gcd x r b h0 hb
  rwa [hc, nmul_one] at this
/-- A factor may be taken back where it is prime to the order. -/
theorem unmul {r b : Nat} (hr : Cu.Prime r) {x : γ} (h0 : nmul r x = 0) (hb : b % r ≠ 0) : ∃ v, nmul v (nmul b x) = x := by
  have hc : Nat.Coprime r b := hr.gcd fun h => hb (Nat.mod_eq_zero_of_dvd h)
  have : ∀ m n : Nat, ∃ u v : Nat, ∀ y : γ, nmul r y = 0 → nmul u (nmul m y) + nmul v (nmul n y) = nmul (Nat.gcd m n) y := by
    intro m n
    induction m, n using Nat.gcd.induction with
    | H0 n => exact ⟨0, 1, fun y _ => by rw [Nat.gcd_zero_left, nmul_one]; exact AG.zero_a _⟩
    | H1 m n hm ih =>
      obtain ⟨u, v, h⟩ := ih
      refine ⟨v + (r - 1) * (u * (n / m)), u, fun y hy => ?_⟩
      have h1 := h y hy
      rw [Nat.gcd_rec, ← h1]
      have hr1 := hr.1
      have e : nmul ((r - 1) * (u * (n / m))) (nmul m y) + nmul u (nmul n y) = nmul u (nmul (n % m) y) := by
        have e2 : nmul u (nmul n y) = nmul u (nmul (n % m) y) + nmul (u * (n / m)) (nmul m y) := by
          conv => lhs; rw [← Nat.mod_add_div n m, nmul_add, nmul_dist]
          rw [nmul_mul m y (n / m), nmul_mul u (nmul m y) (n / m), nmul_comm u (n / m)]
        rw [e2, AG.acomm (nmul u (nmul (n % m) y)), ← AG.aassoc, ← nmul_add]
        have e3 : (r - 1) * (u * (n / m)) + u * (n / m) = u * (n / m) * r := by
          rw [← Nat.succ_mul, Nat.mul_comm]; congr 1; omega
        rw [e3, nmul_mul, nmul_comm r, nmul_comm r m, hy, nmul_zero, nmul_zero, AG.zero_a]
      rw [nmul_add, AG.aassoc, e, AG.acomm]
  obtain ⟨u, v, h⟩ := this r b
  refine ⟨v, ?_⟩
  have := h x h0
  rwa [hc, nmul_one, h0, nmul_zero, AG.zero_a] at this
end

theorem many : ¬ rr * (rr * qq) ≤ 2 * (pp * pp) + 1 := of_decide_eq_true (by kernel_rfl)
theorem rr_lt_qq : rr < qq := of_decide_eq_true (by kernel_rfl)
theorem in_rr (P : G2) : inB P.1 = true ↔ nmul rr P = 0 := by
  refine ⟨in_rr0 P, fun h1 => ?_⟩
  refine Classical.byContradiction fun hne => many ?_
  have hgn : gG ≠ 0 := fun e => gen_ne (congrArg (fun x : G2 => x.1) e)
  have hP0 : P ≠ 0 := fun e => hne ((in_iff P).2 (by rw [e, psi_zero, nmul_zero, AG.zero_a]))
  have hr0 : 0 < rr := by decide
  have hq0 : 0 < qq := by decide +kernel
  have hrq : 0 < rr * qq := Nat.mul_pos hr0 hq0
  have hmeet : ∀ a b, nmul a gG = nmul b P → nmul a gG = 0 := by
    intro a b hab
    by_cases hb : b % rr = 0
    · rw [hab, ← nmul_mod h1, hb]; rfl
    · obtain ⟨v, hv⟩ := unmul prime_rr h1 hb
      refine absurd ?_ hne
      rw [← hv, ← hab, ← nmul_mul]
      exact in_mul _
  have hWk : ∀ k k', k < qq → k' < qq → k ≤ k' → nmul (rr * k) wW = nmul (rr * k') wW → k = k' := by
    intro k k' hk hk' hle e
    have e2 : nmul (rr * (k' - k)) wW = 0 := by
      refine a_cancel (a := nmul (rr * k) wW) ?_
      rw [← nmul_add, ← Nat.mul_add, show k + (k' - k) = k' by omega, ← e, a_zero]
    have e3 := Nat.dvd_of_mod_eq_zero (ord_prime prime_qq wW_order wW_ne _ e2)
    have hc : Nat.Coprime qq rr := prime_qq.gcd fun h => by
      have := Nat.le_of_dvd hr0 h
      have := rr_lt_qq
      omega
    have e4 := hc.dvd_of_dvd_mul_left e3
    rcases Nat.eq_zero_or_pos (k' - k) with h | h
    · omega
    · have := Nat.le_of_dvd h e4; omega
  refine pigeon (2 * (pp * pp) + 1) (rr * (rr * qq)) (fun n => pcode (nmul (n / (rr * qq)) gG + nmul (n % (rr * qq) / qq) P + nmul (n % qq) wW)) (fun n _ => pcode_lt _) (fun n m hn hm e => ?_)
  have e := pcode_inj e
  have bnd : ∀ n, n < rr * (rr * qq) → n / (rr * qq) < rr ∧ n % (rr * qq) / qq < rr ∧ n % qq < qq := fun n hn =>
    ⟨Nat.div_lt_of_lt_mul (by rw [Nat.mul_comm]; exact hn), Nat.div_lt_of_lt_mul (by rw [Nat.mul_comm qq]; exact Nat.mod_lt _ hrq), Nat.mod_lt _ hq0⟩
  obtain ⟨b1, b2, b3⟩ := bnd n hn
  obtain ⟨c1, c2, c3⟩ := bnd m hm
  have back : ∀ n, rr * qq * (n / (rr * qq)) + (qq * (n % (rr * qq) / qq) + n % qq) = n := fun n => by
    have h1 := Nat.div_add_mod n (rr * qq)
    have h2 := Nat.div_add_mod (n % (rr * qq)) qq
    rw [Nat.mod_mul_left_mod] at h2
    rw [h2, h1]
  have hn' := back n
  have hm' := back m
  generalize n / (rr * qq) = i at e b1 hn'
  generalize n % (rr * qq) / qq = j at e b2 hn'
  generalize n % qq = k at e b3 hn'
  generalize m / (rr * qq) = i' at e c1 hm'
  generalize m % (rr * qq) / qq = j' at e c2 hm'
  generalize m % qq = k' at e c3 hm'
  have killed : ∀ i j k, nmul rr (nmul i gG + nmul j P + nmul k wW) = nmul (rr * k) wW := fun i j k => by
    rw [nmul_dist, nmul_dist, nmul_comm rr i, nmul_comm rr j, gG_order, h1, nmul_zero, nmul_zero, AG.zero_a, AG.zero_a, Nat.mul_comm, nmul_mul]
  have ek : nmul (rr * k) wW = nmul (rr * k') wW := by rw [← killed i j k, ← killed i' j' k', e]
  have hkk : k = k' := by
    rcases Nat.le_total k k' with h | h
    · exact hWk k k' b3 c3 h ek
    · exact (hWk k' k c3 b3 h ek.symm).symm
  subst hkk
  have e2 := a_cancel_r e
  obtain ⟨h3, h4⟩ := pair_inj gG_order h1 (ord_prime prime_rr gG_order hgn) (ord_prime prime_rr h1 hP0) hmeet b1 b2 c1 c2 e2
  rw [← hn', ← hm', h3, h4]
theorem in_add (P Q : G2) (hQ : inB Q.1 = true) : inB (P + Q).1 = inB P.1 := by
  have hq := (in_iff Q).1 hQ
  have h : psi (P + Q) + nmul sz (P + Q) = psi P + nmul sz P := by
    rw [psi_add, nmul_dist, a_four, hq, a_zero]
  rw [Bool.eq_iff_iff, in_iff, in_iff, h]
end Go.Cw

/- The second group: what G2Groups asks of a point that the generator makes and of any other one. -/
namespace Go.Cw
open Go.Cu Go.Ec
open Go Go.Vm
set_option linter.unusedVariables false
set_option linter.unusedSimpArgs false
set_option linter.unusedSectionVars false
open CR
theorem times_r (P : G2) : times rL P.1 = (0, 0) ↔ nmul rr P = 0 := by
  rw [times_ok rL_small, Cu.rL_val]
  exact ⟨fun h => Gp.ext h, fun h => congrArg (fun x : G2 => x.1) h⟩
/-- Of the points that wild makes none has order two. -/
theorem wfrom_y : ∀ f k, wfrom f k = (0, 0) ∨ (wfrom f k).2 ≠ 0
  | 0, _ => .inl rfl
  | f + 1, k => by
    obtain ⟨r, hr⟩ : ∃ r, r = sqrt2 (wcube k) := ⟨_, rfl⟩
    rw [wfrom, ← hr]
    by_cases h : r.2 = true ∧ r.1 ≠ 0
    · rw [if_pos h]; exact .inr h.2
    · rw [if_neg h]; exact wfrom_y f (k + 1)
theorem on_twice {q : Pt} (hq : On four q) (hy : q = (0, 0) ∨ q.2 ≠ 0) : onB (q.1, q.2 + q.2) = decide (q = (0, 0)) := by
  rcases hy with rfl | hy
  · decide +kernel
  · have hne : q ≠ (0, 0) := fun e => hy (by rw [e])
    rw [decide_eq_false hne]
    refine Bool.eq_false_iff.2 fun h => ?_
    have h1 := hq.resolve_left hne
    have hyy : q.2 + q.2 ≠ 0 := half four hy
    have h2 : Aff four (q.1, q.2 + q.2) := (on_of h).resolve_left fun e => hyy (congrArg Prod.snd e)
    have h1 : q.2 * q.2 = q.1 * q.1 * q.1 + four := h1
    have h2 : (q.2 + q.2) * (q.2 + q.2) = q.1 * q.1 * q.1 + four := h2
    refine Fld.mul_ne (Fld.mul_ne hy hy) (Gd.three (B := four)) ?_
    exact (eq_of_sub (Eq.trans (show (((q.2 * q.2) * ((1 + 1) + 1)) - 0) = ((1 * (((q.2 + q.2) * (q.2 + q.2)) - (((q.1 * q.1) * q.1) + four))) + ((0 - 1) * ((q.2 * q.2) - (((q.1 * q.1) * q.1) + four)))) from ring_id (fun vi_ => vget vi_ [q.1, q.2, four]) (.sub (.mul (.mul (.var 1) (.var 1)) (.add (.add .one .one) .one)) .zero) (.add (.mul .one (.sub (.mul (.add (.var 1) (.var 1)) (.add (.var 1) (.var 1))) (.add (.mul (.mul (.var 0) (.var 0)) (.var 0)) (.var 2)))) (.mul (.sub .zero .one) (.sub (.mul (.var 1) (.var 1)) (.add (.mul (.mul (.var 0) (.var 0)) (.var 0)) (.var 2))))) (by kernel_rfl)) (lz2 (lz h2) (lz h1))))
set_option maxRecDepth 100000 in
theorem groupsOk (a : List Nat) (n : Nat) : GroupsOk (gp a) (wild n) := by
  have hq : wild n = (wG n).1 := (wG_val n).symm
  have hy := wfrom_y 200 n
  have hw : wild n = wfrom 200 n := by unfold wild; rfl
  rw [← hw] at hy
  have hon := (wG n).2
  rw [← hq] at hon
  have h6 := on_twice hon hy
  have hin := in_mul (wide a).val
  have hord := order_mul (wide a).val
  rw [gp_ok]
  generalize nmul (wide a).val gG = P at *
  refine ⟨hin, ?_, onB_ok hon, ?_, ?_, h6⟩
  · rw [hq, Bool.eq_iff_iff, in_rr, decide_eq_true_iff, times_r]
  · exact (times_r P).2 hord
  · rw [hq, padd_ok, in_add _ _ hin]
end Go.Cw
