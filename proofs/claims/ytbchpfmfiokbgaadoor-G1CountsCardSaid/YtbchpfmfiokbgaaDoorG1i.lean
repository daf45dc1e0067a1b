/-
  The first group's laws: G1Scalars: the walk. Conditions: the rules that the points obey.
-/
import Derived.Test.YtbchpfmfiokbgaaDoorG1h
namespace Go.Cu
open Go Go.Vm Go.RowKit Go.Proofs 
attribute [local irreducible] W OpsW Det Fresh New Writes Vm.Pure Makes Changes ExternTo BuildTo ZeroTo FieldTo IndexTo BinTo SliceTo Vm.Enters
set_option linter.unusedVariables false
set_option linter.unusedSimpArgs false
variable {T : Nat → TypeId × Nat × Nat}

structure ScalarsOk (x y : Fs) (p : Pt) : Prop where
  r1 : padd (pmul p x) (pmul p y) = pmul p (x + y)
  r2 : pmul (pmul p x) y = pmul p (x * y)
  r3 : pneg (pmul p x) = pmul p (0 - x)
  r4 : pmul p (Zp.of 1) = p
  r5 : pmul p 0 = (0, 0)
  r6 : inB p = true
  r7 : onB (pmul p x) = true

theorem en27 : Vm.Enters Tryd.prog 27 := Vm.Enters.of fun _ _ => by kernel_rfl
theorem en31 : Vm.Enters Tryd.prog 31 := Vm.Enters.of fun _ _ => by kernel_rfl
set_option maxHeartbeats 2000000 in
theorem G1Scalars_ok {G' : Hp} {va vb vc : Value} {la lb lc : List Nat} (ha : Bs G' va la) (hb' : Bs G' vb lb) (hc' : Bs G' vc lc) (hh : HeadOk) (hr : ScalarsOk (wide la) (wide lb) (gp lc)) {w : World} (hG : Blocks (G' ++ GH T) w)  : Vm.Pure Tryd.prog 7 #[va, vb, vc] w (.bool true) := by
  obtain ⟨aa, ca, hva⟩ := ha.shape
  obtain ⟨ab, cb, hvb⟩ := hb'.shape
  obtain ⟨ac, cc, hvc⟩ := hc'.shape
  refine pure_of_W (n := 83) (args := [va, vb, vc]) Tryd.func7 rfl Tryd.ntmps7 (Nat.le_of_ble_eq_true rfl) hG ?_
  refine sStart ?_
  refine sSeq ?_
  subst hva
  subst hvb
  subst hvc
  refine W.region ?_
  refine OpsW.det (det_assign rfl) rfl ?_
  refine sNext ?_
  refine W.keep (F' := [(0, _), (1, _), (2, _)]) ⟨rfl, rfl, rfl, trivial⟩ ?_
  refine sSeq ?_
  refine sSeq ?_
  refine W.region ?_
  refine OpsW.det (det_call en15 rfl (fun w hb ho => head_ok hh (fun p hp => ho.look (List.mem_append_right _ hp)))) rfl ?_
  refine OpsW.det (det_not rfl) rfl ?_
  refine sNext ?_
  refine W.keep (F' := [(11, _), (0, _), (1, _), (2, _)]) ⟨rfl, rfl, rfl, rfl, trivial⟩ ?_
  refine W.cond_false rfl ?_
  refine sSkip ?_
  refine sSeq ?_
  refine sSeq ?_
  refine W.region ?_
  refine OpsW.det (det_move rfl) rfl ?_
  refine OpsW.det (det_move rfl) rfl ?_
  refine OpsW.det (det_move rfl) rfl ?_
  refine OpsW.det (det_call en16 rfl (fun w hb ho => long_ok (fun p hp => ho.look (List.mem_append_right _ hp)))) rfl ?_
  refine sNext ?_
  refine W.keep (F' := [(15, _), (0, _), (1, _), (2, _)]) ⟨rfl, rfl, rfl, rfl, trivial⟩ ?_
  refine W.cond rfl (fun hc15 => ?_) (fun hc15 => ?_)
  · skip
    refine sSeq ?_
    refine W.region ?_
    refine OpsW.det (det_assign rfl) rfl ?_
    refine sNext ?_
    refine W.keep (F' := [(6, _)]) ⟨rfl, trivial⟩ ?_
    refine sRet ?_
    exact done1 Tryd.results7 (rv_tmp rfl) rfl
  · skip
    have hl := not_long hc15
    refine sSkip ?_
    refine sSeq ?_
    refine W.region ?_
    refine OpsW.det (det_move rfl) rfl ?_
    refine OpsW.det (det_call en19 rfl (fun w hb ho => scalar_ok (G' := G') ha (Nat.le_trans hl.1 (by decide)) ho.blocks)) rfl ?_
    refine OpsW.fresh (fr_alloc z35r) rfl fun b7 => ?_
    refine OpsW.store sz35 rfl rfl rfl rfl rfl (Upd.here) rfl ?_
    refine sNext ?_
    refine W.keep (F' := [(7, _), (1, _), (2, _)]) ⟨rfl, rfl, rfl, trivial⟩ ?_
    refine sSeq ?_
    refine W.region ?_
    refine OpsW.det (det_move rfl) rfl ?_
    refine OpsW.det (det_call en19 rfl (fun w hb ho => scalar_ok (G' := G') hb' (Nat.le_trans hl.2.1 (by decide)) ho.blocks)) rfl ?_
    refine OpsW.fresh (fr_alloc z35r) rfl fun b8 => ?_
    refine OpsW.store sz35 rfl rfl rfl rfl rfl (Upd.here) rfl ?_
    refine sNext ?_
    refine W.keep (F' := [(8, _), (7, _), (2, _)]) ⟨rfl, rfl, rfl, trivial⟩ ?_
    refine sSeq ?_
    refine W.region ?_
    refine OpsW.det (det_call en17 rfl (fun w hb ho => Gen_ok (fun p hp => ho.look (List.mem_append_right _ hp)))) rfl ?_
    refine OpsW.det (det_move rfl) rfl ?_
    refine OpsW.det (det_call en19 rfl (fun w hb ho => scalar_ok (G' := G') hc' (Nat.le_trans hl.2.2 (by decide)) ho.blocks)) rfl ?_
    refine OpsW.det (det_call en18 rfl (fun w hb ho => PMul_ok (fun p hp => ho.look (List.mem_append_right _ hp)))) rfl ?_
    refine OpsW.fresh (fr_alloc z30) rfl fun b9 => ?_
    refine OpsW.store sz30 rfl rfl rfl rfl rfl (Upd.here) rfl ?_
    refine sNext ?_
    refine W.keep (F' := [(9, _), (8, _), (7, _)]) ⟨rfl, rfl, rfl, trivial⟩ ?_
    refine sSeq ?_
    refine sSeq ?_
    refine W.draw mixed 37 [[], [], [0, 1], [], [], [0, 1, 2, 3, 4], [0, 1, 2, 3, 4, 5], [], [], [], [0, 1, 2, 3, 4, 5, 6, 8, 9], [0, 1, 2, 3, 4, 5, 6, 7, 8, 9, 10], [0, 1, 2, 3, 4, 5, 6, 7, 8, 9, 10, 11], [0, 1, 2, 3, 4, 5, 6, 7, 8, 9, 10, 11, 12], [0, 1, 2, 3, 4, 5, 6, 7, 8, 9, 10, 11, 12, 13], [0, 1, 2, 3, 4, 5, 6, 7, 8, 9, 10, 11, 12, 13], [0, 1, 2, 3, 4, 5, 6, 7, 8, 9, 10, 11, 12, 13, 14, 15], [0, 1, 2, 3, 4, 5, 6, 7, 8, 9, 10, 11, 12, 13], [0, 1, 2, 3, 4, 5, 6, 7, 8, 9, 10, 11, 12, 13, 14, 15, 16, 17], [0, 1, 2, 3, 4, 5, 6, 7, 8, 9, 10, 11, 12, 13], [0, 1, 2, 3, 4, 5, 6, 7, 8, 9, 10, 11, 12, 13], [0, 1, 2, 3, 4, 5, 6, 7, 8, 9, 10, 11, 12, 13], [0, 1, 2, 3, 4, 5, 6, 7, 8, 9, 10, 11, 12, 13, 14, 15, 16, 17, 18, 20, 21], [0, 1, 2, 3, 4, 5, 6, 7, 8, 9, 10, 11, 12, 13, 14, 15, 16, 17, 18, 19, 20, 21, 22], [0, 1, 2, 3, 4, 5, 6, 7, 8, 9, 10, 11, 12, 13, 14, 15, 16, 17, 18, 19, 20, 21, 22, 23], [0, 1, 2, 3, 4, 5, 6, 7, 8, 9, 10, 11, 12, 13, 14, 15, 16, 17, 18, 19, 20, 21, 22, 23, 24], [0, 1, 2, 3, 4, 5, 6, 7, 8, 9, 10, 11, 12, 13, 14, 15, 16, 17, 18, 19, 20, 21, 22, 23, 24, 25], [0, 1, 2, 3, 4, 5, 6, 7, 8, 9, 10, 11, 12, 13, 14, 15, 16, 17, 18, 19, 20, 21, 22, 23, 24, 25, 26], [0, 1, 2, 3, 4, 5, 6, 7, 8, 9, 10, 11, 12, 13, 14, 15, 16, 17, 18, 19, 20, 21, 22, 23, 24, 25, 26], [0, 1, 2, 3, 4, 5, 6, 7, 8, 9, 10, 11, 12, 13, 14, 15, 16, 17, 18, 19, 20, 21, 22, 23, 24, 25, 26, 27, 28], [0, 1, 2, 3, 4, 5, 6, 7, 8, 9, 10, 11, 12, 13, 14, 15, 16, 17, 18, 19, 20, 21, 22, 23, 24, 25, 26, 27, 28, 29], [0, 1, 2, 3, 4, 5, 6, 7, 8, 9, 10, 11, 12, 13, 14, 15, 16, 17, 18, 19, 20, 21, 22, 23, 24, 25, 26], [0, 1, 2, 3, 4, 5, 6, 7, 8, 9, 10, 11, 12, 13, 14, 15, 16, 17, 18, 19, 20, 21, 22, 23, 24, 25, 26], [0, 1, 2, 3, 4, 5, 6, 7, 8, 9, 10, 11, 12, 13, 14, 15, 16, 17, 18, 19, 20, 21, 22, 23, 24, 25, 26, 27, 28, 29, 30, 32], [0, 1, 2, 3, 4, 5, 6, 7, 8, 9, 10, 11, 12, 13, 14, 15, 16, 17, 18, 19, 20, 21, 22, 23, 24, 25, 26, 27, 28, 29, 30, 31, 32, 33], [0, 1, 2, 3, 4, 5, 6, 7, 8, 9, 10, 11, 12, 13, 14, 15, 16, 17, 18, 19, 20, 21, 22, 23, 24, 25, 26, 27, 28, 29, 30, 31, 32, 33, 34], [0, 1, 2, 3, 4, 5, 6, 7, 8, 9, 10, 11, 12, 13, 14, 15, 16, 17, 18, 19, 20, 21, 22, 23, 24, 25, 26, 27, 28, 29, 30, 31, 32, 33, 34, 35]] (cl_lt (by decide)) ?_
    refine Head.det rfl (fun β hβ => Det.norm (F' := [(9, _), (8, _), (7, _)]) (H' := [(_, _), (_, _), (_, _)]) rfl rfl (det_loadA ty30 rfl (List.Mem.head _) rfl)) ?_
    refine Head.norm (k' := 1) (es' := [.det 24 _]) rfl rfl ?_
    refine Head.det rfl (fun β hβ => Det.norm (F' := [(9, _), (8, _), (7, _)]) (H' := [(_, _), (_, _), (_, _)]) rfl rfl (det_loadA ty35 rfl (List.Mem.tail _ (List.Mem.tail _ (List.Mem.head _))) rfl)) ?_
    refine Head.norm (k' := 2) (es' := [.det 24 _, .det 25 _]) rfl rfl ?_
    refine Head.det rfl (fun β hβ => Det.norm (F' := [(24, _), (25, _), (9, _), (8, _), (7, _)]) (H' := [(_, _), (_, _), (_, _)]) rfl rfl (det_call en18 rfl (fun w hb ho => PMul_ok (fun p hp => ho.look (List.mem_append_right _ hp))))) ?_
    refine Head.norm (k' := 3) (es' := [.det 24 _, .det 25 _, .det 26 _]) rfl rfl ?_
    refine Head.det rfl (fun β hβ => Det.norm (F' := [(9, _), (8, _), (7, _)]) (H' := [(_, _), (_, _), (_, _)]) rfl rfl (det_loadA ty30 rfl (List.Mem.head _) rfl)) ?_
    refine Head.norm (k' := 4) (es' := [.det 24 _, .det 25 _, .det 26 _, .det 27 _]) rfl rfl ?_
    refine Head.det rfl (fun β hβ => Det.norm (F' := [(9, _), (8, _), (7, _)]) (H' := [(_, _), (_, _), (_, _)]) rfl rfl (det_loadA ty35 rfl (List.Mem.tail _ (List.Mem.head _)) rfl)) ?_
    refine Head.norm (k' := 5) (es' := [.det 24 _, .det 25 _, .det 26 _, .det 27 _, .det 28 _]) rfl rfl ?_
    refine Head.det rfl (fun β hβ => Det.norm (F' := [(24, _), (25, _), (26, _), (27, _), (28, _), (9, _), (8, _), (7, _)]) (H' := [(_, _), (_, _), (_, _)]) rfl rfl (det_call en18 rfl (fun w hb ho => PMul_ok (fun p hp => ho.look (List.mem_append_right _ hp))))) ?_
    refine Head.norm (k' := 6) (es' := [.det 24 _, .det 25 _, .det 26 _, .det 27 _, .det 28 _, .det 29 _]) rfl rfl ?_
    refine Head.det rfl (fun β hβ => Det.norm (F' := [(24, _), (25, _), (26, _), (27, _), (28, _), (29, _), (9, _), (8, _), (7, _)]) (H' := [(_, _), (_, _), (_, _)]) rfl rfl (det_call en20 rfl (fun w hb ho => PAdd_ok (fun p hp => ho.look (List.mem_append_right _ hp))))) ?_
    refine Head.norm (k' := 7) (es' := [.det 24 _, .det 25 _, .det 26 _, .det 27 _, .det 28 _, .det 29 _, .det 30 _]) rfl rfl ?_
    refine Head.det rfl (fun β hβ => Det.norm (F' := [(9, _), (8, _), (7, _)]) (H' := [(_, _), (_, _), (_, _)]) rfl rfl (det_loadA ty30 rfl (List.Mem.head _) rfl)) ?_
    refine Head.norm (k' := 8) (es' := [.det 24 _, .det 25 _, .det 26 _, .det 27 _, .det 28 _, .det 29 _, .det 30 _, .det 31 _]) rfl rfl ?_
    refine Head.det rfl (fun β hβ => Det.norm (F' := [(9, _), (8, _), (7, _)]) (H' := [(_, _), (_, _), (_, _)]) rfl rfl (det_loadA ty35 rfl (List.Mem.tail _ (List.Mem.tail _ (List.Mem.head _))) rfl)) ?_
    refine Head.norm (k' := 9) (es' := [.det 24 _, .det 25 _, .det 26 _, .det 27 _, .det 28 _, .det 29 _, .det 30 _, .det 31 _, .det 32 _]) rfl rfl ?_
    refine Head.det rfl (fun β hβ => Det.norm (F' := [(9, _), (8, _), (7, _)]) (H' := [(_, _), (_, _), (_, _)]) rfl rfl (det_loadA ty35 rfl (List.Mem.tail _ (List.Mem.head _)) rfl)) ?_
    refine Head.norm (k' := 10) (es' := [.det 24 _, .det 25 _, .det 26 _, .det 27 _, .det 28 _, .det 29 _, .det 30 _, .det 31 _, .det 32 _, .det 33 _]) rfl rfl ?_
    refine Head.det rfl (fun β hβ => Det.norm (F' := [(24, _), (25, _), (26, _), (27, _), (28, _), (29, _), (30, _), (32, _), (33, _), (9, _), (8, _), (7, _)]) (H' := [(_, _), (_, _), (_, _)]) rfl rfl (det_call en28 rfl (fun w hb ho => RAdd_ok (fun p hp => ho.look (List.mem_append_right _ hp))))) ?_
    refine Head.norm (k' := 11) (es' := [.det 24 _, .det 25 _, .det 26 _, .det 27 _, .det 28 _, .det 29 _, .det 30 _, .det 31 _, .det 32 _, .det 33 _, .det 34 _]) rfl rfl ?_
    refine Head.det rfl (fun β hβ => Det.norm (F' := [(24, _), (25, _), (26, _), (27, _), (28, _), (29, _), (30, _), (31, _), (32, _), (33, _), (34, _), (9, _), (8, _), (7, _)]) (H' := [(_, _), (_, _), (_, _)]) rfl rfl (det_call en18 rfl (fun w hb ho => PMul_ok (fun p hp => ho.look (List.mem_append_right _ hp))))) ?_
    refine Head.norm (k' := 12) (es' := [.det 24 _, .det 25 _, .det 26 _, .det 27 _, .det 28 _, .det 29 _, .det 30 _, .det 31 _, .det 32 _, .det 33 _, .det 34 _, .det 35 _]) rfl rfl ?_
    refine Head.det rfl (fun β hβ => Det.norm (F' := [(24, _), (25, _), (26, _), (27, _), (28, _), (29, _), (30, _), (31, _), (32, _), (33, _), (34, _), (35, _), (9, _), (8, _), (7, _)]) (H' := [(_, _), (_, _), (_, _)]) rfl rfl (Det.to (det_neq30 rfl rfl) (congrArg Value.bool (nb hr.r1)))) ?_
    refine Head.norm (k' := 13) (es' := [.det 24 _, .det 25 _, .det 26 _, .det 27 _, .det 28 _, .det 29 _, .det 30 _, .det 31 _, .det 32 _, .det 33 _, .det 34 _, .det 35 _, .det 36 _]) rfl rfl ?_
    refine Head.det rfl (fun β hβ => Det.norm (F' := [(24, _), (25, _), (26, _), (27, _), (28, _), (29, _), (30, _), (31, _), (32, _), (33, _), (34, _), (35, _), (36, _), (9, _), (8, _), (7, _)]) (H' := [(_, _), (_, _), (_, _)]) rfl rfl (det_move rfl)) ?_
    refine Head.norm (k' := 14) (es' := [.det 24 _, .det 25 _, .det 26 _, .det 27 _, .det 28 _, .det 29 _, .det 30 _, .det 31 _, .det 32 _, .det 33 _, .det 34 _, .det 35 _, .det 36 _, .det 37 _]) rfl rfl ?_
    refine Head.yes rfl rfl (fun _ _ => rfl) (fun β hβ => Det.norm (F' := [(24, _), (25, _), (26, _), (27, _), (28, _), (29, _), (30, _), (31, _), (32, _), (33, _), (34, _), (35, _), (36, _), (37, _), (9, _), (8, _), (7, _)]) (H' := [(_, _), (_, _), (_, _)]) rfl rfl (det_loadA ty30 rfl (List.Mem.head _) rfl)) ?_
    refine Head.norm (k' := 15) (es' := [.det 24 _, .det 25 _, .det 26 _, .det 27 _, .det 28 _, .det 29 _, .det 30 _, .det 31 _, .det 32 _, .det 33 _, .det 34 _, .det 35 _, .det 36 _, .det 37 _, .det 38 _]) rfl rfl ?_
    refine Head.yes rfl rfl (fun _ _ => rfl) (fun β hβ => Det.norm (F' := [(24, _), (25, _), (26, _), (27, _), (28, _), (29, _), (30, _), (31, _), (32, _), (33, _), (34, _), (35, _), (36, _), (37, _), (9, _), (8, _), (7, _)]) (H' := [(_, _), (_, _), (_, _)]) rfl rfl (det_loadA ty35 rfl (List.Mem.tail _ (List.Mem.tail _ (List.Mem.head _))) rfl)) ?_
    refine Head.norm (k' := 16) (es' := [.det 24 _, .det 25 _, .det 26 _, .det 27 _, .det 28 _, .det 29 _, .det 30 _, .det 31 _, .det 32 _, .det 33 _, .det 34 _, .det 35 _, .det 36 _, .det 37 _, .det 38 _, .det 39 _]) rfl rfl ?_
    refine Head.yes rfl rfl (fun _ _ => rfl) (fun β hβ => Det.norm (F' := [(24, _), (25, _), (26, _), (27, _), (28, _), (29, _), (30, _), (31, _), (32, _), (33, _), (34, _), (35, _), (36, _), (37, _), (38, _), (39, _), (9, _), (8, _), (7, _)]) (H' := [(_, _), (_, _), (_, _)]) rfl rfl (det_call en18 rfl (fun w hb ho => PMul_ok (fun p hp => ho.look (List.mem_append_right _ hp))))) ?_
    refine Head.norm (k' := 17) (es' := [.det 24 _, .det 25 _, .det 26 _, .det 27 _, .det 28 _, .det 29 _, .det 30 _, .det 31 _, .det 32 _, .det 33 _, .det 34 _, .det 35 _, .det 36 _, .det 37 _, .det 38 _, .det 39 _, .det 40 _]) rfl rfl ?_
    refine Head.yes rfl rfl (fun _ _ => rfl) (fun β hβ => Det.norm (F' := [(24, _), (25, _), (26, _), (27, _), (28, _), (29, _), (30, _), (31, _), (32, _), (33, _), (34, _), (35, _), (36, _), (37, _), (9, _), (8, _), (7, _)]) (H' := [(_, _), (_, _), (_, _)]) rfl rfl (det_loadA ty35 rfl (List.Mem.tail _ (List.Mem.head _)) rfl)) ?_
    refine Head.norm (k' := 18) (es' := [.det 24 _, .det 25 _, .det 26 _, .det 27 _, .det 28 _, .det 29 _, .det 30 _, .det 31 _, .det 32 _, .det 33 _, .det 34 _, .det 35 _, .det 36 _, .det 37 _, .det 38 _, .det 39 _, .det 40 _, .det 41 _]) rfl rfl ?_
    refine Head.yes rfl rfl (fun _ _ => rfl) (fun β hβ => Det.norm (F' := [(24, _), (25, _), (26, _), (27, _), (28, _), (29, _), (30, _), (31, _), (32, _), (33, _), (34, _), (35, _), (36, _), (37, _), (38, _), (39, _), (40, _), (41, _), (9, _), (8, _), (7, _)]) (H' := [(_, _), (_, _), (_, _)]) rfl rfl (det_call en18 rfl (fun w hb ho => PMul_ok (fun p hp => ho.look (List.mem_append_right _ hp))))) ?_
    refine Head.norm (k' := 19) (es' := [.det 24 _, .det 25 _, .det 26 _, .det 27 _, .det 28 _, .det 29 _, .det 30 _, .det 31 _, .det 32 _, .det 33 _, .det 34 _, .det 35 _, .det 36 _, .det 37 _, .det 38 _, .det 39 _, .det 40 _, .det 41 _, .det 42 _]) rfl rfl ?_
    refine Head.yes rfl rfl (fun _ _ => rfl) (fun β hβ => Det.norm (F' := [(24, _), (25, _), (26, _), (27, _), (28, _), (29, _), (30, _), (31, _), (32, _), (33, _), (34, _), (35, _), (36, _), (37, _), (9, _), (8, _), (7, _)]) (H' := [(_, _), (_, _), (_, _)]) rfl rfl (det_loadA ty30 rfl (List.Mem.head _) rfl)) ?_
    refine Head.norm (k' := 20) (es' := [.det 24 _, .det 25 _, .det 26 _, .det 27 _, .det 28 _, .det 29 _, .det 30 _, .det 31 _, .det 32 _, .det 33 _, .det 34 _, .det 35 _, .det 36 _, .det 37 _, .det 38 _, .det 39 _, .det 40 _, .det 41 _, .det 42 _, .det 43 _]) rfl rfl ?_
    refine Head.yes rfl rfl (fun _ _ => rfl) (fun β hβ => Det.norm (F' := [(24, _), (25, _), (26, _), (27, _), (28, _), (29, _), (30, _), (31, _), (32, _), (33, _), (34, _), (35, _), (36, _), (37, _), (9, _), (8, _), (7, _)]) (H' := [(_, _), (_, _), (_, _)]) rfl rfl (det_loadA ty35 rfl (List.Mem.tail _ (List.Mem.tail _ (List.Mem.head _))) rfl)) ?_
    refine Head.norm (k' := 21) (es' := [.det 24 _, .det 25 _, .det 26 _, .det 27 _, .det 28 _, .det 29 _, .det 30 _, .det 31 _, .det 32 _, .det 33 _, .det 34 _, .det 35 _, .det 36 _, .det 37 _, .det 38 _, .det 39 _, .det 40 _, .det 41 _, .det 42 _, .det 43 _, .det 44 _]) rfl rfl ?_
    refine Head.yes rfl rfl (fun _ _ => rfl) (fun β hβ => Det.norm (F' := [(24, _), (25, _), (26, _), (27, _), (28, _), (29, _), (30, _), (31, _), (32, _), (33, _), (34, _), (35, _), (36, _), (37, _), (9, _), (8, _), (7, _)]) (H' := [(_, _), (_, _), (_, _)]) rfl rfl (det_loadA ty35 rfl (List.Mem.tail _ (List.Mem.head _)) rfl)) ?_
    refine Head.norm (k' := 22) (es' := [.det 24 _, .det 25 _, .det 26 _, .det 27 _, .det 28 _, .det 29 _, .det 30 _, .det 31 _, .det 32 _, .det 33 _, .det 34 _, .det 35 _, .det 36 _, .det 37 _, .det 38 _, .det 39 _, .det 40 _, .det 41 _, .det 42 _, .det 43 _, .det 44 _, .det 45 _]) rfl rfl ?_
    refine Head.yes rfl rfl (fun _ _ => rfl) (fun β hβ => Det.norm (F' := [(24, _), (25, _), (26, _), (27, _), (28, _), (29, _), (30, _), (31, _), (32, _), (33, _), (34, _), (35, _), (36, _), (37, _), (38, _), (39, _), (40, _), (41, _), (42, _), (44, _), (45, _), (9, _), (8, _), (7, _)]) (H' := [(_, _), (_, _), (_, _)]) rfl rfl (det_call en30 rfl (fun w hb ho => RMul_ok (fun p hp => ho.look (List.mem_append_right _ hp))))) ?_
    refine Head.norm (k' := 23) (es' := [.det 24 _, .det 25 _, .det 26 _, .det 27 _, .det 28 _, .det 29 _, .det 30 _, .det 31 _, .det 32 _, .det 33 _, .det 34 _, .det 35 _, .det 36 _, .det 37 _, .det 38 _, .det 39 _, .det 40 _, .det 41 _, .det 42 _, .det 43 _, .det 44 _, .det 45 _, .det 46 _]) rfl rfl ?_
    refine Head.yes rfl rfl (fun _ _ => rfl) (fun β hβ => Det.norm (F' := [(24, _), (25, _), (26, _), (27, _), (28, _), (29, _), (30, _), (31, _), (32, _), (33, _), (34, _), (35, _), (36, _), (37, _), (38, _), (39, _), (40, _), (41, _), (42, _), (43, _), (44, _), (45, _), (46, _), (9, _), (8, _), (7, _)]) (H' := [(_, _), (_, _), (_, _)]) rfl rfl (det_call en18 rfl (fun w hb ho => PMul_ok (fun p hp => ho.look (List.mem_append_right _ hp))))) ?_
    refine Head.norm (k' := 24) (es' := [.det 24 _, .det 25 _, .det 26 _, .det 27 _, .det 28 _, .det 29 _, .det 30 _, .det 31 _, .det 32 _, .det 33 _, .det 34 _, .det 35 _, .det 36 _, .det 37 _, .det 38 _, .det 39 _, .det 40 _, .det 41 _, .det 42 _, .det 43 _, .det 44 _, .det 45 _, .det 46 _, .det 47 _]) rfl rfl ?_
    refine Head.yes rfl rfl (fun _ _ => rfl) (fun β hβ => Det.norm (F' := [(24, _), (25, _), (26, _), (27, _), (28, _), (29, _), (30, _), (31, _), (32, _), (33, _), (34, _), (35, _), (36, _), (37, _), (38, _), (39, _), (40, _), (41, _), (42, _), (43, _), (44, _), (45, _), (46, _), (47, _), (9, _), (8, _), (7, _)]) (H' := [(_, _), (_, _), (_, _)]) rfl rfl (Det.to (det_neq30 rfl rfl) (congrArg Value.bool (nb hr.r2)))) ?_
    refine Head.norm (k' := 25) (es' := [.det 24 _, .det 25 _, .det 26 _, .det 27 _, .det 28 _, .det 29 _, .det 30 _, .det 31 _, .det 32 _, .det 33 _, .det 34 _, .det 35 _, .det 36 _, .det 37 _, .det 38 _, .det 39 _, .det 40 _, .det 41 _, .det 42 _, .det 43 _, .det 44 _, .det 45 _, .det 46 _, .det 47 _, .det 48 _]) rfl rfl ?_
    refine Head.det rfl (fun β hβ => Det.norm (F' := [(24, _), (25, _), (26, _), (27, _), (28, _), (29, _), (30, _), (31, _), (32, _), (33, _), (34, _), (35, _), (36, _), (37, _), (38, _), (39, _), (40, _), (41, _), (42, _), (43, _), (44, _), (45, _), (46, _), (47, _), (48, _), (9, _), (8, _), (7, _)]) (H' := [(_, _), (_, _), (_, _)]) rfl rfl (det_pick rfl rfl)) ?_
    refine Head.norm (k' := 26) (es' := [.det 24 _, .det 25 _, .det 26 _, .det 27 _, .det 28 _, .det 29 _, .det 30 _, .det 31 _, .det 32 _, .det 33 _, .det 34 _, .det 35 _, .det 36 _, .det 37 _, .det 38 _, .det 39 _, .det 40 _, .det 41 _, .det 42 _, .det 43 _, .det 44 _, .det 45 _, .det 46 _, .det 47 _, .det 48 _, .det 49 _]) rfl rfl ?_
    refine Head.det rfl (fun β hβ => Det.norm (F' := [(24, _), (25, _), (26, _), (27, _), (28, _), (29, _), (30, _), (31, _), (32, _), (33, _), (34, _), (35, _), (36, _), (37, _), (38, _), (39, _), (40, _), (41, _), (42, _), (43, _), (44, _), (45, _), (46, _), (47, _), (48, _), (49, _), (9, _), (8, _), (7, _)]) (H' := [(_, _), (_, _), (_, _)]) rfl rfl (det_move rfl)) ?_
    refine Head.norm (k' := 27) (es' := [.det 24 _, .det 25 _, .det 26 _, .det 27 _, .det 28 _, .det 29 _, .det 30 _, .det 31 _, .det 32 _, .det 33 _, .det 34 _, .det 35 _, .det 36 _, .det 37 _, .det 38 _, .det 39 _, .det 40 _, .det 41 _, .det 42 _, .det 43 _, .det 44 _, .det 45 _, .det 46 _, .det 47 _, .det 48 _, .det 49 _, .det 50 _]) rfl rfl ?_
    refine Head.yes rfl rfl (fun _ _ => rfl) (fun β hβ => Det.norm (F' := ((24, _) :: (25, _) :: (26, _) :: (27, _) :: (28, _) :: (29, _) :: (30, _) :: (31, _) :: (32, _) :: (33, _) :: (34, _) :: (35, _) :: (36, _) :: (37, _) :: (38, _) :: (39, _) :: (40, _) :: (41, _) :: (42, _) :: (43, _) :: (44, _) :: (45, _) :: (46, _) :: (47, _) :: (48, _) :: (49, _) :: (50, _) :: (9, _) :: (8, _) :: (7, _) :: [])) (H' := [(_, _), (_, _), (_, _)]) rfl rfl (det_loadA ty30 rfl (List.Mem.head _) rfl)) ?_
    refine Head.norm (k' := 28) (es' := [.det 24 _, .det 25 _, .det 26 _, .det 27 _, .det 28 _, .det 29 _, .det 30 _, .det 31 _, .det 32 _, .det 33 _, .det 34 _, .det 35 _, .det 36 _, .det 37 _, .det 38 _, .det 39 _, .det 40 _, .det 41 _, .det 42 _, .det 43 _, .det 44 _, .det 45 _, .det 46 _, .det 47 _, .det 48 _, .det 49 _, .det 50 _, .det 51 _]) rfl rfl ?_
    refine Head.yes rfl rfl (fun _ _ => rfl) (fun β hβ => Det.norm (F' := ((24, _) :: (25, _) :: (26, _) :: (27, _) :: (28, _) :: (29, _) :: (30, _) :: (31, _) :: (32, _) :: (33, _) :: (34, _) :: (35, _) :: (36, _) :: (37, _) :: (38, _) :: (39, _) :: (40, _) :: (41, _) :: (42, _) :: (43, _) :: (44, _) :: (45, _) :: (46, _) :: (47, _) :: (48, _) :: (49, _) :: (50, _) :: (9, _) :: (8, _) :: (7, _) :: [])) (H' := [(_, _), (_, _), (_, _)]) rfl rfl (det_loadA ty35 rfl (List.Mem.tail _ (List.Mem.tail _ (List.Mem.head _))) rfl)) ?_
    refine Head.norm (k' := 29) (es' := [.det 24 _, .det 25 _, .det 26 _, .det 27 _, .det 28 _, .det 29 _, .det 30 _, .det 31 _, .det 32 _, .det 33 _, .det 34 _, .det 35 _, .det 36 _, .det 37 _, .det 38 _, .det 39 _, .det 40 _, .det 41 _, .det 42 _, .det 43 _, .det 44 _, .det 45 _, .det 46 _, .det 47 _, .det 48 _, .det 49 _, .det 50 _, .det 51 _, .det 52 _]) rfl rfl ?_
    refine Head.yes rfl rfl (fun _ _ => rfl) (fun β hβ => Det.norm (F' := ((24, _) :: (25, _) :: (26, _) :: (27, _) :: (28, _) :: (29, _) :: (30, _) :: (31, _) :: (32, _) :: (33, _) :: (34, _) :: (35, _) :: (36, _) :: (37, _) :: (38, _) :: (39, _) :: (40, _) :: (41, _) :: (42, _) :: (43, _) :: (44, _) :: (45, _) :: (46, _) :: (47, _) :: (48, _) :: (49, _) :: (50, _) :: (51, _) :: (52, _) :: (9, _) :: (8, _) :: (7, _) :: [])) (H' := [(_, _), (_, _), (_, _)]) rfl rfl (det_call en18 rfl (fun w hb ho => PMul_ok (fun p hp => ho.look (List.mem_append_right _ hp))))) ?_
    refine Head.norm (k' := 30) (es' := (.det 24 _ :: .det 25 _ :: .det 26 _ :: .det 27 _ :: .det 28 _ :: .det 29 _ :: .det 30 _ :: .det 31 _ :: .det 32 _ :: .det 33 _ :: .det 34 _ :: .det 35 _ :: .det 36 _ :: .det 37 _ :: .det 38 _ :: .det 39 _ :: .det 40 _ :: .det 41 _ :: .det 42 _ :: .det 43 _ :: .det 44 _ :: .det 45 _ :: .det 46 _ :: .det 47 _ :: .det 48 _ :: .det 49 _ :: .det 50 _ :: .det 51 _ :: .det 52 _ :: .det 53 _ :: [])) rfl rfl ?_
    refine Head.yes rfl rfl (fun _ _ => rfl) (fun β hβ => Det.norm (F' := ((24, _) :: (25, _) :: (26, _) :: (27, _) :: (28, _) :: (29, _) :: (30, _) :: (31, _) :: (32, _) :: (33, _) :: (34, _) :: (35, _) :: (36, _) :: (37, _) :: (38, _) :: (39, _) :: (40, _) :: (41, _) :: (42, _) :: (43, _) :: (44, _) :: (45, _) :: (46, _) :: (47, _) :: (48, _) :: (49, _) :: (50, _) :: (51, _) :: (52, _) :: (53, _) :: (9, _) :: (8, _) :: (7, _) :: [])) (H' := [(_, _), (_, _), (_, _)]) rfl rfl (det_call en22 rfl (fun w hb ho => PNeg_ok (fun p hp => ho.look (List.mem_append_right _ hp))))) ?_
    refine Head.norm (k' := 31) (es' := (.det 24 _ :: .det 25 _ :: .det 26 _ :: .det 27 _ :: .det 28 _ :: .det 29 _ :: .det 30 _ :: .det 31 _ :: .det 32 _ :: .det 33 _ :: .det 34 _ :: .det 35 _ :: .det 36 _ :: .det 37 _ :: .det 38 _ :: .det 39 _ :: .det 40 _ :: .det 41 _ :: .det 42 _ :: .det 43 _ :: .det 44 _ :: .det 45 _ :: .det 46 _ :: .det 47 _ :: .det 48 _ :: .det 49 _ :: .det 50 _ :: .det 51 _ :: .det 52 _ :: .det 53 _ :: .det 54 _ :: [])) rfl rfl ?_
    refine Head.yes rfl rfl (fun _ _ => rfl) (fun β hβ => Det.norm (F' := ((24, _) :: (25, _) :: (26, _) :: (27, _) :: (28, _) :: (29, _) :: (30, _) :: (31, _) :: (32, _) :: (33, _) :: (34, _) :: (35, _) :: (36, _) :: (37, _) :: (38, _) :: (39, _) :: (40, _) :: (41, _) :: (42, _) :: (43, _) :: (44, _) :: (45, _) :: (46, _) :: (47, _) :: (48, _) :: (49, _) :: (50, _) :: (9, _) :: (8, _) :: (7, _) :: [])) (H' := [(_, _), (_, _), (_, _)]) rfl rfl (det_loadA ty30 rfl (List.Mem.head _) rfl)) ?_
    refine Head.norm (k' := 32) (es' := (.det 24 _ :: .det 25 _ :: .det 26 _ :: .det 27 _ :: .det 28 _ :: .det 29 _ :: .det 30 _ :: .det 31 _ :: .det 32 _ :: .det 33 _ :: .det 34 _ :: .det 35 _ :: .det 36 _ :: .det 37 _ :: .det 38 _ :: .det 39 _ :: .det 40 _ :: .det 41 _ :: .det 42 _ :: .det 43 _ :: .det 44 _ :: .det 45 _ :: .det 46 _ :: .det 47 _ :: .det 48 _ :: .det 49 _ :: .det 50 _ :: .det 51 _ :: .det 52 _ :: .det 53 _ :: .det 54 _ :: .det 55 _ :: [])) rfl rfl ?_
    refine Head.yes rfl rfl (fun _ _ => rfl) (fun β hβ => Det.norm (F' := ((24, _) :: (25, _) :: (26, _) :: (27, _) :: (28, _) :: (29, _) :: (30, _) :: (31, _) :: (32, _) :: (33, _) :: (34, _) :: (35, _) :: (36, _) :: (37, _) :: (38, _) :: (39, _) :: (40, _) :: (41, _) :: (42, _) :: (43, _) :: (44, _) :: (45, _) :: (46, _) :: (47, _) :: (48, _) :: (49, _) :: (50, _) :: (9, _) :: (8, _) :: (7, _) :: [])) (H' := [(_, _), (_, _), (_, _)]) rfl rfl (det_loadA ty35 rfl (List.Mem.tail _ (List.Mem.tail _ (List.Mem.head _))) rfl)) ?_
    refine Head.norm (k' := 33) (es' := (.det 24 _ :: .det 25 _ :: .det 26 _ :: .det 27 _ :: .det 28 _ :: .det 29 _ :: .det 30 _ :: .det 31 _ :: .det 32 _ :: .det 33 _ :: .det 34 _ :: .det 35 _ :: .det 36 _ :: .det 37 _ :: .det 38 _ :: .det 39 _ :: .det 40 _ :: .det 41 _ :: .det 42 _ :: .det 43 _ :: .det 44 _ :: .det 45 _ :: .det 46 _ :: .det 47 _ :: .det 48 _ :: .det 49 _ :: .det 50 _ :: .det 51 _ :: .det 52 _ :: .det 53 _ :: .det 54 _ :: .det 55 _ :: .det 56 _ :: [])) rfl rfl ?_
    refine Head.yes rfl rfl (fun _ _ => rfl) (fun β hβ => Det.norm (F' := ((24, _) :: (25, _) :: (26, _) :: (27, _) :: (28, _) :: (29, _) :: (30, _) :: (31, _) :: (32, _) :: (33, _) :: (34, _) :: (35, _) :: (36, _) :: (37, _) :: (38, _) :: (39, _) :: (40, _) :: (41, _) :: (42, _) :: (43, _) :: (44, _) :: (45, _) :: (46, _) :: (47, _) :: (48, _) :: (49, _) :: (50, _) :: (51, _) :: (52, _) :: (53, _) :: (54, _) :: (56, _) :: (9, _) :: (8, _) :: (7, _) :: [])) (H' := [(_, _), (_, _), (_, _)]) rfl rfl (det_call en27 rfl (fun w hb ho => RNeg_ok (fun p hp => ho.look (List.mem_append_right _ hp))))) ?_
    refine Head.norm (k' := 34) (es' := (.det 24 _ :: .det 25 _ :: .det 26 _ :: .det 27 _ :: .det 28 _ :: .det 29 _ :: .det 30 _ :: .det 31 _ :: .det 32 _ :: .det 33 _ :: .det 34 _ :: .det 35 _ :: .det 36 _ :: .det 37 _ :: .det 38 _ :: .det 39 _ :: .det 40 _ :: .det 41 _ :: .det 42 _ :: .det 43 _ :: .det 44 _ :: .det 45 _ :: .det 46 _ :: .det 47 _ :: .det 48 _ :: .det 49 _ :: .det 50 _ :: .det 51 _ :: .det 52 _ :: .det 53 _ :: .det 54 _ :: .det 55 _ :: .det 56 _ :: .det 57 _ :: [])) rfl rfl ?_
    refine Head.yes rfl rfl (fun _ _ => rfl) (fun β hβ => Det.norm (F' := ((24, _) :: (25, _) :: (26, _) :: (27, _) :: (28, _) :: (29, _) :: (30, _) :: (31, _) :: (32, _) :: (33, _) :: (34, _) :: (35, _) :: (36, _) :: (37, _) :: (38, _) :: (39, _) :: (40, _) :: (41, _) :: (42, _) :: (43, _) :: (44, _) :: (45, _) :: (46, _) :: (47, _) :: (48, _) :: (49, _) :: (50, _) :: (51, _) :: (52, _) :: (53, _) :: (54, _) :: (55, _) :: (56, _) :: (57, _) :: (9, _) :: (8, _) :: (7, _) :: [])) (H' := [(_, _), (_, _), (_, _)]) rfl rfl (det_call en18 rfl (fun w hb ho => PMul_ok (fun p hp => ho.look (List.mem_append_right _ hp))))) ?_
    refine Head.norm (k' := 35) (es' := (.det 24 _ :: .det 25 _ :: .det 26 _ :: .det 27 _ :: .det 28 _ :: .det 29 _ :: .det 30 _ :: .det 31 _ :: .det 32 _ :: .det 33 _ :: .det 34 _ :: .det 35 _ :: .det 36 _ :: .det 37 _ :: .det 38 _ :: .det 39 _ :: .det 40 _ :: .det 41 _ :: .det 42 _ :: .det 43 _ :: .det 44 _ :: .det 45 _ :: .det 46 _ :: .det 47 _ :: .det 48 _ :: .det 49 _ :: .det 50 _ :: .det 51 _ :: .det 52 _ :: .det 53 _ :: .det 54 _ :: .det 55 _ :: .det 56 _ :: .det 57 _ :: .det 58 _ :: [])) rfl rfl ?_
    refine Head.yes rfl rfl (fun _ _ => rfl) (fun β hβ => Det.norm (F' := ((24, _) :: (25, _) :: (26, _) :: (27, _) :: (28, _) :: (29, _) :: (30, _) :: (31, _) :: (32, _) :: (33, _) :: (34, _) :: (35, _) :: (36, _) :: (37, _) :: (38, _) :: (39, _) :: (40, _) :: (41, _) :: (42, _) :: (43, _) :: (44, _) :: (45, _) :: (46, _) :: (47, _) :: (48, _) :: (49, _) :: (50, _) :: (51, _) :: (52, _) :: (53, _) :: (54, _) :: (55, _) :: (56, _) :: (57, _) :: (58, _) :: (9, _) :: (8, _) :: (7, _) :: [])) (H' := [(_, _), (_, _), (_, _)]) rfl rfl (Det.to (det_neq30 rfl rfl) (congrArg Value.bool (nb hr.r3)))) ?_
    refine Head.norm (k' := 36) (es' := (.det 24 _ :: .det 25 _ :: .det 26 _ :: .det 27 _ :: .det 28 _ :: .det 29 _ :: .det 30 _ :: .det 31 _ :: .det 32 _ :: .det 33 _ :: .det 34 _ :: .det 35 _ :: .det 36 _ :: .det 37 _ :: .det 38 _ :: .det 39 _ :: .det 40 _ :: .det 41 _ :: .det 42 _ :: .det 43 _ :: .det 44 _ :: .det 45 _ :: .det 46 _ :: .det 47 _ :: .det 48 _ :: .det 49 _ :: .det 50 _ :: .det 51 _ :: .det 52 _ :: .det 53 _ :: .det 54 _ :: .det 55 _ :: .det 56 _ :: .det 57 _ :: .det 58 _ :: .det 59 _ :: [])) rfl rfl ?_
    refine Head.det rfl (fun β hβ => Det.norm (F' := ((24, _) :: (25, _) :: (26, _) :: (27, _) :: (28, _) :: (29, _) :: (30, _) :: (31, _) :: (32, _) :: (33, _) :: (34, _) :: (35, _) :: (36, _) :: (37, _) :: (38, _) :: (39, _) :: (40, _) :: (41, _) :: (42, _) :: (43, _) :: (44, _) :: (45, _) :: (46, _) :: (47, _) :: (48, _) :: (49, _) :: (50, _) :: (51, _) :: (52, _) :: (53, _) :: (54, _) :: (55, _) :: (56, _) :: (57, _) :: (58, _) :: (59, _) :: (9, _) :: (8, _) :: (7, _) :: [])) (H' := [(_, _), (_, _), (_, _)]) rfl rfl (det_pick rfl rfl)) ?_
    refine Head.norm (k' := 37) (es' := (.det 24 _ :: .det 25 _ :: .det 26 _ :: .det 27 _ :: .det 28 _ :: .det 29 _ :: .det 30 _ :: .det 31 _ :: .det 32 _ :: .det 33 _ :: .det 34 _ :: .det 35 _ :: .det 36 _ :: .det 37 _ :: .det 38 _ :: .det 39 _ :: .det 40 _ :: .det 41 _ :: .det 42 _ :: .det 43 _ :: .det 44 _ :: .det 45 _ :: .det 46 _ :: .det 47 _ :: .det 48 _ :: .det 49 _ :: .det 50 _ :: .det 51 _ :: .det 52 _ :: .det 53 _ :: .det 54 _ :: .det 55 _ :: .det 56 _ :: .det 57 _ :: .det 58 _ :: .det 59 _ :: .det 60 _ :: [])) rfl rfl ?_
    refine Head.done ⟨by kernel_rfl, fun β hβ => ?_⟩
    refine OpsW.norm (F' := ((24, _) :: (25, _) :: (26, _) :: (27, _) :: (28, _) :: (29, _) :: (30, _) :: (31, _) :: (32, _) :: (33, _) :: (34, _) :: (35, _) :: (36, _) :: (37, _) :: (38, _) :: (39, _) :: (40, _) :: (41, _) :: (42, _) :: (43, _) :: (44, _) :: (45, _) :: (46, _) :: (47, _) :: (48, _) :: (49, _) :: (50, _) :: (51, _) :: (52, _) :: (53, _) :: (54, _) :: (55, _) :: (56, _) :: (57, _) :: (58, _) :: (59, _) :: (60, _) :: (9, _) :: (8, _) :: (7, _) :: [])) (H' := [(_, _), (_, _), (_, _)]) rfl rfl ?_
    refine sNext ?_
    refine W.keep (F' := [(60, _), (9, _), (7, _)]) ⟨rfl, rfl, rfl, trivial⟩ ?_
    refine W.cond_false rfl ?_
    refine sSkip ?_
    refine sSeq ?_
    refine W.draw mixed 23 [[], [], [0, 1], [], [0, 1, 2, 3], [0, 1, 2, 3, 4], [0, 1, 2, 3, 4, 5], [0, 1, 2, 3, 4, 5], [0, 1, 2, 3, 4, 5, 6, 7], [0, 1, 2, 3, 4, 5], [0, 1, 2, 3, 4, 5, 6, 7, 8, 9], [0, 1, 2, 3, 4, 5, 6, 7, 8, 9, 10], [0, 1, 2, 3, 4, 5, 6, 7, 8, 9, 10, 11], [0, 1, 2, 3, 4, 5, 6, 7, 8, 9, 10, 11, 12], [0, 1, 2, 3, 4, 5, 6, 7, 8, 9, 10, 11, 12, 13], [0, 1, 2, 3, 4, 5, 6, 7, 8, 9, 10, 11, 12, 13, 14], [0, 1, 2, 3, 4, 5, 6, 7, 8, 9, 10, 11, 12, 13, 14, 15], [0, 1, 2, 3, 4, 5, 6, 7, 8, 9, 10, 11, 12, 13, 14, 15, 16], [0, 1, 2, 3, 4, 5, 6, 7, 8, 9, 10, 11, 12, 13, 14, 15, 16], [0, 1, 2, 3, 4, 5, 6, 7, 8, 9, 10, 11, 12, 13, 14, 15, 16, 17, 18], [0, 1, 2, 3, 4, 5, 6, 7, 8, 9, 10, 11, 12, 13, 14, 15, 16, 17, 18, 19], [0, 1, 2, 3, 4, 5, 6, 7, 8, 9, 10, 11, 12, 13, 14, 15, 16, 17, 18, 19, 20], [0, 1, 2, 3, 4, 5, 6, 7, 8, 9, 10, 11, 12, 13, 14, 15, 16, 17, 18, 19, 20, 21]] (cl_lt (by decide)) ?_
    refine Head.det rfl (fun β hβ => Det.norm (F' := [(60, _), (9, _), (7, _)]) (H' := [(_, _), (_, _), (_, _)]) rfl rfl (det_loadA ty30 rfl (List.Mem.head _) rfl)) ?_
    refine Head.norm (k' := 1) (es' := [.det 61 _]) rfl rfl ?_
    refine Head.det rfl (fun β hβ => Det.norm (F' := [(60, _), (9, _), (7, _)]) (H' := [(_, _), (_, _), (_, _)]) rfl rfl (det_call en26 rfl (fun w hb ho => ROf_ok (n := 1) (by decide) (fun p hp => ho.look (List.mem_append_right _ hp))))) ?_
    refine Head.norm (k' := 2) (es' := [.det 61 _, .det 62 _]) rfl rfl ?_
    refine Head.det rfl (fun β hβ => Det.norm (F' := [(61, _), (62, _), (60, _), (9, _), (7, _)]) (H' := [(_, _), (_, _), (_, _)]) rfl rfl (det_call en18 rfl (fun w hb ho => PMul_ok (fun p hp => ho.look (List.mem_append_right _ hp))))) ?_
    refine Head.norm (k' := 3) (es' := [.det 61 _, .det 62 _, .det 63 _]) rfl rfl ?_
    refine Head.det rfl (fun β hβ => Det.norm (F' := [(60, _), (9, _), (7, _)]) (H' := [(_, _), (_, _), (_, _)]) rfl rfl (det_loadA ty30 rfl (List.Mem.head _) rfl)) ?_
    refine Head.norm (k' := 4) (es' := [.det 61 _, .det 62 _, .det 63 _, .det 64 _]) rfl rfl ?_
    refine Head.det rfl (fun β hβ => Det.norm (F' := [(61, _), (62, _), (63, _), (64, _), (60, _), (9, _), (7, _)]) (H' := [(_, _), (_, _), (_, _)]) rfl rfl (Det.to (det_eql30 rfl rfl) (congrArg Value.bool (yb hr.r4)))) ?_
    refine Head.norm (k' := 5) (es' := [.det 61 _, .det 62 _, .det 63 _, .det 64 _, .det 65 _]) rfl rfl ?_
    refine Head.det rfl (fun β hβ => Det.norm (F' := [(61, _), (62, _), (63, _), (64, _), (65, _), (60, _), (9, _), (7, _)]) (H' := [(_, _), (_, _), (_, _)]) rfl rfl (det_move rfl)) ?_
    refine Head.norm (k' := 6) (es' := [.det 61 _, .det 62 _, .det 63 _, .det 64 _, .det 65 _, .det 66 _]) rfl rfl ?_
    refine Head.yes rfl rfl (fun _ _ => rfl) (fun β hβ => Det.norm (F' := [(61, _), (62, _), (63, _), (64, _), (65, _), (66, _), (60, _), (9, _), (7, _)]) (H' := [(_, _), (_, _), (_, _)]) rfl rfl (det_loadA ty30 rfl (List.Mem.head _) rfl)) ?_
    refine Head.norm (k' := 7) (es' := [.det 61 _, .det 62 _, .det 63 _, .det 64 _, .det 65 _, .det 66 _, .det 67 _]) rfl rfl ?_
    refine Head.yes rfl rfl (fun _ _ => rfl) (fun β hβ => Det.norm (F' := [(61, _), (62, _), (63, _), (64, _), (65, _), (66, _), (60, _), (9, _), (7, _)]) (H' := [(_, _), (_, _), (_, _)]) rfl rfl (det_zero bz35)) ?_
    refine Head.norm (k' := 8) (es' := [.det 61 _, .det 62 _, .det 63 _, .det 64 _, .det 65 _, .det 66 _, .det 67 _, .det 68 _]) rfl rfl ?_
    refine Head.yes rfl rfl (fun _ _ => rfl) (fun β hβ => Det.norm (F' := [(61, _), (62, _), (63, _), (64, _), (65, _), (66, _), (67, _), (68, _), (60, _), (9, _), (7, _)]) (H' := [(_, _), (_, _), (_, _)]) rfl rfl (det_call en18 rfl (fun w hb ho => PMul_ok (p := gp lc) (x := 0) (fun p hp => ho.look (List.mem_append_right _ hp))))) ?_
    refine Head.norm (k' := 9) (es' := [.det 61 _, .det 62 _, .det 63 _, .det 64 _, .det 65 _, .det 66 _, .det 67 _, .det 68 _, .det 69 _]) rfl rfl ?_
    refine Head.yes rfl rfl (fun _ _ => rfl) (fun β hβ => Det.norm (F' := [(61, _), (62, _), (63, _), (64, _), (65, _), (66, _), (60, _), (9, _), (7, _)]) (H' := [(_, _), (_, _), (_, _)]) rfl rfl (det_zero bz30)) ?_
    refine Head.norm (k' := 10) (es' := [.det 61 _, .det 62 _, .det 63 _, .det 64 _, .det 65 _, .det 66 _, .det 67 _, .det 68 _, .det 69 _, .det 70 _]) rfl rfl ?_
    refine Head.yes rfl rfl (fun _ _ => rfl) (fun β hβ => Det.norm (F' := [(61, _), (62, _), (63, _), (64, _), (65, _), (66, _), (67, _), (68, _), (69, _), (70, _), (60, _), (9, _), (7, _)]) (H' := [(_, _), (_, _), (_, _)]) rfl rfl (Det.to (det_eql30 rfl rfl) (congrArg Value.bool (yb hr.r5)))) ?_
    refine Head.norm (k' := 11) (es' := [.det 61 _, .det 62 _, .det 63 _, .det 64 _, .det 65 _, .det 66 _, .det 67 _, .det 68 _, .det 69 _, .det 70 _, .det 71 _]) rfl rfl ?_
    refine Head.det rfl (fun β hβ => Det.norm (F' := [(61, _), (62, _), (63, _), (64, _), (65, _), (66, _), (67, _), (68, _), (69, _), (70, _), (71, _), (60, _), (9, _), (7, _)]) (H' := [(_, _), (_, _), (_, _)]) rfl rfl (det_pick rfl rfl)) ?_
    refine Head.norm (k' := 12) (es' := [.det 61 _, .det 62 _, .det 63 _, .det 64 _, .det 65 _, .det 66 _, .det 67 _, .det 68 _, .det 69 _, .det 70 _, .det 71 _, .det 72 _]) rfl rfl ?_
    refine Head.det rfl (fun β hβ => Det.norm (F' := [(61, _), (62, _), (63, _), (64, _), (65, _), (66, _), (67, _), (68, _), (69, _), (70, _), (71, _), (72, _), (60, _), (9, _), (7, _)]) (H' := [(_, _), (_, _), (_, _)]) rfl rfl (det_move rfl)) ?_
    refine Head.norm (k' := 13) (es' := [.det 61 _, .det 62 _, .det 63 _, .det 64 _, .det 65 _, .det 66 _, .det 67 _, .det 68 _, .det 69 _, .det 70 _, .det 71 _, .det 72 _, .det 73 _]) rfl rfl ?_
    refine Head.yes rfl rfl (fun _ _ => rfl) (fun β hβ => Det.norm (F' := [(61, _), (62, _), (63, _), (64, _), (65, _), (66, _), (67, _), (68, _), (69, _), (70, _), (71, _), (72, _), (73, _), (60, _), (9, _), (7, _)]) (H' := [(_, _), (_, _), (_, _)]) rfl rfl (det_loadA ty30 rfl (List.Mem.head _) rfl)) ?_
    refine Head.norm (k' := 14) (es' := [.det 61 _, .det 62 _, .det 63 _, .det 64 _, .det 65 _, .det 66 _, .det 67 _, .det 68 _, .det 69 _, .det 70 _, .det 71 _, .det 72 _, .det 73 _, .det 74 _]) rfl rfl ?_
    refine Head.yes rfl rfl (fun _ _ => rfl) (fun β hβ => Det.norm (F' := [(61, _), (62, _), (63, _), (64, _), (65, _), (66, _), (67, _), (68, _), (69, _), (70, _), (71, _), (72, _), (73, _), (74, _), (60, _), (9, _), (7, _)]) (H' := [(_, _), (_, _), (_, _)]) rfl rfl (Det.to (det_call en31 rfl (fun w hb ho => PIn_ok (fun p hp => ho.look (List.mem_append_right _ hp)))) (congrArg Value.bool (hr.r6)))) ?_
    refine Head.norm (k' := 15) (es' := [.det 61 _, .det 62 _, .det 63 _, .det 64 _, .det 65 _, .det 66 _, .det 67 _, .det 68 _, .det 69 _, .det 70 _, .det 71 _, .det 72 _, .det 73 _, .det 74 _, .det 75 _]) rfl rfl ?_
    refine Head.det rfl (fun β hβ => Det.norm (F' := [(61, _), (62, _), (63, _), (64, _), (65, _), (66, _), (67, _), (68, _), (69, _), (70, _), (71, _), (72, _), (73, _), (74, _), (75, _), (60, _), (9, _), (7, _)]) (H' := [(_, _), (_, _), (_, _)]) rfl rfl (det_pick rfl rfl)) ?_
    refine Head.norm (k' := 16) (es' := [.det 61 _, .det 62 _, .det 63 _, .det 64 _, .det 65 _, .det 66 _, .det 67 _, .det 68 _, .det 69 _, .det 70 _, .det 71 _, .det 72 _, .det 73 _, .det 74 _, .det 75 _, .det 76 _]) rfl rfl ?_
    refine Head.det rfl (fun β hβ => Det.norm (F' := [(61, _), (62, _), (63, _), (64, _), (65, _), (66, _), (67, _), (68, _), (69, _), (70, _), (71, _), (72, _), (73, _), (74, _), (75, _), (76, _), (60, _), (9, _), (7, _)]) (H' := [(_, _), (_, _), (_, _)]) rfl rfl (det_move rfl)) ?_
    refine Head.norm (k' := 17) (es' := [.det 61 _, .det 62 _, .det 63 _, .det 64 _, .det 65 _, .det 66 _, .det 67 _, .det 68 _, .det 69 _, .det 70 _, .det 71 _, .det 72 _, .det 73 _, .det 74 _, .det 75 _, .det 76 _, .det 77 _]) rfl rfl ?_
    refine Head.yes rfl rfl (fun _ _ => rfl) (fun β hβ => Det.norm (F' := [(61, _), (62, _), (63, _), (64, _), (65, _), (66, _), (67, _), (68, _), (69, _), (70, _), (71, _), (72, _), (73, _), (74, _), (75, _), (76, _), (77, _), (60, _), (9, _), (7, _)]) (H' := [(_, _), (_, _), (_, _)]) rfl rfl (det_loadA ty30 rfl (List.Mem.head _) rfl)) ?_
    refine Head.norm (k' := 18) (es' := [.det 61 _, .det 62 _, .det 63 _, .det 64 _, .det 65 _, .det 66 _, .det 67 _, .det 68 _, .det 69 _, .det 70 _, .det 71 _, .det 72 _, .det 73 _, .det 74 _, .det 75 _, .det 76 _, .det 77 _, .det 78 _]) rfl rfl ?_
    refine Head.yes rfl rfl (fun _ _ => rfl) (fun β hβ => Det.norm (F' := [(61, _), (62, _), (63, _), (64, _), (65, _), (66, _), (67, _), (68, _), (69, _), (70, _), (71, _), (72, _), (73, _), (74, _), (75, _), (76, _), (77, _), (60, _), (9, _), (7, _)]) (H' := [(_, _), (_, _), (_, _)]) rfl rfl (det_loadA ty35 rfl (List.Mem.tail _ (List.Mem.tail _ (List.Mem.head _))) rfl)) ?_
    refine Head.norm (k' := 19) (es' := [.det 61 _, .det 62 _, .det 63 _, .det 64 _, .det 65 _, .det 66 _, .det 67 _, .det 68 _, .det 69 _, .det 70 _, .det 71 _, .det 72 _, .det 73 _, .det 74 _, .det 75 _, .det 76 _, .det 77 _, .det 78 _, .det 79 _]) rfl rfl ?_
    refine Head.yes rfl rfl (fun _ _ => rfl) (fun β hβ => Det.norm (F' := [(61, _), (62, _), (63, _), (64, _), (65, _), (66, _), (67, _), (68, _), (69, _), (70, _), (71, _), (72, _), (73, _), (74, _), (75, _), (76, _), (77, _), (78, _), (79, _), (60, _), (9, _), (7, _)]) (H' := [(_, _), (_, _), (_, _)]) rfl rfl (det_call en18 rfl (fun w hb ho => PMul_ok (fun p hp => ho.look (List.mem_append_right _ hp))))) ?_
    refine Head.norm (k' := 20) (es' := [.det 61 _, .det 62 _, .det 63 _, .det 64 _, .det 65 _, .det 66 _, .det 67 _, .det 68 _, .det 69 _, .det 70 _, .det 71 _, .det 72 _, .det 73 _, .det 74 _, .det 75 _, .det 76 _, .det 77 _, .det 78 _, .det 79 _, .det 80 _]) rfl rfl ?_
    refine Head.yes rfl rfl (fun _ _ => rfl) (fun β hβ => Det.norm (F' := [(61, _), (62, _), (63, _), (64, _), (65, _), (66, _), (67, _), (68, _), (69, _), (70, _), (71, _), (72, _), (73, _), (74, _), (75, _), (76, _), (77, _), (78, _), (79, _), (80, _), (60, _), (9, _), (7, _)]) (H' := [(_, _), (_, _), (_, _)]) rfl rfl (Det.to (det_call en23 rfl (fun w hb ho => POn_ok (fun p hp => ho.look (List.mem_append_right _ hp)))) (congrArg Value.bool (hr.r7)))) ?_
    refine Head.norm (k' := 21) (es' := [.det 61 _, .det 62 _, .det 63 _, .det 64 _, .det 65 _, .det 66 _, .det 67 _, .det 68 _, .det 69 _, .det 70 _, .det 71 _, .det 72 _, .det 73 _, .det 74 _, .det 75 _, .det 76 _, .det 77 _, .det 78 _, .det 79 _, .det 80 _, .det 81 _]) rfl rfl ?_
    refine Head.det rfl (fun β hβ => Det.norm (F' := [(61, _), (62, _), (63, _), (64, _), (65, _), (66, _), (67, _), (68, _), (69, _), (70, _), (71, _), (72, _), (73, _), (74, _), (75, _), (76, _), (77, _), (78, _), (79, _), (80, _), (81, _), (60, _), (9, _), (7, _)]) (H' := [(_, _), (_, _), (_, _)]) rfl rfl (det_pick rfl rfl)) ?_
    refine Head.norm (k' := 22) (es' := [.det 61 _, .det 62 _, .det 63 _, .det 64 _, .det 65 _, .det 66 _, .det 67 _, .det 68 _, .det 69 _, .det 70 _, .det 71 _, .det 72 _, .det 73 _, .det 74 _, .det 75 _, .det 76 _, .det 77 _, .det 78 _, .det 79 _, .det 80 _, .det 81 _, .det 82 _]) rfl rfl ?_
    refine Head.det rfl (fun β hβ => Det.norm (F' := [(61, _), (62, _), (63, _), (64, _), (65, _), (66, _), (67, _), (68, _), (69, _), (70, _), (71, _), (72, _), (73, _), (74, _), (75, _), (76, _), (77, _), (78, _), (79, _), (80, _), (81, _), (82, _), (60, _), (9, _), (7, _)]) (H' := [(_, _), (_, _), (_, _)]) rfl rfl (det_assign rfl)) ?_
    refine Head.norm (k' := 23) (es' := [.det 61 _, .det 62 _, .det 63 _, .det 64 _, .det 65 _, .det 66 _, .det 67 _, .det 68 _, .det 69 _, .det 70 _, .det 71 _, .det 72 _, .det 73 _, .det 74 _, .det 75 _, .det 76 _, .det 77 _, .det 78 _, .det 79 _, .det 80 _, .det 81 _, .det 82 _, .det 6 _]) rfl rfl ?_
    refine Head.done ⟨by kernel_rfl, fun β hβ => ?_⟩
    refine OpsW.norm (F' := [(61, _), (62, _), (63, _), (64, _), (65, _), (66, _), (67, _), (68, _), (69, _), (70, _), (71, _), (72, _), (73, _), (74, _), (75, _), (76, _), (77, _), (78, _), (79, _), (80, _), (81, _), (82, _), (6, _), (60, _), (9, _), (7, _)]) (H' := [(_, _), (_, _), (_, _)]) rfl rfl ?_
    refine sNext ?_
    refine W.keep (F' := [(6, _)]) ⟨rfl, trivial⟩ ?_
    refine sRet ?_
    exact done1 Tryd.results7 (rv_tmp rfl) rfl

end Go.Cu
