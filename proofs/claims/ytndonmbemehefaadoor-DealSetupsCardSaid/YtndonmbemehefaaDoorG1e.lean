/-
  The first group: the generator, and which points are in the group: the walks. Conditions: none.
-/
import Derived.Test.YtndonmbemehefaaDoorFp6
import Derived.Test.YtndonmbemehefaaDoorG1d
namespace Go.Cu
open Go Go.Vm Go.RowKit Go.Proofs 
attribute [local irreducible] W OpsW Det Fresh New Writes Vm.Pure Makes Changes ExternTo BuildTo ZeroTo FieldTo IndexTo BinTo SliceTo Vm.Enters
set_option linter.unusedVariables false
set_option linter.unusedSimpArgs false
variable {T : Nat → TypeId × Nat × Nat}

def gX : List Nat := [23, 241, 211, 167, 49, 151, 215, 148, 38, 149, 99, 140, 79, 169, 172, 15, 195, 104, 140, 79, 151, 116, 185, 5, 161, 78, 58, 63, 23, 27, 172, 88, 108, 85, 232, 63, 249, 122, 26, 239, 251, 58, 240, 10, 219, 34, 198, 187]
def gY : List Nat := [8, 179, 244, 129, 227, 170, 160, 241, 160, 158, 48, 237, 116, 29, 138, 228, 252, 245, 224, 149, 213, 208, 10, 246, 0, 219, 24, 203, 44, 4, 179, 237, 208, 60, 199, 68, 162, 136, 138, 228, 12, 170, 35, 41, 70, 197, 231, 225]
def turnL : List Nat := [0, 0, 0, 0, 0, 0, 0, 0, 95, 25, 103, 47, 223, 118, 206, 81, 186, 105, 198, 7, 106, 15, 119, 234, 221, 179, 169, 59, 230, 248, 150, 136, 222, 23, 216, 19, 98, 10, 0, 2, 46, 1, 255, 255, 255, 254, 255, 254]
def sizeL : List Nat := [210, 1, 0, 0, 0, 1, 0, 0]
def gen : Pt := ((readF gX).1, (readF gY).1)
def turn : Fq := (readF turnL).1
def inB (p : Pt) : Bool := decide ((p.1 * turn, p.2) = pneg (times sizeL (times sizeL p)))
theorem gX_sl : SliceTo Tryd.prog 22 48 [(0, .int .u8 23), (1, .int .u8 241), (2, .int .u8 211), (3, .int .u8 167), (4, .int .u8 49), (5, .int .u8 151), (6, .int .u8 215), (7, .int .u8 148), (8, .int .u8 38), (9, .int .u8 149), (10, .int .u8 99), (11, .int .u8 140), (12, .int .u8 79), (13, .int .u8 169), (14, .int .u8 172), (15, .int .u8 15), (16, .int .u8 195), (17, .int .u8 104), (18, .int .u8 140), (19, .int .u8 79), (20, .int .u8 151), (21, .int .u8 116), (22, .int .u8 185), (23, .int .u8 5), (24, .int .u8 161), (25, .int .u8 78), (26, .int .u8 58), (27, .int .u8 63), (28, .int .u8 23), (29, .int .u8 27), (30, .int .u8 172), (31, .int .u8 88), (32, .int .u8 108), (33, .int .u8 85), (34, .int .u8 232), (35, .int .u8 63), (36, .int .u8 249), (37, .int .u8 122), (38, .int .u8 26), (39, .int .u8 239), (40, .int .u8 251), (41, .int .u8 58), (42, .int .u8 240), (43, .int .u8 10), (44, .int .u8 219), (45, .int .u8 34), (46, .int .u8 198), (47, .int .u8 187)] (bcells gX ++ []) 5 := SliceTo.of fun _ => by kernel_rfl
theorem gX_small : ∀ c ∈ gX, c < 256 := by decide
theorem gY_sl : SliceTo Tryd.prog 22 48 [(0, .int .u8 8), (1, .int .u8 179), (2, .int .u8 244), (3, .int .u8 129), (4, .int .u8 227), (5, .int .u8 170), (6, .int .u8 160), (7, .int .u8 241), (8, .int .u8 160), (9, .int .u8 158), (10, .int .u8 48), (11, .int .u8 237), (12, .int .u8 116), (13, .int .u8 29), (14, .int .u8 138), (15, .int .u8 228), (16, .int .u8 252), (17, .int .u8 245), (18, .int .u8 224), (19, .int .u8 149), (20, .int .u8 213), (21, .int .u8 208), (22, .int .u8 10), (23, .int .u8 246), (24, .int .u8 0), (25, .int .u8 219), (26, .int .u8 24), (27, .int .u8 203), (28, .int .u8 44), (29, .int .u8 4), (30, .int .u8 179), (31, .int .u8 237), (32, .int .u8 208), (33, .int .u8 60), (34, .int .u8 199), (35, .int .u8 68), (36, .int .u8 162), (37, .int .u8 136), (38, .int .u8 138), (39, .int .u8 228), (40, .int .u8 12), (41, .int .u8 170), (42, .int .u8 35), (43, .int .u8 41), (44, .int .u8 70), (45, .int .u8 197), (46, .int .u8 231), (47, .int .u8 225)] (bcells gY ++ []) 5 := SliceTo.of fun _ => by kernel_rfl
theorem gY_small : ∀ c ∈ gY, c < 256 := by decide
theorem turnL_sl : SliceTo Tryd.prog 22 48 [(0, .int .u8 0), (1, .int .u8 0), (2, .int .u8 0), (3, .int .u8 0), (4, .int .u8 0), (5, .int .u8 0), (6, .int .u8 0), (7, .int .u8 0), (8, .int .u8 95), (9, .int .u8 25), (10, .int .u8 103), (11, .int .u8 47), (12, .int .u8 223), (13, .int .u8 118), (14, .int .u8 206), (15, .int .u8 81), (16, .int .u8 186), (17, .int .u8 105), (18, .int .u8 198), (19, .int .u8 7), (20, .int .u8 106), (21, .int .u8 15), (22, .int .u8 119), (23, .int .u8 234), (24, .int .u8 221), (25, .int .u8 179), (26, .int .u8 169), (27, .int .u8 59), (28, .int .u8 230), (29, .int .u8 248), (30, .int .u8 150), (31, .int .u8 136), (32, .int .u8 222), (33, .int .u8 23), (34, .int .u8 216), (35, .int .u8 19), (36, .int .u8 98), (37, .int .u8 10), (38, .int .u8 0), (39, .int .u8 2), (40, .int .u8 46), (41, .int .u8 1), (42, .int .u8 255), (43, .int .u8 255), (44, .int .u8 255), (45, .int .u8 254), (46, .int .u8 255), (47, .int .u8 254)] (bcells turnL ++ []) 5 := SliceTo.of fun _ => by kernel_rfl
theorem turnL_small : ∀ c ∈ turnL, c < 256 := by decide
theorem sizeL_sl : SliceTo Tryd.prog 22 8 [(0, .int .u8 210), (1, .int .u8 1), (2, .int .u8 0), (3, .int .u8 0), (4, .int .u8 0), (5, .int .u8 1), (6, .int .u8 0), (7, .int .u8 0)] (bcells sizeL ++ []) 5 := SliceTo.of fun _ => by kernel_rfl
theorem sizeL_small : ∀ c ∈ sizeL, c < 256 := by decide

theorem en59 : Vm.Enters Tryd.prog 59 := Vm.Enters.of fun _ _ => by kernel_rfl
theorem en15 : Vm.Enters Tryd.prog 15 := Vm.Enters.of fun _ _ => by kernel_rfl
theorem Gen_ok  {w : World} (hG : Blocks (GH T) w)  : Vm.Pure Tryd.prog 41 #[] w (encP gen) := by
  refine pure_of_W (n := 18) (args := []) Tryd.func41 rfl Tryd.ntmps41 (Nat.le_of_ble_eq_true rfl) hG ?_
  refine sStart ?_
  refine sSeq ?_
  refine W.region ?_
  refine OpsW.fresh (fr_alloc z31) rfl fun b0 => ?_
  refine sNext ?_
  refine sSeq ?_
  refine W.region ?_
  refine OpsW.fresh (fr_buildSlice rfl gX_sl) rfl fun b6 => ?_
  refine OpsW.det (det_call en15 rfl (fun w hb ho => Read_ok (G' := [(b6, blk (bcells gX ++ []) 5)]) (Bs.of gX_small (Nat.le_refl _)) (blocks_cons (hb _ (List.Mem.head _)) ho.blocks))) rfl ?_
  refine OpsW.det (det_move rfl) rfl ?_
  refine OpsW.det (det_extract rfl rfl) rfl ?_
  refine OpsW.det (det_extract rfl rfl) rfl ?_
  refine OpsW.fresh (fr_alloc z29) rfl fun b1 => ?_
  refine OpsW.store sz29 rfl rfl rfl rfl rfl (Upd.here) rfl ?_
  refine OpsW.det (det_assign rfl) rfl ?_
  refine sNext ?_
  refine W.keep (F' := [(1, _), (0, _)]) ⟨rfl, rfl, trivial⟩ ?_
  refine sSeq ?_
  refine W.region ?_
  refine OpsW.fresh (fr_buildSlice rfl gY_sl) rfl fun b11 => ?_
  refine OpsW.det (det_call en15 rfl (fun w hb ho => Read_ok (G' := [(b11, blk (bcells gY ++ []) 5)]) (Bs.of gY_small (Nat.le_refl _)) (blocks_cons (hb _ (List.Mem.head _)) ho.blocks))) rfl ?_
  refine OpsW.det (det_move rfl) rfl ?_
  refine OpsW.det (det_extract rfl rfl) rfl ?_
  refine OpsW.det (det_extract rfl rfl) rfl ?_
  refine OpsW.fresh (fr_alloc z29) rfl fun b3 => ?_
  refine OpsW.store sz29 rfl rfl rfl rfl rfl (Upd.here) rfl ?_
  refine OpsW.det (det_assign rfl) rfl ?_
  refine sNext ?_
  refine W.keep (F' := [(3, _), (1, _), (0, _)]) ⟨rfl, rfl, rfl, trivial⟩ ?_
  refine sSeq ?_
  refine W.region ?_
  refine OpsW.det (det_loadA ty29 rfl (List.Mem.tail _ (List.Mem.tail _ (List.Mem.head _))) rfl) rfl ?_
  refine OpsW.det (det_loadA ty29 rfl (List.Mem.head _) rfl) rfl ?_
  refine OpsW.det (det_build rfl bld31) rfl ?_
  refine OpsW.store sz31 rfl rfl rfl rfl rfl (Upd.there (Upd.there (Upd.there (Upd.there (Upd.here))))) rfl ?_
  refine sNext ?_
  refine W.keep (F' := [(0, _)]) ⟨rfl, trivial⟩ ?_
  refine sRet ?_
  exact done1 Tryd.results41 (rv_cellA ty31 rfl (List.Mem.tail _ (List.Mem.tail _ (List.Mem.tail _ (List.Mem.tail _ (List.Mem.head _))))) rfl) rfl
theorem PIn_ok {p : Pt} {w : World} (hG : Blocks (GH T) w)  : Vm.Pure Tryd.prog 20 #[encP p] w (.bool (inB p)) := by
  refine pure_of_W (n := 26) (args := [encP p]) Tryd.func20 rfl Tryd.ntmps20 (Nat.le_of_ble_eq_true rfl) hG ?_
  refine sStart ?_
  refine sSeq ?_
  refine W.region ?_
  refine OpsW.fresh (fr_box rfl rfl) rfl fun b1 => ?_
  refine OpsW.det (det_assign rfl) rfl ?_
  refine sNext ?_
  refine W.keep (F' := [(1, _)]) ⟨rfl, trivial⟩ ?_
  refine sSeq ?_
  refine W.region ?_
  refine OpsW.fresh (fr_buildSlice rfl turnL_sl) rfl fun b7 => ?_
  refine OpsW.det (det_call en15 rfl (fun w hb ho => Read_ok (G' := [(b7, blk (bcells turnL ++ []) 5)]) (Bs.of turnL_small (Nat.le_refl _)) (blocks_cons (hb _ (List.Mem.head _)) ho.blocks))) rfl ?_
  refine OpsW.det (det_move rfl) rfl ?_
  refine OpsW.det (det_extract rfl rfl) rfl ?_
  refine OpsW.det (det_extract rfl rfl) rfl ?_
  refine OpsW.fresh (fr_alloc z29) rfl fun b3 => ?_
  refine OpsW.store sz29 rfl rfl rfl rfl rfl (Upd.here) rfl ?_
  refine OpsW.det (det_assign rfl) rfl ?_
  refine sNext ?_
  refine W.keep (F' := [(3, _), (1, _)]) ⟨rfl, rfl, trivial⟩ ?_
  refine sSeq ?_
  refine W.region ?_
  refine OpsW.fresh (fr_buildSlice rfl sizeL_sl) rfl fun b11 => ?_
  refine OpsW.det (det_assign rfl) rfl ?_
  refine sNext ?_
  refine W.keep (F' := [(5, _), (3, _), (1, _)]) ⟨rfl, rfl, rfl, trivial⟩ ?_
  refine sSeq ?_
  refine W.draw mixed 15 [[], [0], [], [0, 1, 2], [], [4], [0, 1, 2, 3, 4, 5], [], [], [0, 1, 2, 3, 7, 8], [], [0, 1, 2, 3, 7, 8, 9, 10], [0, 1, 2, 3, 7, 8, 9, 10, 11], [0, 1, 2, 3, 4, 5, 6, 7, 8, 9, 10, 11, 12], [0, 1, 2, 3, 4, 5, 6, 7, 8, 9, 10, 11, 12, 13]] (cl_lt (by decide)) ?_
  refine HeadR.start (cl_lt (by decide)) ?_
  refine HeadR.det rfl (fun β hβ => (det_fieldAddr fl31_0 rfl)) ?_
  refine HeadR.det rfl (fun β hβ => (det_loadA ty29 rfl (List.Mem.tail _ (List.Mem.tail _ (List.Mem.tail _ (List.Mem.head _)))) rfl)) ?_
  refine HeadR.det rfl (fun β hβ => (det_loadA ty29 rfl (List.Mem.tail _ (List.Mem.head _)) rfl)) ?_
  refine HeadR.det rfl (fun β hβ => (det_call en17 rfl (fun w hb ho => Cu.Mul_ok ho.blocks))) ?_
  refine HeadR.det rfl (fun β hβ => (det_fieldAddr fl31_1 rfl)) ?_
  refine HeadR.det rfl (fun β hβ => (det_loadA ty29 rfl (List.Mem.tail _ (List.Mem.tail _ (List.Mem.tail _ (List.Mem.head _)))) rfl)) ?_
  refine HeadR.det rfl (fun β hβ => (det_build rfl bld31)) ?_
  refine HeadR.det rfl (fun β hβ => (det_loadA ty31 rfl (List.Mem.tail _ (List.Mem.tail _ (List.Mem.tail _ (List.Mem.head _)))) rfl)) ?_
  refine HeadR.det rfl (fun β hβ => (det_move rfl)) ?_
  refine HeadR.det rfl (fun β hβ => (det_call en59 rfl (fun w hb ho => Times_ok (G' := [(b11, blk (bcells sizeL ++ []) 5)]) (p := p) (Bs.of sizeL_small (Nat.le_refl _)) (by decide) (blocks_cons (hb _ (List.Mem.head _)) ho.blocks)))) ?_
  refine HeadR.det rfl (fun β hβ => (det_move rfl)) ?_
  refine HeadR.det rfl (fun β hβ => (det_call en59 rfl (fun w hb ho => Times_ok (G' := [(b11, blk (bcells sizeL ++ []) 5)]) (p := times sizeL p) (Bs.of sizeL_small (Nat.le_refl _)) (by decide) (blocks_cons (hb _ (List.Mem.head _)) ho.blocks)))) ?_
  refine HeadR.det rfl (fun β hβ => (det_call en45 rfl (fun w hb ho => PNeg_ok ho.blocks))) ?_
  refine HeadR.det rfl (fun β hβ => (det_eql31 rfl rfl)) ?_
  refine HeadR.det rfl (fun β hβ => (det_assign rfl)) ?_
  refine HeadR.done ⟨by kernel_rfl, fun β hβ => ?_⟩
  refine OpsW.norm (F' := [(12, _), (13, _), (14, _), (15, _), (16, _), (17, _), (18, _), (19, _), (20, _), (21, _), (22, _), (23, _), (24, _), (25, _), (2, _), (5, _), (3, _), (1, _)]) (H' := [(_, _), (_, _), (_, _), (_, _)]) rfl rfl ?_
  refine sNext ?_
  refine W.keep (F' := [(2, _)]) ⟨rfl, trivial⟩ ?_
  refine sRet ?_
  exact done1 Tryd.results20 (rv_tmp rfl) rfl

end Go.Cu
