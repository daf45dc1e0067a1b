/-
  Part 6 of the joined texts of the curves' laws: The first group: the generator, and which points are in the group: the walks. Conditions: none.
  Conditions: those that each theorem states.
-/
import Derived.Test.YtbchpfmfiokbgaaDoorQ5
import Derived.Test.YtbchpfmfiokbgaaDoorQ3
import Derived.Test.YtbchpfmfiokbgaaDoorQ2
import Derived.Test.YtbchpfmfiokbgaaDoorCards
import Derived.Test.YtbchpfmfiokbgaaDoorTie
import Derived.WalkKit
import Derived.ProofKit
import Derived.OpenShut
import Derived.Deep.Matrix
/- The first group: the generator, and which points are in the group: the walks. Conditions: none. -/
namespace Go.Cu
open Go Go.Vm Go.RowKit Go.Proofs 
attribute [local irreducible] W OpsW Det Fresh New Writes Vm.Pure Makes Changes ExternTo BuildTo ZeroTo FieldTo IndexTo BinTo SliceTo Vm.Enters
set_option linter.unusedVariables false
set_option linter.unusedSimpArgs false
variable {T : Nat → TypeId × Nat × Nat}

def gX : List Nat := [23, 241, 211, 167, 49, 151, 215, 148, 38, 149, 99, 140, 79, 169, 172, 15, 195, 104, 140, 79, 151, 116, 185, 5, 161, 78, 58, 63, 23, 27, 172, 88, 108, 85, 232, 63, 249, 122, 26, 239, 251, 58, 240, 10, 219, 34, 198, 187]
def gY : List Nat := [8, 179, 244, 129, 227, 170, 160, 241, 160, 158, 48, 237, 116, 29, 138, 228, 252, 245, 224, 149, 213, 208, 10, 246, 0, 219, 24, 203, 44, 4, 179, 237, 208, 60, 199, 68, 162, 136, 138, 228, 12, 170, 35, 41, 70, 197, 231, 225]
def turnL : List Nat := [0, 0, 0, 0, 0, 0, 0, 0, 95, 25, 103, 47, 223, 118, 206, 81, 186, 105, 198, 7, 106, 15, 119, 234, 221, 179, 169, 59, 230, 248, 150, 136, 222, 23, 216, 19, 98, 10, 0, 2, 46, 1, 255, 255, 255, 254, 255, 254]
def sizeL : List Nat := [210, 1, 0, 0, 0, 1, 0, 0]
def gen : Pt := ((readF gX).1, (readF gY).1)
def turn : Fq := (readF turnL).1
def inB (p : Pt) : Bool := decide ((p.1 * turn, p.2) = pneg (times sizeL (times sizeL p)))
theorem gX_sl : SliceTo Tryd.prog 22 48 [(0, .int .u8 23), (1, .int .u8 241), (2, .int .u8 211), (3, .int .u8 167), (4, .int .u8 49), (5, .int .u8 151), (6, .int .u8 215), (7, .int .u8 148), (8, .int .u8 38), (9, .int .u8 149), (10, .int .u8 99), (11, .int .u8 140), (12, .int .u8 79), (13, .int .u8 169), (14, .int .u8 172), (15, .int .u8 15), (16, .int .u8 195), (17, .int .u8 104), (18, .int .u8 140), (19, .int .u8 79), (20, .int .u8 151), (21, .int .u8 116), (22, .int .u8 185), (23, .int .u8 5), (24, .int .u8 161), (25, .int .u8 78), (26, .int .u8 58), (27, .int .u8 63), (28, .int .u8 23), (29, .int .u8 27), (30, .int .u8 172), (31, .int .u8 88), (32, .int .u8 108), (33, .int .u8 85), (34, .int .u8 232), (35, .int .u8 63), (36, .int .u8 249), (37, .int .u8 122), (38, .int .u8 26), (39, .int .u8 239), (40, .int .u8 251), (41, .int .u8 58), (42, .int .u8 240), (43, .int .u8 10), (44, .int .u8 219), (45, .int .u8 34), (46, .int .u8 198), (47, .int .u8 187)] (bcells gX ++ []) 5 := SliceTo.of fun _ => by kernel_rfl
theorem gX_small : ∀ c ∈ gX, c < 256 := by decide
theorem gY_sl : SliceTo Tryd.prog 22 48 [(0, .int .u8 8), (1, .int .u8 179), (2, .int .u8 244), (3, .int .u8 129), (4, .int .u8 227), (5, .int .u8 170), (6, .int .u8 160), (7, .int .u8 241), (8, .int .u8 160), (9, .int .u8 158), (10, .int .u8 48), (11, .int .u8 237), (12, .int .u8 116), (13, .int .u8 29), (14, .int .u8 138), (15, .int .u8 228), (16, .int .u8 252), (17, .int .u8 245), (18, .int .u8 224), (19, .int .u8 149), (20, .int .u8 213), (21, .int .u8 208), (22, .int .u8 10), (23, .int .u8 246), (24, .int .u8 0), (25, .int .u8 219), (26, .int .u8 24), (27, .int .u8 203), (28, .int .u8 44), (29, .int .u8 4), (30, .int .u8 179), (31, .int .u8 237), (32, .int .u8 208), (33, .int .u8 60), (34, .int .u8 199), (35, .int .u8 68), (36, .int .u8 162), (37, .int .u8 136), (38, .int .u8 138), (39, .int .u8 228), (40, .int .u8 12), (41, .int .u8 170), (42, .int .u8 35), (43, .int .u8 41), (44, .int .u8 70), (45, .int .u8 197), (46, .int .u8 231), (47, .int .u8 225)] (bcells gY ++ []) 5 := SliceTo.of fun _ => by kernel_rfl
theorem gY_small : ∀ c ∈ gY, c < 256 := by decide
theorem turnL_sl : SliceTo Tryd.prog 22 48 [(0, .int .u8 0), (1, .int .u8 0), (2, .int .u8 0), (3, .int .u8 0), (4, .int .u8 0), (5, .int .u8 0), (6, .int .u8 0), (7, .int .u8 0), (8, .int .u8 95), (9, .int .u8 25), (10, .int .u8 103), (11, .int .u8 47), (12, .int .u8 223), (13, .int .u8 118), (14, .int .u8 206), (15, .int .u8 81), (16, .int .u8 186), (17, .int .u8 105), (18, .int .u8 198), (19, .int .u8 7), (20, .int .u8 106), (21, .int .u8 15), (22, .int .u8 119), (23, .int .u8 234), (24, .int .u8 221), (25, .int .u8 179), (26, .int .u8 169), (27, .int .u8 59), (28, .int .u8 230), (29, .int .u8 248), (30, .int .u8 150), (31, .int .u8 136), (32, .int .u8 222), (33, .int .u8 23), (34, .int .u8 216), (35, .int .u8 19), (36, .int .u8 98), (37, .int .u8 10), (38, .int .u8 0), (39, .int .u8 2), (40, .int .u8 46), (41, .int .u8 1), (42, .int .u8 255), (43, .int .u8 255), (44, .int .u8 255), (45, .int .u8 254), (46, .int .u8 255), (47, .int .u8 254)] (bcells turnL ++ []) 5 := SliceTo.of fun _ => by kernel_rfl
theorem turnL_small : ∀ c ∈ turnL, c < 256 := by decide
theorem sizeL_sl : SliceTo Tryd.prog 22 8 [(0, .int .u8 210), (1, .int .u8 1), (2, .int .u8 0), (3, .int .u8 0), (4, .int .u8 0), (5, .int .u8 1), (6, .int .u8 0), (7, .int .u8 0)] (bcells sizeL ++ []) 5 := SliceTo.of fun _ => by kernel_rfl
theorem sizeL_small : ∀ c ∈ sizeL, c < 256 := by decide

theorem en49 : Vm.Enters Tryd.prog 49 := Vm.Enters.of fun _ _ => by kernel_rfl
theorem Gen_ok  {w : World} (hG : Blocks (GH T) w)  : Vm.Pure Tryd.prog 17 #[] w (encP gen) := by
  refine pure_of_W (n := 18) (args := []) Tryd.func17 rfl Tryd.ntmps17 (Nat.le_of_ble_eq_true rfl) hG ?_
  refine sStart ?_
  refine sSeq ?_
  refine W.region ?_
  refine OpsW.fresh (fr_alloc z30) rfl fun b0 => ?_
  refine sNext ?_
  refine sSeq ?_
  refine W.region ?_
  refine OpsW.fresh (fr_buildSlice rfl gX_sl) rfl fun b6 => ?_
  refine OpsW.det (det_call en49 rfl (fun w hb ho => Read_ok (G' := [(b6, blk (bcells gX ++ []) 5)]) (Bs.of gX_small (Nat.le_refl _)) (blocks_cons (hb _ (List.Mem.head _)) ho.blocks))) rfl ?_
  refine OpsW.det (det_move rfl) rfl ?_
  refine OpsW.det (det_extract rfl rfl) rfl ?_
  refine OpsW.det (det_extract rfl rfl) rfl ?_
  refine OpsW.fresh (fr_alloc z28) rfl fun b1 => ?_
  refine OpsW.store sz28 rfl rfl rfl rfl rfl (Upd.here) rfl ?_
  refine OpsW.det (det_assign rfl) rfl ?_
  refine sNext ?_
  refine W.keep (F' := [(1, _), (0, _)]) ⟨rfl, rfl, trivial⟩ ?_
  refine sSeq ?_
  refine W.region ?_
  refine OpsW.fresh (fr_buildSlice rfl gY_sl) rfl fun b11 => ?_
  refine OpsW.det (det_call en49 rfl (fun w hb ho => Read_ok (G' := [(b11, blk (bcells gY ++ []) 5)]) (Bs.of gY_small (Nat.le_refl _)) (blocks_cons (hb _ (List.Mem.head _)) ho.blocks))) rfl ?_
  refine OpsW.det (det_move rfl) rfl ?_
  refine OpsW.det (det_extract rfl rfl) rfl ?_
  refine OpsW.det (det_extract rfl rfl) rfl ?_
  refine OpsW.fresh (fr_alloc z28) rfl fun b3 => ?_
  refine OpsW.store sz28 rfl rfl rfl rfl rfl (Upd.here) rfl ?_
  refine OpsW.det (det_assign rfl) rfl ?_
  refine sNext ?_
  refine W.keep (F' := [(3, _), (1, _), (0, _)]) ⟨rfl, rfl, rfl, trivial⟩ ?_
  refine sSeq ?_
  refine W.region ?_
  refine OpsW.det (det_loadA ty28 rfl (List.Mem.tail _ (List.Mem.tail _ (List.Mem.head _))) rfl) rfl ?_
  refine OpsW.det (det_loadA ty28 rfl (List.Mem.head _) rfl) rfl ?_
  refine OpsW.det (det_build rfl bld30) rfl ?_
  refine OpsW.store sz30 rfl rfl rfl rfl rfl (Upd.there (Upd.there (Upd.there (Upd.there (Upd.here))))) rfl ?_
  refine sNext ?_
  refine W.keep (F' := [(0, _)]) ⟨rfl, trivial⟩ ?_
  refine sRet ?_
  exact done1 Tryd.results17 (rv_cellA ty30 rfl (List.Mem.tail _ (List.Mem.tail _ (List.Mem.tail _ (List.Mem.tail _ (List.Mem.head _))))) rfl) rfl
theorem PIn_ok {p : Pt} {w : World} (hG : Blocks (GH T) w)  : Vm.Pure Tryd.prog 31 #[encP p] w (.bool (inB p)) := by
  refine pure_of_W (n := 26) (args := [encP p]) Tryd.func31 rfl Tryd.ntmps31 (Nat.le_of_ble_eq_true rfl) hG ?_
  refine sStart ?_
  refine sSeq ?_
  refine W.region ?_
  refine OpsW.fresh (fr_box rfl rfl) rfl fun b1 => ?_
  refine OpsW.det (det_assign rfl) rfl ?_
  refine sNext ?_
  refine W.keep (F' := [(1, _)]) ⟨rfl, trivial⟩ ?_
  refine sSeq ?_
  refine W.region ?_
  refine OpsW.fresh (fr_buildSlice rfl turnL_sl) rfl fun b7 => ?_
  refine OpsW.det (det_call en49 rfl (fun w hb ho => Read_ok (G' := [(b7, blk (bcells turnL ++ []) 5)]) (Bs.of turnL_small (Nat.le_refl _)) (blocks_cons (hb _ (List.Mem.head _)) ho.blocks))) rfl ?_
  refine OpsW.det (det_move rfl) rfl ?_
  refine OpsW.det (det_extract rfl rfl) rfl ?_
  refine OpsW.det (det_extract rfl rfl) rfl ?_
  refine OpsW.fresh (fr_alloc z28) rfl fun b3 => ?_
  refine OpsW.store sz28 rfl rfl rfl rfl rfl (Upd.here) rfl ?_
  refine OpsW.det (det_assign rfl) rfl ?_
  refine sNext ?_
  refine W.keep (F' := [(3, _), (1, _)]) ⟨rfl, rfl, trivial⟩ ?_
  refine sSeq ?_
  refine W.region ?_
  refine OpsW.fresh (fr_buildSlice rfl sizeL_sl) rfl fun b11 => ?_
  refine OpsW.det (det_assign rfl) rfl ?_
  refine sNext ?_
  refine W.keep (F' := [(5, _), (3, _), (1, _)]) ⟨rfl, rfl, rfl, trivial⟩ ?_
  refine sSeq ?_
  refine W.draw mixed 15 [[], [0], [], [0, 1, 2], [], [4], [0, 1, 2, 3, 4, 5], [], [], [0, 1, 2, 3, 7, 8], [], [0, 1, 2, 3, 7, 8, 9, 10], [0, 1, 2, 3, 7, 8, 9, 10, 11], [0, 1, 2, 3, 4, 5, 6, 7, 8, 9, 10, 11, 12], [0, 1, 2, 3, 4, 5, 6, 7, 8, 9, 10, 11, 12, 13]] (cl_lt (by decide)) ?_
  refine HeadR.start (cl_lt (by decide)) ?_
  refine HeadR.det rfl (fun β hβ => (det_fieldAddr fl30_0 rfl)) ?_
  refine HeadR.det rfl (fun β hβ => (det_loadA ty28 rfl (List.Mem.tail _ (List.Mem.tail _ (List.Mem.tail _ (List.Mem.head _)))) rfl)) ?_
  refine HeadR.det rfl (fun β hβ => (det_loadA ty28 rfl (List.Mem.tail _ (List.Mem.head _)) rfl)) ?_
  refine HeadR.det rfl (fun β hβ => (det_call en57 rfl (fun w hb ho => Cu.Mul_ok ho.blocks))) ?_
  refine HeadR.det rfl (fun β hβ => (det_fieldAddr fl30_1 rfl)) ?_
  refine HeadR.det rfl (fun β hβ => (det_loadA ty28 rfl (List.Mem.tail _ (List.Mem.tail _ (List.Mem.tail _ (List.Mem.head _)))) rfl)) ?_
  refine HeadR.det rfl (fun β hβ => (det_build rfl bld30)) ?_
  refine HeadR.det rfl (fun β hβ => (det_loadA ty30 rfl (List.Mem.tail _ (List.Mem.tail _ (List.Mem.tail _ (List.Mem.head _)))) rfl)) ?_
  refine HeadR.det rfl (fun β hβ => (det_move rfl)) ?_
  refine HeadR.det rfl (fun β hβ => (det_call en25 rfl (fun w hb ho => Times_ok (G' := [(b11, blk (bcells sizeL ++ []) 5)]) (p := p) (Bs.of sizeL_small (Nat.le_refl _)) (by decide) (blocks_cons (hb _ (List.Mem.head _)) ho.blocks)))) ?_
  refine HeadR.det rfl (fun β hβ => (det_move rfl)) ?_
  refine HeadR.det rfl (fun β hβ => (det_call en25 rfl (fun w hb ho => Times_ok (G' := [(b11, blk (bcells sizeL ++ []) 5)]) (p := times sizeL p) (Bs.of sizeL_small (Nat.le_refl _)) (by decide) (blocks_cons (hb _ (List.Mem.head _)) ho.blocks)))) ?_
  refine HeadR.det rfl (fun β hβ => (det_call en22 rfl (fun w hb ho => PNeg_ok ho.blocks))) ?_
  refine HeadR.det rfl (fun β hβ => (det_eql30 rfl rfl)) ?_
  refine HeadR.det rfl (fun β hβ => (det_assign rfl)) ?_
  refine HeadR.done ⟨by kernel_rfl, fun β hβ => ?_⟩
  refine OpsW.norm (F' := [(12, _), (13, _), (14, _), (15, _), (16, _), (17, _), (18, _), (19, _), (20, _), (21, _), (22, _), (23, _), (24, _), (25, _), (2, _), (5, _), (3, _), (1, _)]) (H' := [(_, _), (_, _), (_, _), (_, _)]) rfl rfl ?_
  refine sNext ?_
  refine W.keep (F' := [(2, _)]) ⟨rfl, trivial⟩ ?_
  refine sRet ?_
  exact done1 Tryd.results31 (rv_tmp rfl) rfl

end Go.Cu

/- The first group's field: roots: the walk. Conditions: none. -/
namespace Go.Cu
open Go Go.Vm Go.RowKit Go.Proofs 
attribute [local irreducible] W OpsW Det Fresh New Writes Vm.Pure Makes Changes ExternTo BuildTo ZeroTo FieldTo IndexTo BinTo SliceTo Vm.Enters
set_option linter.unusedVariables false
set_option linter.unusedSimpArgs false
variable {T : Nat → TypeId × Nat × Nat}

def ppe : Nat := pp + 1
def ppq : Nat := (pp + 1) / 4
theorem ppe_words : w6 (sel 0 ppq ppe) = [u64 13402431016077863596, u64 2210141511517208575, u64 7435674573564081700, u64 7239337960414712511, u64 5412103778470702295, u64 1873798617647539866] := by kernel_rfl
theorem or_step {i : Nat} (h : i + 1 < 6) : Value.int .u64 (bitsOf .or .u64 ((lim ppe i / 2 ^ 2 : Nat) : Int) ((lim ppe (i + 1) * 2 ^ 62 % 18446744073709551616 : Nat) : Int)) = u64 (lim ppq i) := by
  have : i = 0 ∨ i = 1 ∨ i = 2 ∨ i = 3 ∨ i = 4 := by omega
  rcases this with rfl | rfl | rfl | rfl | rfl <;> (unfold u64; exact congrArg _ (by decide +kernel))
theorem last_step : lim ppe 5 / 2 ^ 2 = lim ppq 5 := by decide +kernel
def mid (i j : Nat) : Nat := if j = i then lim ppe i / 2 ^ 2 else sel i ppq ppe j
theorem mid_at {i : Nat} : mid i i = lim ppe i / 2 ^ 2 := if_pos rfl
theorem mid_ne {i j : Nat} (h : j ≠ i) : mid i j = sel i ppq ppe j := if_neg h
theorem mid_next {i : Nat} : mid i (i + 1) = lim ppe (i + 1) := by rw [mid_ne (by omega)]; exact if_neg (by omega)
theorem at6 {f : Nat → Nat} {i k : Nat} (h : i < 6) (hk : k = i) : (w6 f)[k]? = some (u64 (f i)) := by
  subst hk
  have : k = 0 ∨ k = 1 ∨ k = 2 ∨ k = 3 ∨ k = 4 ∨ k = 5 := by omega
  rcases this with rfl | rfl | rfl | rfl | rfl | rfl <;> rfl
theorem sel_6 : w6 (sel 6 ppq ppe) = w6 (lim ppq) := by unfold w6 sel; rfl
def root (x : Fq) : Fq := pw x ppq
def sqrtF (x : Fq) : Fq × Bool := if root x * root x = x then (root x, true) else (0, false)
theorem sqrt_no {x : Fq} (h : (!decide (root x * root x = x)) = true) : Value.tuple #[encF 0, .bool false] = .tuple #[encF (sqrtF x).1, .bool (sqrtF x).2] := by
  have h : ¬ root x * root x = x := by simpa using h
  unfold sqrtF; rw [if_neg h]
theorem sqrt_yes {x : Fq} (h : (!decide (root x * root x = x)) = false) : Value.tuple #[encF (root x), .bool true] = .tuple #[encF (sqrtF x).1, .bool (sqrtF x).2] := by
  have h : root x * root x = x := by simpa using h
  unfold sqrtF; rw [if_pos h]
theorem mid_five : w6 (mid 5) = w6 (sel (5 + 1) ppq ppe) := by kernel_rfl
theorem mid_last {i : Nat} (h : i < 6) (h5 : ¬ i + 1 < 6) : w6 (mid i) = w6 (sel (i + 1) ppq ppe) := by
  have : i = 5 := by omega
  subst this
  exact mid_five


theorem Sqrt_ok {x : Fq} {w : World} (hG : Blocks (GH T) w)  : Vm.Pure Tryd.prog 60 #[encF x] w (.tuple #[encF (sqrtF x).1, .bool (sqrtF x).2]) := by
  refine pure_of_W (n := 43) (args := [encF x]) Tryd.func60 rfl Tryd.ntmps60 (Nat.le_of_ble_eq_true rfl) hG ?_
  refine sStart ?_
  refine sSeq ?_
  refine W.region ?_
  refine OpsW.fresh (fr_box rfl rfl) rfl fun b1 => ?_
  refine OpsW.fresh (fr_alloc z28) rfl fun b2 => ?_
  refine OpsW.det (det_assign rfl) rfl ?_
  refine sNext ?_
  refine W.keep (F' := [(2, _), (1, _)]) ⟨rfl, rfl, trivial⟩ ?_
  refine sSeq ?_
  refine W.region ?_
  refine OpsW.det (det_loadA_ro ty26 rfl (List.Mem.tail _ (List.Mem.tail _ (List.Mem.head _))) rfl) rfl ?_
  refine OpsW.fresh (fr_alloc z26) rfl fun b4 => ?_
  refine OpsW.store sz26 rfl rfl rfl rfl rfl (Upd.here) rfl ?_
  refine sNext ?_
  refine W.keep (F' := [(4, _), (2, _), (1, _)]) ⟨rfl, rfl, rfl, trivial⟩ ?_
  refine sSeq ?_
  refine W.region ?_
  refine OpsW.det (det_indexAddr_arr u26 sz25 rfl rfl ⟨by decide, by decide⟩) rfl ?_
  refine OpsW.det (det_loadC ty25 rfl (List.Mem.head _) rfl) rfl ?_
  refine OpsW.det ((det_add (a := 13402431016077863595) (b := 1) rfl rfl).to (v := u64 13402431016077863596) (by kernel_rfl)) rfl ?_
  refine OpsW.det (det_indexAddr_arr u26 sz25 rfl rfl ⟨by decide, by decide⟩) rfl ?_
  refine OpsW.store sz25 rfl rfl rfl rfl rfl (Upd.here) rfl ?_
  refine sNext ?_
  refine W.keep (F' := [(4, _), (2, _), (1, _)]) ⟨rfl, rfl, rfl, trivial⟩ ?_
  refine sSeq ?_
  refine sSeq ?_
  refine W.region ?_
  refine OpsW.det (det_move rfl) rfl ?_
  refine sNext ?_
  refine sBlock ?_
  refine sLoop (σ := Nat) (fun i => [(12, .int .i64 (i : Nat)), (4, .pointer (some ⟨b4, 0, none⟩)), (2, .pointer (some ⟨b2, 0, none⟩)), (1, .pointer (some ⟨b1, 0, none⟩))]) (fun i => [(b4, blk (w6 (sel i ppq ppe)) 26), (b2, blk [.int .u64 0, .int .u64 0, .int .u64 0, .int .u64 0, .int .u64 0, .int .u64 0] 28), (b1, blk (cellsF x) 28)]) (fun i => i ≤ 6) (fun i => 6 - i) 0 (by decide) ⟨rfl, rfl, rfl, rfl, trivial⟩ (by rw [ppe_words]; exact List.Sublist.refl _) ?_
  intro i hi
  refine sSeq ?_
  refine W.region ?_
  refine OpsW.det (det_lss rfl rfl) rfl ?_
  refine sNext ?_
  refine sSeq ?_
  refine W.cond rfl (fun hc13 => ?_) (fun hc13 => ?_)
  · skip
    have hlt : i < 6 := by have h := hc13; simp only [decide_eq_true_eq] at h; omega
    refine sSkip ?_
    refine sSeq ?_
    refine sBlock ?_
    refine sSeq ?_
    refine W.region ?_
    refine OpsW.det (det_move rfl) rfl ?_
    refine OpsW.det (det_assign rfl) rfl ?_
    refine sNext ?_
    refine W.keep (F' := [(5, _), (12, _), (4, _), (2, _), (1, _)]) ⟨rfl, rfl, rfl, rfl, rfl, trivial⟩ ?_
    refine sSeq ?_
    refine W.region ?_
    refine OpsW.det (det_move rfl) rfl ?_
    refine OpsW.det (det_indexAddr_arr u26 sz25 rfl rfl ⟨by omega, by omega⟩) rfl ?_
    refine OpsW.det ((det_loadC ty25 rfl (List.Mem.head _) (at6 (f := sel i ppq ppe) hlt (by omega))).to (congrArg u64 sel_at)) rfl ?_
    refine OpsW.det (det_shrN (b := 2) rfl rfl (by decide)) rfl ?_
    refine OpsW.det (det_indexAddr_arr u26 sz25 rfl rfl ⟨by omega, by omega⟩) rfl ?_
    refine OpsW.store sz25 rfl rfl rfl rfl rfl (Upd.here) (put6 (f := sel i ppq ppe) (f' := mid i) hlt (by omega) mid_at fun j hj => mid_ne hj) ?_
    refine sNext ?_
    refine W.keep (F' := [(5, _), (12, _), (4, _), (2, _), (1, _)]) ⟨rfl, rfl, rfl, rfl, rfl, trivial⟩ ?_
    refine sSeq ?_
    refine W.region ?_
    refine OpsW.det (det_move rfl) rfl ?_
    refine OpsW.det (det_addN (b := 1) rfl rfl (by omega)) rfl ?_
    refine OpsW.det (det_lss rfl rfl) rfl ?_
    refine sNext ?_
    refine W.keep (F' := [(22, _), (5, _), (12, _), (4, _), (2, _), (1, _)]) ⟨rfl, rfl, rfl, rfl, rfl, rfl, trivial⟩ ?_
    refine W.cond rfl (fun hc22 => ?_) (fun hc22 => ?_)
    · skip
      have hl6 : i + 1 < 6 := by have h := hc22; simp only [decide_eq_true_eq] at h; omega
      refine W.draw mixed 10 [[], [0], [0, 1], [], [3], [3, 4], [3, 4, 5], [3, 4, 5, 6], [0, 1, 2, 3, 4, 5, 6, 7], [0, 1, 2, 3, 4, 5, 6, 7, 8], [0, 1, 2, 3, 4, 5, 6, 7, 8, 9]] (cl_lt (by decide)) ?_
      refine HeadR.start (cl_lt (by decide)) ?_
      refine HeadR.det rfl (fun β hβ => (det_move rfl)) ?_
      refine HeadR.det rfl (fun β hβ => (det_indexAddr_arr u26 sz25 rfl rfl ⟨by omega, by omega⟩)) ?_
      refine HeadR.det rfl (fun β hβ => ((det_loadC ty25 rfl (List.Mem.head _) (at6 (f := mid i) hlt (by omega))).to (congrArg u64 mid_at))) ?_
      refine HeadR.det rfl (fun β hβ => (det_move rfl)) ?_
      refine HeadR.det rfl (fun β hβ => (det_addN (b := 1) rfl rfl (by omega))) ?_
      refine HeadR.det rfl (fun β hβ => (det_indexAddr_arr u26 sz25 rfl rfl ⟨by omega, by omega⟩)) ?_
      refine HeadR.det rfl (fun β hβ => ((det_loadC ty25 rfl (List.Mem.head _) (at6 (f := mid i) (i := i + 1) hl6 (by omega))).to (congrArg u64 mid_next))) ?_
      refine HeadR.det rfl (fun β hβ => (det_shlN (b := 62) rfl rfl (by decide))) ?_
      refine HeadR.det rfl (fun β hβ => ((det_or rfl rfl).to (or_step hl6))) ?_
      refine HeadR.det rfl (fun β hβ => (det_indexAddr_arr u26 sz25 rfl rfl ⟨by omega, by omega⟩)) ?_
      refine HeadR.done ⟨by kernel_rfl, fun β hβ => ?_⟩
      refine OpsW.norm (F' := [(23, _), (24, _), (25, _), (26, _), (27, _), (28, _), (29, _), (30, _), (31, _), (32, _), (22, _), (5, _), (12, _), (4, _), (2, _), (1, _)]) (H' := [(_, _), (_, _), (_, _)]) rfl rfl ?_
      refine OpsW.store sz25 rfl rfl rfl rfl rfl (Upd.here) (put6 (f := mid i) (f' := sel (i + 1) ppq ppe) hlt (by omega) sel_new fun j hj => (sel_old hj).trans (mid_ne hj).symm) ?_
      refine sLast ?_
      refine bNext ?_
      refine W.keep (F' := [(12, _), (4, _), (2, _), (1, _)]) ⟨rfl, rfl, rfl, rfl, trivial⟩ ?_
      refine W.region ?_
      refine OpsW.det (det_addN (b := 1) rfl rfl (by omega)) rfl ?_
      refine OpsW.det (det_move rfl) rfl ?_
      refine sLast ?_
      exact rEnd (i + 1) hlt ⟨rfl, rfl, rfl, rfl, trivial⟩ (List.Sublist.refl _) (step_lt hlt)
    · skip
      have hl6 : ¬ i + 1 < 6 := by have h := hc22; simp only [decide_eq_false_iff_not] at h; omega
      refine sSkip0 ?_
      refine bNext ?_
      refine W.keep (F' := [(12, _), (4, _), (2, _), (1, _)]) ⟨rfl, rfl, rfl, rfl, trivial⟩ ?_
      refine W.region ?_
      refine OpsW.det (det_addN (b := 1) rfl rfl (by omega)) rfl ?_
      refine OpsW.det (det_move rfl) rfl ?_
      refine sLast ?_
      exact rEnd (i + 1) hlt ⟨rfl, rfl, rfl, rfl, trivial⟩ (by rw [← mid_last hlt hl6]; exact List.Sublist.refl _) (step_lt hlt)
  · skip
    have hi6 : i = 6 := by have h := hc13; simp only [decide_eq_false_iff_not] at h; omega
    subst hi6
    refine sExit ?_
    refine xLoop ?_
    refine xHere ?_
    refine W.keep (F' := [(4, _), (2, _), (1, _)]) ⟨rfl, rfl, rfl, trivial⟩ ?_
    refine sSeq ?_
    refine W.norm (F' := _) (H' := [(b4, blk (w6 (lim ppq)) 26), (_, _), (_, _)]) rfl (by rw [sel_6]) ?_
    refine W.region ?_
    refine OpsW.det (det_loadA ty28 rfl (List.Mem.tail _ (List.Mem.tail _ (List.Mem.head _))) rfl) rfl ?_
    refine OpsW.det (det_loadA ty26 rfl (List.Mem.head _) rfl) rfl ?_
    refine OpsW.det (det_call en97 rfl (fun w hb ho => power_ok (x := x) (E := ppq) (by decide) ho.blocks)) rfl ?_
    refine OpsW.fresh (fr_alloc z28) rfl fun b6 => ?_
    refine OpsW.store sz28 rfl rfl rfl rfl rfl (Upd.here) rfl ?_
    refine sNext ?_
    refine W.keep (F' := [(6, _), (2, _), (1, _)]) ⟨rfl, rfl, rfl, trivial⟩ ?_
    refine sSeq ?_
    refine sSeq ?_
    refine W.draw mixed 4 [[], [0], [], [0, 1, 2]] (cl_lt (by decide)) ?_
    refine HeadR.start (cl_lt (by decide)) ?_
    refine HeadR.det rfl (fun β hβ => (det_loadA ty28 rfl (List.Mem.head _) rfl)) ?_
    refine HeadR.det rfl (fun β hβ => (det_call en56 rfl (fun w hb ho => Cu.Square_ok ho.blocks))) ?_
    refine HeadR.det rfl (fun β hβ => (det_loadA ty28 rfl (List.Mem.tail _ (List.Mem.tail _ (List.Mem.tail _ (List.Mem.head _)))) rfl)) ?_
    refine HeadR.det rfl (fun β hβ => (det_neq28 rfl rfl)) ?_
    refine HeadR.done ⟨by kernel_rfl, fun β hβ => ?_⟩
    refine OpsW.norm (F' := [(37, _), (38, _), (39, _), (40, _), (6, _), (2, _), (1, _)]) (H' := [(_, _), (_, _), (_, _), (_, _)]) rfl rfl ?_
    refine sNext ?_
    refine W.keep (F' := [(40, _), (6, _), (2, _)]) ⟨rfl, rfl, rfl, trivial⟩ ?_
    refine W.cond rfl (fun hc40 => ?_) (fun hc40 => ?_)
    · skip
      refine sSeq ?_
      refine W.region ?_
      refine OpsW.det (det_zero bz28) rfl ?_
      refine OpsW.store sz28 rfl rfl rfl rfl rfl (Upd.there (Upd.there (Upd.here))) rfl ?_
      refine OpsW.det (det_assign rfl) rfl ?_
      refine sNext ?_
      refine W.keep (F' := [(3, _), (2, _)]) ⟨rfl, rfl, trivial⟩ ?_
      refine sRet ?_
      exact done2 Tryd.results60 (rv_cellA ty28 rfl (List.Mem.tail _ (List.Mem.tail _ (List.Mem.head _))) rfl) (rv_tmp rfl) (sqrt_no hc40)
    · skip
      refine sSkip ?_
      refine sSeq ?_
      refine W.region ?_
      refine OpsW.det (det_loadA ty28 rfl (List.Mem.head _) rfl) rfl ?_
      refine OpsW.store sz28 rfl rfl rfl rfl rfl (Upd.there (Upd.there (Upd.here))) rfl ?_
      refine OpsW.det (det_assign rfl) rfl ?_
      refine sNext ?_
      refine W.keep (F' := [(3, _), (2, _)]) ⟨rfl, rfl, trivial⟩ ?_
      refine sRet ?_
      exact done2 Tryd.results60 (rv_cellA ty28 rfl (List.Mem.tail _ (List.Mem.tail _ (List.Mem.head _))) rfl) (rv_tmp rfl) (sqrt_yes hc40)
theorem en60 : Vm.Enters Tryd.prog 60 := Vm.Enters.of fun _ _ => by kernel_rfl

end Go.Cu

/- The first group's laws: what they share: the walks. Conditions: of the generator, what HeadOk says. -/
namespace Go.Cu
open Go Go.Vm Go.RowKit Go.Proofs 
attribute [local irreducible] W OpsW Det Fresh New Writes Vm.Pure Makes Changes ExternTo BuildTo ZeroTo FieldTo IndexTo BinTo SliceTo Vm.Enters
set_option linter.unusedVariables false
set_option linter.unusedSimpArgs false
variable {T : Nat → TypeId × Nat × Nat}

theorem Plain_call {x : Fq} {w : World} (hG : Blocks (GH T) w) : Vm.Pure Tryd.prog 57 #[encF x, .agg #[u64 1, .int .u64 0, .int .u64 0, .int .u64 0, .int .u64 0, .int .u64 0]] w (enc6 x.val) := by
  have h := Mul_w_ok (X := mont x) (Y := 1) (mont_lt x) (by decide) hG
  rw [← of_words (n := 1) (by decide)]
  refine h.same (congrArg enc6 ?_)
  unfold mont
  rw [Nat.mul_one, Nat.mod_mul_mod, Nat.mul_assoc, Nat.mul_mod, show R6 * inv_pp % pp = 1 from by decide +kernel, Nat.mul_one, Nat.mod_mod, Nat.mod_eq_of_lt x.lt]
theorem fld28 {a b c d e f : Int} : FieldTo Tryd.prog 28 (.agg #[.int .u64 a, .int .u64 b, .int .u64 c, .int .u64 d, .int .u64 e, .int .u64 f]) 0 (.agg #[.int .u64 a, .int .u64 b, .int .u64 c, .int .u64 d, .int .u64 e, .int .u64 f]) := FieldTo.of fun _ => by kernel_rfl
def oddF (x : Fq) : Bool := ((lim x.val 0 % 2 ^ 1 : Nat) : Int) == 1
def lambdaB (p q r : Pt) : Bool := decide ((p.1 + q.1 + r.1) * ((q.1 - p.1) * (q.1 - p.1)) = (q.2 - p.2) * (q.2 - p.2))
def threeB (p : Pt) : Bool :=
  let s := p.1 * p.1 * (p.1 * p.1)
  let u := p.1 * (p.2 * p.2)
  let n := s + s + s
  let nine := n + n + n
  let v := u + u + u
  let w := v + v
  decide (nine = w + w)
theorem two_sl : SliceTo Tryd.prog 22 1 [(0, .int .u8 2)] (bcells [2] ++ []) 5 := SliceTo.of fun _ => by kernel_rfl
theorem two_small : ∀ c ∈ [2], c < 256 := by decide
/-- What the head asks of the generator. -/
structure HeadOk : Prop where
  h1 : onB gen = true
  h2 : onB (padd gen gen) = true
  h3 : (!decide (padd gen gen = gen)) = true
  h4 : (!decide (padd gen gen = (0, 0))) = true
  h5 : decide (times [2] gen = padd gen gen) = true
  h6 : decide (padd gen (pneg gen) = (0, 0)) = true
  h7 : oddF gen.1 = true

theorem en17 : Vm.Enters Tryd.prog 17 := Vm.Enters.of fun _ _ => by kernel_rfl
theorem en20 : Vm.Enters Tryd.prog 20 := Vm.Enters.of fun _ _ => by kernel_rfl
theorem en23 : Vm.Enters Tryd.prog 23 := Vm.Enters.of fun _ _ => by kernel_rfl
theorem en48 : Vm.Enters Tryd.prog 48 := Vm.Enters.of fun _ _ => by kernel_rfl
theorem en92 : Vm.Enters Tryd.prog 92 := Vm.Enters.of fun _ _ => by kernel_rfl
theorem Plain_ok {x : Fq} {w : World} (hG : Blocks (GH T) w)  : Vm.Pure Tryd.prog 92 #[encF x] w (enc6 x.val) := by
  refine pure_of_W (n := 8) (args := [encF x]) Tryd.func92 rfl Tryd.ntmps92 (Nat.le_of_ble_eq_true rfl) hG ?_
  refine sStart ?_
  refine sSeq ?_
  refine W.region ?_
  refine OpsW.fresh (fr_box rfl rfl) rfl fun b1 => ?_
  refine OpsW.fresh (fr_alloc z26) rfl fun b2 => ?_
  refine sNext ?_
  refine W.keep (F' := [(2, _), (1, _)]) ⟨rfl, rfl, trivial⟩ ?_
  refine sSeq ?_
  refine W.region ?_
  refine OpsW.det (det_loadA ty28 rfl (List.Mem.tail _ (List.Mem.head _)) rfl) rfl ?_
  refine OpsW.det (det_build rfl bld26_0) rfl ?_
  refine OpsW.det (det_build rfl bld28) rfl ?_
  refine OpsW.det (det_call en57 rfl (fun w hb ho => Plain_call ho.blocks)) rfl ?_
  refine OpsW.det (det_field rfl fld28) rfl ?_
  refine OpsW.store sz26 rfl rfl rfl rfl rfl (Upd.here) rfl ?_
  refine sNext ?_
  refine W.keep (F' := [(2, _)]) ⟨rfl, trivial⟩ ?_
  refine sRet ?_
  exact done1 Tryd.results92 (rv_cellA ty26 rfl (List.Mem.head _) rfl) rfl
theorem Odd_ok {x : Fq} {w : World} (hG : Blocks (GH T) w)  : Vm.Pure Tryd.prog 48 #[encF x] w (.bool (oddF x)) := by
  refine pure_of_W (n := 8) (args := [encF x]) Tryd.func48 rfl Tryd.ntmps48 (Nat.le_of_ble_eq_true rfl) hG ?_
  refine sStart ?_
  refine sSeq ?_
  refine W.region ?_
  refine OpsW.fresh (fr_box rfl rfl) rfl fun b1 => ?_
  refine OpsW.det (det_assign rfl) rfl ?_
  refine sNext ?_
  refine W.keep (F' := [(1, _)]) ⟨rfl, trivial⟩ ?_
  refine sSeq ?_
  refine W.region ?_
  refine OpsW.det (det_loadA ty28 rfl (List.Mem.head _) rfl) rfl ?_
  refine OpsW.det (det_call en92 rfl (fun w hb ho => Cu.Plain_ok ho.blocks)) rfl ?_
  refine OpsW.det (det_index rfl rfl (idx26 (m := x.val) (i := 0) (by decide))) rfl ?_
  refine OpsW.det (det_maskN (m := 1) (k := 1) rfl rfl (lim_lt _ _) rfl (by decide)) rfl ?_
  refine OpsW.det (det_eql rfl rfl) rfl ?_
  refine OpsW.det (det_assign rfl) rfl ?_
  refine sNext ?_
  refine W.keep (F' := [(2, _)]) ⟨rfl, trivial⟩ ?_
  refine sRet ?_
  exact done1 Tryd.results48 (rv_tmp rfl) rfl
theorem lambda_ok {p q r : Pt} {w : World} (hG : Blocks (GH T) w)  : Vm.Pure Tryd.prog 69 #[encP p, encP q, encP r] w (.bool (lambdaB p q r)) := by
  refine pure_of_W (n := 33) (args := [encP p, encP q, encP r]) Tryd.func69 rfl Tryd.ntmps69 (Nat.le_of_ble_eq_true rfl) hG ?_
  refine sStart ?_
  refine sSeq ?_
  refine W.region ?_
  refine OpsW.fresh (fr_box rfl rfl) rfl fun b3 => ?_
  refine OpsW.fresh (fr_box rfl rfl) rfl fun b4 => ?_
  refine OpsW.fresh (fr_box rfl rfl) rfl fun b5 => ?_
  refine OpsW.det (det_assign rfl) rfl ?_
  refine sNext ?_
  refine W.keep (F' := [(5, _), (4, _), (3, _)]) ⟨rfl, rfl, rfl, trivial⟩ ?_
  refine sSeq ?_
  refine W.region ?_
  refine OpsW.det (det_fieldAddr fl30_0 rfl) rfl ?_
  refine OpsW.det (det_loadA ty28 rfl (List.Mem.tail _ (List.Mem.head _)) rfl) rfl ?_
  refine OpsW.det (det_fieldAddr fl30_0 rfl) rfl ?_
  refine OpsW.det (det_loadA ty28 rfl (List.Mem.tail _ (List.Mem.tail _ (List.Mem.head _))) rfl) rfl ?_
  refine OpsW.det (det_call en67 rfl (fun w hb ho => Cu.Sub_ok ho.blocks)) rfl ?_
  refine OpsW.fresh (fr_alloc z28) rfl fun b7 => ?_
  refine OpsW.store sz28 rfl rfl rfl rfl rfl (Upd.here) rfl ?_
  refine sNext ?_
  refine W.keep (F' := [(7, _), (5, _), (4, _), (3, _)]) ⟨rfl, rfl, rfl, rfl, trivial⟩ ?_
  refine sSeq ?_
  refine W.region ?_
  refine OpsW.det (det_fieldAddr fl30_1 rfl) rfl ?_
  refine OpsW.det (det_loadA ty28 rfl (List.Mem.tail _ (List.Mem.tail _ (List.Mem.head _))) rfl) rfl ?_
  refine OpsW.det (det_fieldAddr fl30_1 rfl) rfl ?_
  refine OpsW.det (det_loadA ty28 rfl (List.Mem.tail _ (List.Mem.tail _ (List.Mem.tail _ (List.Mem.head _)))) rfl) rfl ?_
  refine OpsW.det (det_call en67 rfl (fun w hb ho => Cu.Sub_ok ho.blocks)) rfl ?_
  refine OpsW.fresh (fr_alloc z28) rfl fun b8 => ?_
  refine OpsW.store sz28 rfl rfl rfl rfl rfl (Upd.here) rfl ?_
  refine sNext ?_
  refine W.keep (F' := [(8, _), (7, _), (5, _), (4, _), (3, _)]) ⟨rfl, rfl, rfl, rfl, rfl, trivial⟩ ?_
  refine sSeq ?_
  refine W.draw mixed 15 [[], [0], [], [2], [0, 1, 2, 3], [], [5], [0, 1, 2, 3, 4, 5, 6], [], [0, 1, 2, 3, 4, 5, 6, 7, 8], [0, 1, 2, 3, 4, 5, 6, 7, 8, 9], [], [0, 1, 2, 3, 4, 5, 6, 7, 8, 9, 10, 11], [0, 1, 2, 3, 4, 5, 6, 7, 8, 9, 10, 11, 12], [0, 1, 2, 3, 4, 5, 6, 7, 8, 9, 10, 11, 12, 13]] (cl_lt (by decide)) ?_
  refine HeadR.start (cl_lt (by decide)) ?_
  refine HeadR.det rfl (fun β hβ => (det_fieldAddr fl30_0 rfl)) ?_
  refine HeadR.det rfl (fun β hβ => (det_loadA ty28 rfl (List.Mem.tail _ (List.Mem.tail _ (List.Mem.tail _ (List.Mem.tail _ (List.Mem.head _))))) rfl)) ?_
  refine HeadR.det rfl (fun β hβ => (det_fieldAddr fl30_0 rfl)) ?_
  refine HeadR.det rfl (fun β hβ => (det_loadA ty28 rfl (List.Mem.tail _ (List.Mem.tail _ (List.Mem.tail _ (List.Mem.head _)))) rfl)) ?_
  refine HeadR.det rfl (fun β hβ => (det_call en33 rfl (fun w hb ho => Cu.Add_ok ho.blocks))) ?_
  refine HeadR.det rfl (fun β hβ => (det_fieldAddr fl30_0 rfl)) ?_
  refine HeadR.det rfl (fun β hβ => (det_loadA ty28 rfl (List.Mem.tail _ (List.Mem.tail _ (List.Mem.head _))) rfl)) ?_
  refine HeadR.det rfl (fun β hβ => (det_call en33 rfl (fun w hb ho => Cu.Add_ok ho.blocks))) ?_
  refine HeadR.det rfl (fun β hβ => (det_loadA ty28 rfl (List.Mem.tail _ (List.Mem.head _)) rfl)) ?_
  refine HeadR.det rfl (fun β hβ => (det_call en56 rfl (fun w hb ho => Cu.Square_ok ho.blocks))) ?_
  refine HeadR.det rfl (fun β hβ => (det_call en57 rfl (fun w hb ho => Cu.Mul_ok ho.blocks))) ?_
  refine HeadR.det rfl (fun β hβ => (det_loadA ty28 rfl (List.Mem.head _) rfl)) ?_
  refine HeadR.det rfl (fun β hβ => (det_call en56 rfl (fun w hb ho => Cu.Square_ok ho.blocks))) ?_
  refine HeadR.det rfl (fun β hβ => (det_eql28 rfl rfl)) ?_
  refine HeadR.det rfl (fun β hβ => (det_assign rfl)) ?_
  refine HeadR.done ⟨by kernel_rfl, fun β hβ => ?_⟩
  refine OpsW.norm (F' := [(19, _), (20, _), (21, _), (22, _), (23, _), (24, _), (25, _), (26, _), (27, _), (28, _), (29, _), (30, _), (31, _), (32, _), (6, _), (8, _), (7, _), (5, _), (4, _), (3, _)]) (H' := [(_, _), (_, _), (_, _), (_, _), (_, _)]) rfl rfl ?_
  refine sNext ?_
  refine W.keep (F' := [(6, _)]) ⟨rfl, trivial⟩ ?_
  refine sRet ?_
  exact done1 Tryd.results69 (rv_tmp rfl) rfl
theorem three_ok {p : Pt} {w : World} (hG : Blocks (GH T) w)  : Vm.Pure Tryd.prog 68 #[encP p] w (.bool (threeB p)) := by
  refine pure_of_W (n := 40) (args := [encP p]) Tryd.func68 rfl Tryd.ntmps68 (Nat.le_of_ble_eq_true rfl) hG ?_
  refine sStart ?_
  refine sSeq ?_
  refine W.region ?_
  refine OpsW.fresh (fr_box rfl rfl) rfl fun b1 => ?_
  refine OpsW.det (det_assign rfl) rfl ?_
  refine sNext ?_
  refine W.keep (F' := [(1, _)]) ⟨rfl, trivial⟩ ?_
  refine sSeq ?_
  refine W.region ?_
  refine OpsW.det (det_fieldAddr fl30_0 rfl) rfl ?_
  refine OpsW.det (det_loadA ty28 rfl (List.Mem.head _) rfl) rfl ?_
  refine OpsW.det (det_call en56 rfl (fun w hb ho => Cu.Square_ok ho.blocks)) rfl ?_
  refine OpsW.det (det_call en56 rfl (fun w hb ho => Cu.Square_ok ho.blocks)) rfl ?_
  refine OpsW.fresh (fr_alloc z28) rfl fun b3 => ?_
  refine OpsW.store sz28 rfl rfl rfl rfl rfl (Upd.here) rfl ?_
  refine sNext ?_
  refine W.keep (F' := [(3, _), (1, _)]) ⟨rfl, rfl, trivial⟩ ?_
  refine sSeq ?_
  refine W.draw mixed 7 [[], [0], [], [2], [2, 3], [0, 1, 2, 3, 4], [], [0, 1, 2, 3, 4, 5, 6]] (cl_lt (by decide)) ?_
  refine HeadR.start (cl_lt (by decide)) ?_
  refine HeadR.det rfl (fun β hβ => (det_fieldAddr fl30_0 rfl)) ?_
  refine HeadR.det rfl (fun β hβ => (det_loadA ty28 rfl (List.Mem.tail _ (List.Mem.head _)) rfl)) ?_
  refine HeadR.det rfl (fun β hβ => (det_fieldAddr fl30_1 rfl)) ?_
  refine HeadR.det rfl (fun β hβ => (det_loadA ty28 rfl (List.Mem.tail _ (List.Mem.head _)) rfl)) ?_
  refine HeadR.det rfl (fun β hβ => (det_call en56 rfl (fun w hb ho => Cu.Square_ok ho.blocks))) ?_
  refine HeadR.det rfl (fun β hβ => (det_call en57 rfl (fun w hb ho => Cu.Mul_ok ho.blocks))) ?_
  refine HeadR.fresh rfl (fun β hβ => (fr_alloc z28).new) ?_
  refine HeadR.done ⟨by kernel_rfl, fun β hβ => ?_⟩
  refine OpsW.norm (F' := [(11, _), (12, _), (13, _), (14, _), (15, _), (16, _), (4, .pointer (some ⟨(β 4).1, 0, none⟩)), (3, _), (1, _)]) (H' := [(_, _), (_, _), (_, _)]) rfl rfl ?_
  generalize (β 4).1 = b4
  refine OpsW.store sz28 rfl rfl rfl rfl rfl (Upd.here) rfl ?_
  refine sNext ?_
  refine W.keep (F' := [(4, _), (3, _)]) ⟨rfl, rfl, trivial⟩ ?_
  refine sSeq ?_
  refine W.draw mixed 6 [[], [], [0, 1], [], [0, 1, 2, 3], [], [0, 1, 2, 3, 4, 5]] (cl_lt (by decide)) ?_
  refine HeadR.start (cl_lt (by decide)) ?_
  refine HeadR.det rfl (fun β hβ => (det_loadA ty28 rfl (List.Mem.tail _ (List.Mem.head _)) rfl)) ?_
  refine HeadR.det rfl (fun β hβ => (det_loadA ty28 rfl (List.Mem.tail _ (List.Mem.head _)) rfl)) ?_
  refine HeadR.det rfl (fun β hβ => (det_call en33 rfl (fun w hb ho => Cu.Add_ok ho.blocks))) ?_
  refine HeadR.det rfl (fun β hβ => (det_loadA ty28 rfl (List.Mem.tail _ (List.Mem.head _)) rfl)) ?_
  refine HeadR.det rfl (fun β hβ => (det_call en33 rfl (fun w hb ho => Cu.Add_ok ho.blocks))) ?_
  refine HeadR.fresh rfl (fun β hβ => (fr_alloc z28).new) ?_
  refine HeadR.done ⟨by kernel_rfl, fun β hβ => ?_⟩
  refine OpsW.norm (F' := [(17, _), (18, _), (19, _), (20, _), (21, _), (5, .pointer (some ⟨(β 5).1, 0, none⟩)), (4, _), (3, _)]) (H' := [(_, _), (_, _), (_, _), (_, _)]) rfl rfl ?_
  generalize (β 5).1 = b5
  refine OpsW.store sz28 rfl rfl rfl rfl rfl (Upd.here) rfl ?_
  refine sNext ?_
  refine W.keep (F' := [(5, _), (4, _)]) ⟨rfl, rfl, trivial⟩ ?_
  refine sSeq ?_
  refine W.draw mixed 5 [[], [], [0, 1], [], [0, 1, 2, 3], [0, 1, 2, 3, 4]] (cl_lt (by decide)) ?_
  refine HeadR.start (cl_lt (by decide)) ?_
  refine HeadR.det rfl (fun β hβ => (det_loadA ty28 rfl (List.Mem.head _) rfl)) ?_
  refine HeadR.det rfl (fun β hβ => (det_loadA ty28 rfl (List.Mem.head _) rfl)) ?_
  refine HeadR.det rfl (fun β hβ => (det_call en33 rfl (fun w hb ho => Cu.Add_ok ho.blocks))) ?_
  refine HeadR.det rfl (fun β hβ => (det_loadA ty28 rfl (List.Mem.head _) rfl)) ?_
  refine HeadR.det rfl (fun β hβ => (det_call en33 rfl (fun w hb ho => Cu.Add_ok ho.blocks))) ?_
  refine HeadR.done ⟨by kernel_rfl, fun β hβ => ?_⟩
  refine OpsW.norm (F' := [(22, _), (23, _), (24, _), (25, _), (26, _), (5, _), (4, _)]) (H' := [(_, _), (_, _), (_, _), (_, _)]) rfl rfl ?_
  refine OpsW.store sz28 rfl rfl rfl rfl rfl (Upd.here) rfl ?_
  refine sNext ?_
  refine W.keep (F' := [(5, _), (4, _)]) ⟨rfl, rfl, trivial⟩ ?_
  refine sSeq ?_
  refine W.draw mixed 6 [[], [], [0, 1], [], [0, 1, 2, 3], [], [0, 1, 2, 3, 4, 5]] (cl_lt (by decide)) ?_
  refine HeadR.start (cl_lt (by decide)) ?_
  refine HeadR.det rfl (fun β hβ => (det_loadA ty28 rfl (List.Mem.tail _ (List.Mem.head _)) rfl)) ?_
  refine HeadR.det rfl (fun β hβ => (det_loadA ty28 rfl (List.Mem.tail _ (List.Mem.head _)) rfl)) ?_
  refine HeadR.det rfl (fun β hβ => (det_call en33 rfl (fun w hb ho => Cu.Add_ok ho.blocks))) ?_
  refine HeadR.det rfl (fun β hβ => (det_loadA ty28 rfl (List.Mem.tail _ (List.Mem.head _)) rfl)) ?_
  refine HeadR.det rfl (fun β hβ => (det_call en33 rfl (fun w hb ho => Cu.Add_ok ho.blocks))) ?_
  refine HeadR.fresh rfl (fun β hβ => (fr_alloc z28).new) ?_
  refine HeadR.done ⟨by kernel_rfl, fun β hβ => ?_⟩
  refine OpsW.norm (F' := [(27, _), (28, _), (29, _), (30, _), (31, _), (6, .pointer (some ⟨(β 6).1, 0, none⟩)), (5, _), (4, _)]) (H' := [(_, _), (_, _), (_, _), (_, _), (_, _)]) rfl rfl ?_
  generalize (β 6).1 = b6
  refine OpsW.store sz28 rfl rfl rfl rfl rfl (Upd.here) rfl ?_
  refine sNext ?_
  refine W.keep (F' := [(6, _), (5, _)]) ⟨rfl, rfl, trivial⟩ ?_
  refine sSeq ?_
  refine W.region ?_
  refine OpsW.det (det_loadA ty28 rfl (List.Mem.head _) rfl) rfl ?_
  refine OpsW.det (det_loadA ty28 rfl (List.Mem.head _) rfl) rfl ?_
  refine OpsW.det (det_call en33 rfl (fun w hb ho => Cu.Add_ok ho.blocks)) rfl ?_
  refine OpsW.store sz28 rfl rfl rfl rfl rfl (Upd.here) rfl ?_
  refine sNext ?_
  refine W.keep (F' := [(6, _), (5, _)]) ⟨rfl, rfl, trivial⟩ ?_
  refine sSeq ?_
  refine W.draw mixed 6 [[], [], [], [1, 2], [0, 1, 2, 3], [0, 1, 2, 3, 4]] (cl_lt (by decide)) ?_
  refine HeadR.start (cl_lt (by decide)) ?_
  refine HeadR.det rfl (fun β hβ => (det_loadA ty28 rfl (List.Mem.tail _ (List.Mem.head _)) rfl)) ?_
  refine HeadR.det rfl (fun β hβ => (det_loadA ty28 rfl (List.Mem.head _) rfl)) ?_
  refine HeadR.det rfl (fun β hβ => (det_loadA ty28 rfl (List.Mem.head _) rfl)) ?_
  refine HeadR.det rfl (fun β hβ => (det_call en33 rfl (fun w hb ho => Cu.Add_ok ho.blocks))) ?_
  refine HeadR.det rfl (fun β hβ => (det_eql28 rfl rfl)) ?_
  refine HeadR.det rfl (fun β hβ => (det_assign rfl)) ?_
  refine HeadR.done ⟨by kernel_rfl, fun β hβ => ?_⟩
  refine OpsW.norm (F' := [(35, _), (36, _), (37, _), (38, _), (39, _), (2, _), (6, _), (5, _)]) (H' := [(_, _), (_, _), (_, _), (_, _), (_, _)]) rfl rfl ?_
  refine sNext ?_
  refine W.keep (F' := [(2, _)]) ⟨rfl, trivial⟩ ?_
  refine sRet ?_
  exact done1 Tryd.results68 (rv_tmp rfl) rfl
theorem head_ok (hh : HeadOk) {w : World} (hG : Blocks (GH T) w)  : Vm.Pure Tryd.prog 15 #[] w (.bool true) := by
  refine pure_of_W (n := 43) (args := []) Tryd.func15 rfl Tryd.ntmps15 (Nat.le_of_ble_eq_true rfl) hG ?_
  refine sStart ?_
  refine sSeq ?_
  refine W.region ?_
  refine OpsW.det (det_assign rfl) rfl ?_
  refine sNext ?_
  refine W.keep (F' := []) trivial ?_
  refine sSeq ?_
  refine W.region ?_
  refine OpsW.det (det_call en17 rfl (fun w hb ho => Gen_ok ho.blocks)) rfl ?_
  refine OpsW.fresh (fr_alloc z30) rfl fun b1 => ?_
  refine OpsW.store sz30 rfl rfl rfl rfl rfl (Upd.here) rfl ?_
  refine sNext ?_
  refine W.keep (F' := [(1, _)]) ⟨rfl, trivial⟩ ?_
  refine sSeq ?_
  refine W.region ?_
  refine OpsW.det (det_loadA ty30 rfl (List.Mem.head _) rfl) rfl ?_
  refine OpsW.det (det_loadA ty30 rfl (List.Mem.head _) rfl) rfl ?_
  refine OpsW.det (det_call en20 rfl (fun w hb ho => PAdd_ok ho.blocks)) rfl ?_
  refine OpsW.fresh (fr_alloc z30) rfl fun b2 => ?_
  refine OpsW.store sz30 rfl rfl rfl rfl rfl (Upd.here) rfl ?_
  refine sNext ?_
  refine W.keep (F' := [(2, _), (1, _)]) ⟨rfl, rfl, trivial⟩ ?_
  refine sSeq ?_
  refine W.draw mixed 37 [[], [0], [0, 1], [0, 1, 2], [0, 1, 2, 3], [0, 1, 2, 3, 4], [0, 1, 2, 3, 4, 5], [0, 1, 2, 3, 4, 5, 6], [0, 1, 2, 3, 4, 5, 6], [0, 1, 2, 3, 4, 5, 6, 7, 8], [0, 1, 2, 3, 4, 5, 6, 7, 8, 9], [0, 1, 2, 3, 4, 5, 6, 7, 8, 9, 10], [0, 1, 2, 3, 4, 5, 6, 7, 8, 9, 10, 11], [0, 1, 2, 3, 4, 5, 6, 7, 8, 9, 10, 11], [0, 1, 2, 3, 4, 5, 6, 7, 8, 9, 10, 11, 12, 13], [0, 1, 2, 3, 4, 5, 6, 7, 8, 9, 10, 11, 12, 13, 14], [0, 1, 2, 3, 4, 5, 6, 7, 8, 9, 10, 11, 12, 13, 14, 15], [0, 1, 2, 3, 4, 5, 6, 7, 8, 9, 10, 11, 12, 13, 14, 15, 16], [0, 1, 2, 3, 4, 5, 6, 7, 8, 9, 10, 11, 12, 13, 14, 15, 16], [0, 1, 2, 3, 4, 5, 6, 7, 8, 9, 10, 11, 12, 13, 14, 15, 16, 17, 18], [0, 1, 2, 3, 4, 5, 6, 7, 8, 9, 10, 11, 12, 13, 14, 15, 16], [0, 1, 2, 3, 4, 5, 6, 7, 8, 9, 10, 11, 12, 13, 14, 15, 16, 17, 18, 19, 20], [0, 1, 2, 3, 4, 5, 6, 7, 8, 9, 10, 11, 12, 13, 14, 15, 16, 17, 18, 19, 20, 21], [0, 1, 2, 3, 4, 5, 6, 7, 8, 9, 10, 11, 12, 13, 14, 15, 16, 17, 18, 19, 20, 21, 22], [0, 1, 2, 3, 4, 5, 6, 7, 8, 9, 10, 11, 12, 13, 14, 15, 16, 17, 18, 19, 20, 21, 22, 23], [0, 1, 2, 3, 4, 5, 6, 7, 8, 9, 10, 11, 12, 13, 14, 15, 16, 17, 18, 19, 20, 21, 22, 23], [0, 1, 2, 3, 4, 5, 6, 7, 8, 9, 10, 11, 12, 13, 14, 15, 16, 17, 18, 19, 20, 21, 22, 23, 25], [0, 1, 2, 3, 4, 5, 6, 7, 8, 9, 10, 11, 12, 13, 14, 15, 16, 17, 18, 19, 20, 21, 22, 23, 24, 25, 26], [0, 1, 2, 3, 4, 5, 6, 7, 8, 9, 10, 11, 12, 13, 14, 15, 16, 17, 18, 19, 20, 21, 22, 23], [0, 1, 2, 3, 4, 5, 6, 7, 8, 9, 10, 11, 12, 13, 14, 15, 16, 17, 18, 19, 20, 21, 22, 23, 24, 25, 26, 27, 28], [0, 1, 2, 3, 4, 5, 6, 7, 8, 9, 10, 11, 12, 13, 14, 15, 16, 17, 18, 19, 20, 21, 22, 23, 24, 25, 26, 27, 28, 29], [0, 1, 2, 3, 4, 5, 6, 7, 8, 9, 10, 11, 12, 13, 14, 15, 16, 17, 18, 19, 20, 21, 22, 23, 24, 25, 26, 27, 28, 29, 30], [0, 1, 2, 3, 4, 5, 6, 7, 8, 9, 10, 11, 12, 13, 14, 15, 16, 17, 18, 19, 20, 21, 22, 23, 24, 25, 26, 27, 28, 29, 30, 31], [0, 1, 2, 3, 4, 5, 6, 7, 8, 9, 10, 11, 12, 13, 14, 15, 16, 17, 18, 19, 20, 21, 22, 23, 24, 25, 26, 27, 28, 29, 30, 31, 32], [0, 1, 2, 3, 4, 5, 6, 7, 8, 9, 10, 11, 12, 13, 14, 15, 16, 17, 18, 19, 20, 21, 22, 23, 24, 25, 26, 27, 28, 29, 30, 31, 32, 33], [0, 1, 2, 3, 4, 5, 6, 7, 8, 9, 10, 11, 12, 13, 14, 15, 16, 17, 18, 19, 20, 21, 22, 23, 24, 25, 26, 27, 28, 29, 30, 31, 32, 33, 34], [0, 1, 2, 3, 4, 5, 6, 7, 8, 9, 10, 11, 12, 13, 14, 15, 16, 17, 18, 19, 20, 21, 22, 23, 24, 25, 26, 27, 28, 29, 30, 31, 32, 33, 34, 35]] (cl_lt (by decide)) ?_
  refine HeadR.start (cl_lt (by decide)) ?_
  refine HeadR.det rfl (fun β hβ => (det_loadA ty30 rfl (List.Mem.tail _ (List.Mem.head _)) rfl)) ?_
  refine HeadR.det rfl (fun β hβ => ((det_call en23 rfl (fun w hb ho => POn_ok (p := gen) ho.blocks)).to (congrArg Value.bool hh.h1))) ?_
  refine HeadR.det rfl (fun β hβ => (det_move rfl)) ?_
  refine HeadR.yes rfl rfl (fun _ _ => rfl) (fun β hβ => (det_loadA ty30 rfl (List.Mem.head _) rfl)) ?_
  refine HeadR.yes rfl rfl (fun _ _ => rfl) (fun β hβ => ((det_call en23 rfl (fun w hb ho => POn_ok (p := padd gen gen) ho.blocks)).to (congrArg Value.bool hh.h2))) ?_
  refine HeadR.det rfl (fun β hβ => (det_pick rfl rfl)) ?_
  refine HeadR.det rfl (fun β hβ => (det_move rfl)) ?_
  refine HeadR.yes rfl rfl (fun _ _ => rfl) (fun β hβ => (det_loadA ty30 rfl (List.Mem.head _) rfl)) ?_
  refine HeadR.yes rfl rfl (fun _ _ => rfl) (fun β hβ => (det_loadA ty30 rfl (List.Mem.tail _ (List.Mem.head _)) rfl)) ?_
  refine HeadR.yes rfl rfl (fun _ _ => rfl) (fun β hβ => ((det_neq30 (a := padd gen gen) (b := gen) rfl rfl).to (congrArg Value.bool hh.h3))) ?_
  refine HeadR.det rfl (fun β hβ => (det_pick rfl rfl)) ?_
  refine HeadR.det rfl (fun β hβ => (det_move rfl)) ?_
  refine HeadR.yes rfl rfl (fun _ _ => rfl) (fun β hβ => (det_loadA ty30 rfl (List.Mem.head _) rfl)) ?_
  refine HeadR.yes rfl rfl (fun _ _ => rfl) (fun β hβ => (det_zero bz30)) ?_
  refine HeadR.yes rfl rfl (fun _ _ => rfl) (fun β hβ => ((det_neq30 (a := padd gen gen) (b := (0, 0)) rfl rfl).to (congrArg Value.bool hh.h4))) ?_
  refine HeadR.det rfl (fun β hβ => (det_pick rfl rfl)) ?_
  refine HeadR.det rfl (fun β hβ => (det_move rfl)) ?_
  refine HeadR.yes rfl rfl (fun _ _ => rfl) (fun β hβ => (det_loadA ty30 rfl (List.Mem.tail _ (List.Mem.head _)) rfl)) ?_
  refine HeadR.yesFresh rfl rfl (fun _ _ => rfl) (fun β hβ => (fr_buildSlice rfl two_sl).new) ?_
  refine HeadR.yes rfl rfl (fun _ _ => rfl) (fun β hβ => (det_call en25 rfl (fun w hb ho => Times_ok (G' := [((β 25).1, blk (bcells [2] ++ []) 5)]) (p := gen) (Bs.of two_small (Nat.le_refl _)) (by decide) (blocks_cons (hb _ (List.Mem.head _)) ho.blocks)))) ?_
  refine HeadR.yes rfl rfl (fun _ _ => rfl) (fun β hβ => (det_loadA ty30 rfl (List.Mem.head _) rfl)) ?_
  refine HeadR.yes rfl rfl (fun _ _ => rfl) (fun β hβ => ((det_eql30 (a := times [2] gen) (b := padd gen gen) rfl rfl).to (congrArg Value.bool hh.h5))) ?_
  refine HeadR.det rfl (fun β hβ => (det_pick rfl rfl)) ?_
  refine HeadR.det rfl (fun β hβ => (det_move rfl)) ?_
  refine HeadR.yes rfl rfl (fun _ _ => rfl) (fun β hβ => (det_loadA ty30 rfl (List.Mem.tail _ (List.Mem.tail _ (List.Mem.head _))) rfl)) ?_
  refine HeadR.yes rfl rfl (fun _ _ => rfl) (fun β hβ => (det_loadA ty30 rfl (List.Mem.tail _ (List.Mem.tail _ (List.Mem.head _))) rfl)) ?_
  refine HeadR.yes rfl rfl (fun _ _ => rfl) (fun β hβ => (det_call en22 rfl (fun w hb ho => PNeg_ok ho.blocks))) ?_
  refine HeadR.yes rfl rfl (fun _ _ => rfl) (fun β hβ => (det_call en20 rfl (fun w hb ho => PAdd_ok ho.blocks))) ?_
  refine HeadR.yes rfl rfl (fun _ _ => rfl) (fun β hβ => (det_zero bz30)) ?_
  refine HeadR.yes rfl rfl (fun _ _ => rfl) (fun β hβ => ((det_eql30 (a := padd gen (pneg gen)) (b := (0, 0)) rfl rfl).to (congrArg Value.bool hh.h6))) ?_
  refine HeadR.det rfl (fun β hβ => (det_pick rfl rfl)) ?_
  refine HeadR.det rfl (fun β hβ => (det_move rfl)) ?_
  refine HeadR.yes rfl rfl (fun _ _ => rfl) (fun β hβ => (det_fieldAddr fl30_0 rfl)) ?_
  refine HeadR.yes rfl rfl (fun _ _ => rfl) (fun β hβ => (det_loadA ty28 rfl (List.Mem.tail _ (List.Mem.tail _ (List.Mem.head _))) rfl)) ?_
  refine HeadR.yes rfl rfl (fun _ _ => rfl) (fun β hβ => ((det_call en48 rfl (fun w hb ho => Odd_ok (x := gen.1) ho.blocks)).to (congrArg Value.bool hh.h7))) ?_
  refine HeadR.det rfl (fun β hβ => (det_pick rfl rfl)) ?_
  refine HeadR.det rfl (fun β hβ => (det_assign rfl)) ?_
  refine HeadR.done ⟨by kernel_rfl, fun β hβ => ?_⟩
  refine OpsW.norm (F' := ((7, _) :: (8, _) :: (9, _) :: (10, _) :: (11, _) :: (12, _) :: (13, _) :: (14, _) :: (15, _) :: (16, _) :: (17, _) :: (18, _) :: (19, _) :: (20, _) :: (21, _) :: (22, _) :: (23, _) :: (24, _) :: (25, .slice (some ⟨(β 25).1, 0, none⟩) 1 1) :: (26, _) :: (27, _) :: (28, _) :: (29, _) :: (30, _) :: (31, _) :: (32, _) :: (33, _) :: (34, _) :: (35, _) :: (36, _) :: (37, _) :: (38, _) :: (39, _) :: (40, _) :: (41, _) :: (42, _) :: (0, _) :: (2, _) :: (1, _) :: [])) (H' := [(_, _), (_, _), (_, _)]) rfl rfl ?_
  generalize (β 25).1 = b25
  refine sNext ?_
  refine W.keep (F' := [(0, _)]) ⟨rfl, trivial⟩ ?_
  refine sRet ?_
  exact done1 Tryd.results15 (rv_tmp rfl) rfl

end Go.Cu

/- The first group's laws: G1Rules: the walk. Conditions: the rules that the points obey. -/
namespace Go.Cu
open Go Go.Vm Go.RowKit Go.Proofs 
attribute [local irreducible] W OpsW Det Fresh New Writes Vm.Pure Makes Changes ExternTo BuildTo ZeroTo FieldTo IndexTo BinTo SliceTo Vm.Enters
set_option linter.unusedVariables false
set_option linter.unusedSimpArgs false
variable {T : Nat → TypeId × Nat × Nat}

theorem nb {p : Prop} [Decidable p] (h : p) : (!decide p) = false := by rw [decide_eq_true h]; rfl
theorem yb {p : Prop} [Decidable p] (h : p) : decide p = true := decide_eq_true h
structure RulesOk (p q r : Pt) : Prop where
  r1 : padd (padd p q) r = padd p (padd q r)
  r2 : psum [p, q, r] = padd (padd p q) r
  r3 : padd p (0, 0) = p
  r4 : padd (0, 0) p = p
  r5 : padd p (pneg p) = (0, 0)
  r6 : pneg (pneg p) = p
  r7 : pneg (padd p q) = padd (pneg p) (pneg q)
  r8 : psum [] = (0, 0)
  r9 : pneg (0, 0) = (0, 0)
  r10 : onB (0, 0) = true
theorem slice45 {p q r : Pt} : SliceTo Tryd.prog 45 3 [(0, encP p), (1, encP q), (2, encP r)] (cellsP p ++ cellsP q ++ cellsP r) 30 := SliceTo.of fun _ => by kernel_rfl
theorem pts3 {p q r : Pt} {b : Nat} : Pts [(b, blk (cellsP p ++ cellsP q ++ cellsP r) 30)] (.slice (some ⟨b, 0, none⟩) 3 3) [p, q, r] :=
  ⟨⟨_, _, rfl⟩, fun i h => ⟨b, 0, 3, _, 30, (0, 0), rfl, List.mem_singleton.2 rfl, by
    have h : i < 3 := h
    have : i = 0 ∨ i = 1 ∨ i = 2 := by omega
    rcases this with rfl | rfl | rfl <;> rfl⟩⟩
theorem pts0 : Pts [] (.slice none 0 0) [] := ⟨⟨_, _, rfl⟩, fun i h => absurd h (Nat.not_lt_zero _)⟩
theorem not_long {a b c : Nat} (h : longB a b c = false) : a ≤ 100 ∧ b ≤ 100 ∧ c ≤ 100 := by unfold longB at h; simp at h; omega
/-- The point that bytes make of the generator. -/
def gp (l : List Nat) : Pt := pmul gen (wide l)

theorem en15 : Vm.Enters Tryd.prog 15 := Vm.Enters.of fun _ _ => by kernel_rfl
theorem en16 : Vm.Enters Tryd.prog 16 := Vm.Enters.of fun _ _ => by kernel_rfl
theorem en18 : Vm.Enters Tryd.prog 18 := Vm.Enters.of fun _ _ => by kernel_rfl
theorem en19 : Vm.Enters Tryd.prog 19 := Vm.Enters.of fun _ _ => by kernel_rfl
theorem en21 : Vm.Enters Tryd.prog 21 := Vm.Enters.of fun _ _ => by kernel_rfl
set_option maxHeartbeats 2000000 in
theorem G1Rules_ok {G' : Hp} {va vb vc : Value} {la lb lc : List Nat} (ha : Bs G' va la) (hb' : Bs G' vb lb) (hc' : Bs G' vc lc) (hh : HeadOk) (hr : RulesOk (gp la) (gp lb) (gp lc)) {w : World} (hG : Blocks (G' ++ GH T) w)  : Vm.Pure Tryd.prog 3 #[va, vb, vc] w (.bool true) := by
  obtain ⟨aa, ca, hva⟩ := ha.shape
  obtain ⟨ab, cb, hvb⟩ := hb'.shape
  obtain ⟨ac, cc, hvc⟩ := hc'.shape
  refine pure_of_W (n := 108) (args := [va, vb, vc]) Tryd.func3 rfl Tryd.ntmps3 (Nat.le_of_ble_eq_true rfl) hG ?_
  refine sStart ?_
  refine sSeq ?_
  subst hva
  subst hvb
  subst hvc
  refine W.region ?_
  refine OpsW.det (det_assign rfl) rfl ?_
  refine sNext ?_
  refine W.keep (F' := [(0, _), (1, _), (2, _)]) ⟨rfl, rfl, rfl, trivial⟩ ?_
  refine sSeq ?_
  refine sSeq ?_
  refine W.region ?_
  refine OpsW.det (det_call en15 rfl (fun w hb ho => head_ok hh (fun p hp => ho.look (List.mem_append_right _ hp)))) rfl ?_
  refine OpsW.det (det_not rfl) rfl ?_
  refine sNext ?_
  refine W.keep (F' := [(12, _), (0, _), (1, _), (2, _)]) ⟨rfl, rfl, rfl, rfl, trivial⟩ ?_
  refine W.cond_false rfl ?_
  refine sSkip ?_
  refine sSeq ?_
  refine sSeq ?_
  refine W.region ?_
  refine OpsW.det (det_move rfl) rfl ?_
  refine OpsW.det (det_move rfl) rfl ?_
  refine OpsW.det (det_move rfl) rfl ?_
  refine OpsW.det (det_call en16 rfl (fun w hb ho => long_ok (fun p hp => ho.look (List.mem_append_right _ hp)))) rfl ?_
  refine sNext ?_
  refine W.keep (F' := [(16, _), (0, _), (1, _), (2, _)]) ⟨rfl, rfl, rfl, rfl, trivial⟩ ?_
  refine W.cond rfl (fun hc16 => ?_) (fun hc16 => ?_)
  · skip
    refine sSeq ?_
    refine W.region ?_
    refine OpsW.det (det_assign rfl) rfl ?_
    refine sNext ?_
    refine W.keep (F' := [(6, _)]) ⟨rfl, trivial⟩ ?_
    refine sRet ?_
    exact done1 Tryd.results3 (rv_tmp rfl) rfl
  · skip
    have hl := not_long hc16
    refine sSkip ?_
    refine sSeq ?_
    refine W.region ?_
    refine OpsW.det (det_call en17 rfl (fun w hb ho => Gen_ok (fun p hp => ho.look (List.mem_append_right _ hp)))) rfl ?_
    refine OpsW.det (det_move rfl) rfl ?_
    refine OpsW.det (det_call en19 rfl (fun w hb ho => scalar_ok (G' := G') ha (Nat.le_trans hl.1 (by decide)) ho.blocks)) rfl ?_
    refine OpsW.det (det_call en18 rfl (fun w hb ho => PMul_ok (fun p hp => ho.look (List.mem_append_right _ hp)))) rfl ?_
    refine OpsW.fresh (fr_alloc z30) rfl fun b7 => ?_
    refine OpsW.store sz30 rfl rfl rfl rfl rfl (Upd.here) rfl ?_
    refine sNext ?_
    refine W.keep (F' := [(7, _), (1, _), (2, _)]) ⟨rfl, rfl, rfl, trivial⟩ ?_
    refine sSeq ?_
    refine W.region ?_
    refine OpsW.det (det_call en17 rfl (fun w hb ho => Gen_ok (fun p hp => ho.look (List.mem_append_right _ hp)))) rfl ?_
    refine OpsW.det (det_move rfl) rfl ?_
    refine OpsW.det (det_call en19 rfl (fun w hb ho => scalar_ok (G' := G') hb' (Nat.le_trans hl.2.1 (by decide)) ho.blocks)) rfl ?_
    refine OpsW.det (det_call en18 rfl (fun w hb ho => PMul_ok (fun p hp => ho.look (List.mem_append_right _ hp)))) rfl ?_
    refine OpsW.fresh (fr_alloc z30) rfl fun b8 => ?_
    refine OpsW.store sz30 rfl rfl rfl rfl rfl (Upd.here) rfl ?_
    refine sNext ?_
    refine W.keep (F' := [(8, _), (7, _), (2, _)]) ⟨rfl, rfl, rfl, trivial⟩ ?_
    refine sSeq ?_
    refine W.region ?_
    refine OpsW.det (det_call en17 rfl (fun w hb ho => Gen_ok (fun p hp => ho.look (List.mem_append_right _ hp)))) rfl ?_
    refine OpsW.det (det_move rfl) rfl ?_
    refine OpsW.det (det_call en19 rfl (fun w hb ho => scalar_ok (G' := G') hc' (Nat.le_trans hl.2.2 (by decide)) ho.blocks)) rfl ?_
    refine OpsW.det (det_call en18 rfl (fun w hb ho => PMul_ok (fun p hp => ho.look (List.mem_append_right _ hp)))) rfl ?_
    refine OpsW.fresh (fr_alloc z30) rfl fun b9 => ?_
    refine OpsW.store sz30 rfl rfl rfl rfl rfl (Upd.here) rfl ?_
    refine sNext ?_
    refine W.keep (F' := [(9, _), (8, _), (7, _)]) ⟨rfl, rfl, rfl, trivial⟩ ?_
    refine sSeq ?_
    refine W.region ?_
    refine OpsW.det (det_zero bz30) rfl ?_
    refine OpsW.fresh (fr_alloc z30) rfl fun b10 => ?_
    refine OpsW.store sz30 rfl rfl rfl rfl rfl (Upd.here) rfl ?_
    refine sNext ?_
    refine W.keep (F' := [(10, _), (9, _), (8, _), (7, _)]) ⟨rfl, rfl, rfl, rfl, trivial⟩ ?_
    refine sSeq ?_
    refine sSeq ?_
    refine W.draw mixed 46 [[], [], [0, 1], [], [0, 1, 2, 3], [], [], [], [0, 1, 2, 3, 4, 6, 7], [0, 1, 2, 3, 4, 5, 6, 7, 8], [0, 1, 2, 3, 4, 5, 6, 7, 8, 9], [0, 1, 2, 3, 4, 5, 6, 7, 8, 9, 10], [0, 1, 2, 3, 4, 5, 6, 7, 8, 9, 10, 11], [0, 1, 2, 3, 4, 5, 6, 7, 8, 9, 10, 11], [0, 1, 2, 3, 4, 5, 6, 7, 8, 9, 10, 11], [0, 1, 2, 3, 4, 5, 6, 7, 8, 9, 10, 11, 12, 13, 14], [0, 1, 2, 3, 4, 5, 6, 7, 8, 9, 10, 11, 12, 13, 14, 15], [0, 1, 2, 3, 4, 5, 6, 7, 8, 9, 10, 11], [0, 1, 2, 3, 4, 5, 6, 7, 8, 9, 10, 11], [0, 1, 2, 3, 4, 5, 6, 7, 8, 9, 10, 11, 12, 13, 14, 15, 16, 17, 18], [0, 1, 2, 3, 4, 5, 6, 7, 8, 9, 10, 11], [0, 1, 2, 3, 4, 5, 6, 7, 8, 9, 10, 11, 12, 13, 14, 15, 16, 17, 18, 19, 20], [0, 1, 2, 3, 4, 5, 6, 7, 8, 9, 10, 11, 12, 13, 14, 15, 16, 17, 18, 19, 20, 21], [0, 1, 2, 3, 4, 5, 6, 7, 8, 9, 10, 11, 12, 13, 14, 15, 16, 17, 18, 19, 20, 21, 22], [0, 1, 2, 3, 4, 5, 6, 7, 8, 9, 10, 11, 12, 13, 14, 15, 16, 17, 18, 19, 20, 21, 22, 23], [0, 1, 2, 3, 4, 5, 6, 7, 8, 9, 10, 11, 12, 13, 14, 15, 16, 17, 18, 19, 20, 21, 22, 23, 24], [0, 1, 2, 3, 4, 5, 6, 7, 8, 9, 10, 11, 12, 13, 14, 15, 16, 17, 18, 19, 20, 21, 22, 23, 24], [0, 1, 2, 3, 4, 5, 6, 7, 8, 9, 10, 11, 12, 13, 14, 15, 16, 17, 18, 19, 20, 21, 22, 23, 24, 25, 26], [0, 1, 2, 3, 4, 5, 6, 7, 8, 9, 10, 11, 12, 13, 14, 15, 16, 17, 18, 19, 20, 21, 22, 23, 24], [0, 1, 2, 3, 4, 5, 6, 7, 8, 9, 10, 11, 12, 13, 14, 15, 16, 17, 18, 19, 20, 21, 22, 23, 24, 25, 26, 27, 28], [0, 1, 2, 3, 4, 5, 6, 7, 8, 9, 10, 11, 12, 13, 14, 15, 16, 17, 18, 19, 20, 21, 22, 23, 24, 25, 26, 27, 28, 29], [0, 1, 2, 3, 4, 5, 6, 7, 8, 9, 10, 11, 12, 13, 14, 15, 16, 17, 18, 19, 20, 21, 22, 23, 24, 25, 26, 27, 28, 29, 30], [0, 1, 2, 3, 4, 5, 6, 7, 8, 9, 10, 11, 12, 13, 14, 15, 16, 17, 18, 19, 20, 21, 22, 23, 24, 25, 26, 27, 28, 29, 30, 31], [0, 1, 2, 3, 4, 5, 6, 7, 8, 9, 10, 11, 12, 13, 14, 15, 16, 17, 18, 19, 20, 21, 22, 23, 24, 25, 26, 27, 28, 29, 30, 31], [0, 1, 2, 3, 4, 5, 6, 7, 8, 9, 10, 11, 12, 13, 14, 15, 16, 17, 18, 19, 20, 21, 22, 23, 24, 25, 26, 27, 28, 29, 30, 31, 32, 33], [0, 1, 2, 3, 4, 5, 6, 7, 8, 9, 10, 11, 12, 13, 14, 15, 16, 17, 18, 19, 20, 21, 22, 23, 24, 25, 26, 27, 28, 29, 30, 31], [0, 1, 2, 3, 4, 5, 6, 7, 8, 9, 10, 11, 12, 13, 14, 15, 16, 17, 18, 19, 20, 21, 22, 23, 24, 25, 26, 27, 28, 29, 30, 31, 32, 33, 34, 35], [0, 1, 2, 3, 4, 5, 6, 7, 8, 9, 10, 11, 12, 13, 14, 15, 16, 17, 18, 19, 20, 21, 22, 23, 24, 25, 26, 27, 28, 29, 30, 31, 32, 33, 34, 35, 36], [0, 1, 2, 3, 4, 5, 6, 7, 8, 9, 10, 11, 12, 13, 14, 15, 16, 17, 18, 19, 20, 21, 22, 23, 24, 25, 26, 27, 28, 29, 30, 31, 32, 33, 34, 35, 36, 37], [0, 1, 2, 3, 4, 5, 6, 7, 8, 9, 10, 11, 12, 13, 14, 15, 16, 17, 18, 19, 20, 21, 22, 23, 24, 25, 26, 27, 28, 29, 30, 31, 32, 33, 34, 35, 36, 37, 38], [0, 1, 2, 3, 4, 5, 6, 7, 8, 9, 10, 11, 12, 13, 14, 15, 16, 17, 18, 19, 20, 21, 22, 23, 24, 25, 26, 27, 28, 29, 30, 31, 32, 33, 34, 35, 36, 37, 38], [0, 1, 2, 3, 4, 5, 6, 7, 8, 9, 10, 11, 12, 13, 14, 15, 16, 17, 18, 19, 20, 21, 22, 23, 24, 25, 26, 27, 28, 29, 30, 31, 32, 33, 34, 35, 36, 37, 38, 40], [0, 1, 2, 3, 4, 5, 6, 7, 8, 9, 10, 11, 12, 13, 14, 15, 16, 17, 18, 19, 20, 21, 22, 23, 24, 25, 26, 27, 28, 29, 30, 31, 32, 33, 34, 35, 36, 37, 38, 39, 40, 41], [0, 1, 2, 3, 4, 5, 6, 7, 8, 9, 10, 11, 12, 13, 14, 15, 16, 17, 18, 19, 20, 21, 22, 23, 24, 25, 26, 27, 28, 29, 30, 31, 32, 33, 34, 35, 36, 37, 38], [0, 1, 2, 3, 4, 5, 6, 7, 8, 9, 10, 11, 12, 13, 14, 15, 16, 17, 18, 19, 20, 21, 22, 23, 24, 25, 26, 27, 28, 29, 30, 31, 32, 33, 34, 35, 36, 37, 38, 39, 40, 41, 42, 43], [0, 1, 2, 3, 4, 5, 6, 7, 8, 9, 10, 11, 12, 13, 14, 15, 16, 17, 18, 19, 20, 21, 22, 23, 24, 25, 26, 27, 28, 29, 30, 31, 32, 33, 34, 35, 36, 37, 38, 39, 40, 41, 42, 43, 44]] (cl_lt (by decide)) ?_
    refine HeadR.start (cl_lt (by decide)) ?_
    refine HeadR.det rfl (fun β hβ => (det_loadA ty30 rfl (List.Mem.tail _ (List.Mem.tail _ (List.Mem.tail _ (List.Mem.head _)))) rfl)) ?_
    refine HeadR.det rfl (fun β hβ => (det_loadA ty30 rfl (List.Mem.tail _ (List.Mem.tail _ (List.Mem.head _))) rfl)) ?_
    refine HeadR.det rfl (fun β hβ => (det_call en20 rfl (fun w hb ho => PAdd_ok (fun p hp => ho.look (List.mem_append_right _ hp))))) ?_
    refine HeadR.det rfl (fun β hβ => (det_loadA ty30 rfl (List.Mem.tail _ (List.Mem.head _)) rfl)) ?_
    refine HeadR.det rfl (fun β hβ => (det_call en20 rfl (fun w hb ho => PAdd_ok (fun p hp => ho.look (List.mem_append_right _ hp))))) ?_
    refine HeadR.det rfl (fun β hβ => (det_loadA ty30 rfl (List.Mem.tail _ (List.Mem.tail _ (List.Mem.tail _ (List.Mem.head _)))) rfl)) ?_
    refine HeadR.det rfl (fun β hβ => (det_loadA ty30 rfl (List.Mem.tail _ (List.Mem.tail _ (List.Mem.head _))) rfl)) ?_
    refine HeadR.det rfl (fun β hβ => (det_loadA ty30 rfl (List.Mem.tail _ (List.Mem.head _)) rfl)) ?_
    refine HeadR.det rfl (fun β hβ => (det_call en20 rfl (fun w hb ho => PAdd_ok (fun p hp => ho.look (List.mem_append_right _ hp))))) ?_
    refine HeadR.det rfl (fun β hβ => (det_call en20 rfl (fun w hb ho => PAdd_ok (fun p hp => ho.look (List.mem_append_right _ hp))))) ?_
    refine HeadR.det rfl (fun β hβ => ((det_neq30 (a := padd (padd (gp la) (gp lb)) (gp lc)) (b := padd (gp la) (padd (gp lb) (gp lc))) rfl rfl).to (congrArg Value.bool (nb hr.r1)))) ?_
    refine HeadR.det rfl (fun β hβ => (det_move rfl)) ?_
    refine HeadR.yes rfl rfl (fun _ _ => rfl) (fun β hβ => (det_loadA ty30 rfl (List.Mem.tail _ (List.Mem.tail _ (List.Mem.tail _ (List.Mem.head _)))) rfl)) ?_
    refine HeadR.yes rfl rfl (fun _ _ => rfl) (fun β hβ => (det_loadA ty30 rfl (List.Mem.tail _ (List.Mem.tail _ (List.Mem.head _))) rfl)) ?_
    refine HeadR.yes rfl rfl (fun _ _ => rfl) (fun β hβ => (det_loadA ty30 rfl (List.Mem.tail _ (List.Mem.head _)) rfl)) ?_
    refine HeadR.yesFresh rfl rfl (fun _ _ => rfl) (fun β hβ => (fr_buildSlice rfl (slice45 (p := gp la) (q := gp lb) (r := gp lc))).new) ?_
    refine HeadR.yes rfl rfl (fun _ _ => rfl) (fun β hβ => (det_call en21 rfl (fun w hb ho => PSum_ok (G' := [((β 45).1, blk (cellsP (gp la) ++ cellsP (gp lb) ++ cellsP (gp lc)) 30)]) pts3 (by show 3 ≤ 1000000000000; decide) (blocks_cons (hb _ (List.Mem.head _)) (fun p hp => ho.look (List.mem_append_right _ hp)))))) ?_
    refine HeadR.yes rfl rfl (fun _ _ => rfl) (fun β hβ => (det_loadA ty30 rfl (List.Mem.tail _ (List.Mem.tail _ (List.Mem.tail _ (List.Mem.head _)))) rfl)) ?_
    refine HeadR.yes rfl rfl (fun _ _ => rfl) (fun β hβ => (det_loadA ty30 rfl (List.Mem.tail _ (List.Mem.tail _ (List.Mem.head _))) rfl)) ?_
    refine HeadR.yes rfl rfl (fun _ _ => rfl) (fun β hβ => (det_call en20 rfl (fun w hb ho => PAdd_ok (fun p hp => ho.look (List.mem_append_right _ hp))))) ?_
    refine HeadR.yes rfl rfl (fun _ _ => rfl) (fun β hβ => (det_loadA ty30 rfl (List.Mem.tail _ (List.Mem.head _)) rfl)) ?_
    refine HeadR.yes rfl rfl (fun _ _ => rfl) (fun β hβ => (det_call en20 rfl (fun w hb ho => PAdd_ok (fun p hp => ho.look (List.mem_append_right _ hp))))) ?_
    refine HeadR.yes rfl rfl (fun _ _ => rfl) (fun β hβ => ((det_neq30 (a := psum [gp la, gp lb, gp lc]) (b := padd (padd (gp la) (gp lb)) (gp lc)) rfl rfl).to (congrArg Value.bool (nb hr.r2)))) ?_
    refine HeadR.det rfl (fun β hβ => (det_pick rfl rfl)) ?_
    refine HeadR.det rfl (fun β hβ => (det_move rfl)) ?_
    refine HeadR.yes rfl rfl (fun _ _ => rfl) (fun β hβ => (det_loadA ty30 rfl (List.Mem.tail _ (List.Mem.tail _ (List.Mem.tail _ (List.Mem.tail _ (List.Mem.head _))))) rfl)) ?_
    refine HeadR.yes rfl rfl (fun _ _ => rfl) (fun β hβ => (det_loadA ty30 rfl (List.Mem.tail _ (List.Mem.head _)) rfl)) ?_
    refine HeadR.yes rfl rfl (fun _ _ => rfl) (fun β hβ => (det_call en20 rfl (fun w hb ho => PAdd_ok (fun p hp => ho.look (List.mem_append_right _ hp))))) ?_
    refine HeadR.yes rfl rfl (fun _ _ => rfl) (fun β hβ => (det_loadA ty30 rfl (List.Mem.tail _ (List.Mem.tail _ (List.Mem.tail _ (List.Mem.tail _ (List.Mem.head _))))) rfl)) ?_
    refine HeadR.yes rfl rfl (fun _ _ => rfl) (fun β hβ => ((det_neq30 (a := padd (gp la) (0, 0)) (b := gp la) rfl rfl).to (congrArg Value.bool (nb hr.r3)))) ?_
    refine HeadR.det rfl (fun β hβ => (det_pick rfl rfl)) ?_
    refine HeadR.det rfl (fun β hβ => (det_move rfl)) ?_
    refine HeadR.yes rfl rfl (fun _ _ => rfl) (fun β hβ => (det_loadA ty30 rfl (List.Mem.tail _ (List.Mem.head _)) rfl)) ?_
    refine HeadR.yes rfl rfl (fun _ _ => rfl) (fun β hβ => (det_loadA ty30 rfl (List.Mem.tail _ (List.Mem.tail _ (List.Mem.tail _ (List.Mem.tail _ (List.Mem.head _))))) rfl)) ?_
    refine HeadR.yes rfl rfl (fun _ _ => rfl) (fun β hβ => (det_call en20 rfl (fun w hb ho => PAdd_ok (fun p hp => ho.look (List.mem_append_right _ hp))))) ?_
    refine HeadR.yes rfl rfl (fun _ _ => rfl) (fun β hβ => (det_loadA ty30 rfl (List.Mem.tail _ (List.Mem.tail _ (List.Mem.tail _ (List.Mem.tail _ (List.Mem.head _))))) rfl)) ?_
    refine HeadR.yes rfl rfl (fun _ _ => rfl) (fun β hβ => ((det_neq30 (a := padd (0, 0) (gp la)) (b := gp la) rfl rfl).to (congrArg Value.bool (nb hr.r4)))) ?_
    refine HeadR.det rfl (fun β hβ => (det_pick rfl rfl)) ?_
    refine HeadR.det rfl (fun β hβ => (det_move rfl)) ?_
    refine HeadR.yes rfl rfl (fun _ _ => rfl) (fun β hβ => (det_loadA ty30 rfl (List.Mem.tail _ (List.Mem.tail _ (List.Mem.tail _ (List.Mem.tail _ (List.Mem.head _))))) rfl)) ?_
    refine HeadR.yes rfl rfl (fun _ _ => rfl) (fun β hβ => (det_loadA ty30 rfl (List.Mem.tail _ (List.Mem.tail _ (List.Mem.tail _ (List.Mem.tail _ (List.Mem.head _))))) rfl)) ?_
    refine HeadR.yes rfl rfl (fun _ _ => rfl) (fun β hβ => (det_call en22 rfl (fun w hb ho => PNeg_ok (fun p hp => ho.look (List.mem_append_right _ hp))))) ?_
    refine HeadR.yes rfl rfl (fun _ _ => rfl) (fun β hβ => (det_call en20 rfl (fun w hb ho => PAdd_ok (fun p hp => ho.look (List.mem_append_right _ hp))))) ?_
    refine HeadR.yes rfl rfl (fun _ _ => rfl) (fun β hβ => (det_loadA ty30 rfl (List.Mem.tail _ (List.Mem.head _)) rfl)) ?_
    refine HeadR.yes rfl rfl (fun _ _ => rfl) (fun β hβ => ((det_neq30 (a := padd (gp la) (pneg (gp la))) (b := (0, 0)) rfl rfl).to (congrArg Value.bool (nb hr.r5)))) ?_
    refine HeadR.det rfl (fun β hβ => (det_pick rfl rfl)) ?_
    refine HeadR.done ⟨by kernel_rfl, fun β hβ => ?_⟩
    refine OpsW.norm (F' := ((30, _) :: (31, _) :: (32, _) :: (33, _) :: (34, _) :: (35, _) :: (36, _) :: (37, _) :: (38, _) :: (39, _) :: (40, _) :: (41, _) :: (42, _) :: (43, _) :: (44, _) :: (45, .slice (some ⟨(β 45).1, 0, none⟩) 3 3) :: (46, _) :: (47, _) :: (48, _) :: (49, _) :: (50, _) :: (51, _) :: (52, _) :: (53, _) :: (54, _) :: (55, _) :: (56, _) :: (57, _) :: (58, _) :: (59, _) :: (60, _) :: (61, _) :: (62, _) :: (63, _) :: (64, _) :: (65, _) :: (66, _) :: (67, _) :: (68, _) :: (69, _) :: (70, _) :: (71, _) :: (72, _) :: (73, _) :: (74, _) :: (75, _) :: (10, _) :: (9, _) :: (8, _) :: (7, _) :: [])) (H' := [(_, _), (_, _), (_, _), (_, _), (_, _)]) rfl rfl ?_
    generalize (β 45).1 = b45
    refine sNext ?_
    refine W.keep (F' := [(75, _), (10, _), (8, _), (7, _)]) ⟨rfl, rfl, rfl, rfl, trivial⟩ ?_
    refine W.cond_false rfl ?_
    refine sSkip ?_
    refine sSeq ?_
    refine W.draw mixed 33 [[], [0], [0, 1], [], [0, 1, 2, 3], [0, 1, 2, 3, 4], [0, 1, 2, 3, 4, 5], [0, 1, 2, 3, 4, 5], [0, 1, 2, 3, 4, 5, 6, 7], [0, 1, 2, 3, 4, 5, 6, 7, 8], [0, 1, 2, 3, 4, 5], [0, 1, 2, 3, 4, 5, 6, 7, 8, 9, 10], [0, 1, 2, 3, 4, 5], [0, 1, 2, 3, 4, 5, 6, 7, 8, 9, 10, 11, 12], [0, 1, 2, 3, 4, 5, 6, 7, 8, 9, 10, 11, 12, 13], [0, 1, 2, 3, 4, 5, 6, 7, 8, 9, 10, 11, 12, 13, 14], [0, 1, 2, 3, 4, 5, 6, 7, 8, 9, 10, 11, 12, 13, 14, 15], [0, 1, 2, 3, 4, 5, 6, 7, 8, 9, 10, 11, 12, 13, 14, 15, 16], [0, 1, 2, 3, 4, 5, 6, 7, 8, 9, 10, 11, 12, 13, 14, 15, 16, 17], [0, 1, 2, 3, 4, 5, 6, 7, 8, 9, 10, 11, 12, 13, 14, 15, 16, 17], [0, 1, 2, 3, 4, 5, 6, 7, 8, 9, 10, 11, 12, 13, 14, 15, 16, 17, 18, 19], [0, 1, 2, 3, 4, 5, 6, 7, 8, 9, 10, 11, 12, 13, 14, 15, 16, 17, 18, 19, 20], [0, 1, 2, 3, 4, 5, 6, 7, 8, 9, 10, 11, 12, 13, 14, 15, 16, 17, 18, 19, 20, 21], [0, 1, 2, 3, 4, 5, 6, 7, 8, 9, 10, 11, 12, 13, 14, 15, 16, 17, 18, 19, 20, 21, 22], [0, 1, 2, 3, 4, 5, 6, 7, 8, 9, 10, 11, 12, 13, 14, 15, 16, 17, 18, 19, 20, 21, 22, 23], [0, 1, 2, 3, 4, 5, 6, 7, 8, 9, 10, 11, 12, 13, 14, 15, 16, 17, 18, 19, 20, 21, 22], [0, 1, 2, 3, 4, 5, 6, 7, 8, 9, 10, 11, 12, 13, 14, 15, 16, 17, 18, 19, 20, 21, 22, 23, 24, 25], [0, 1, 2, 3, 4, 5, 6, 7, 8, 9, 10, 11, 12, 13, 14, 15, 16, 17, 18, 19, 20, 21, 22, 23, 24, 25, 26], [0, 1, 2, 3, 4, 5, 6, 7, 8, 9, 10, 11, 12, 13, 14, 15, 16, 17, 18, 19, 20, 21, 22, 23, 24, 25, 26, 27], [0, 1, 2, 3, 4, 5, 6, 7, 8, 9, 10, 11, 12, 13, 14, 15, 16, 17, 18, 19, 20, 21, 22, 23, 24, 25, 26, 27, 28], [0, 1, 2, 3, 4, 5, 6, 7, 8, 9, 10, 11, 12, 13, 14, 15, 16, 17, 18, 19, 20, 21, 22, 23, 24, 25, 26, 27, 28, 29], [0, 1, 2, 3, 4, 5, 6, 7, 8, 9, 10, 11, 12, 13, 14, 15, 16, 17, 18, 19, 20, 21, 22, 23, 24, 25, 26, 27, 28, 29, 30], [0, 1, 2, 3, 4, 5, 6, 7, 8, 9, 10, 11, 12, 13, 14, 15, 16, 17, 18, 19, 20, 21, 22, 23, 24, 25, 26, 27, 28, 29, 30, 31]] (cl_lt (by decide)) ?_
    refine HeadR.start (cl_lt (by decide)) ?_
    refine HeadR.det rfl (fun β hβ => (det_loadA ty30 rfl (List.Mem.tail _ (List.Mem.tail _ (List.Mem.tail _ (List.Mem.tail _ (List.Mem.head _))))) rfl)) ?_
    refine HeadR.det rfl (fun β hβ => (det_call en22 rfl (fun w hb ho => PNeg_ok (fun p hp => ho.look (List.mem_append_right _ hp))))) ?_
    refine HeadR.det rfl (fun β hβ => (det_call en22 rfl (fun w hb ho => PNeg_ok (fun p hp => ho.look (List.mem_append_right _ hp))))) ?_
    refine HeadR.det rfl (fun β hβ => (det_loadA ty30 rfl (List.Mem.tail _ (List.Mem.tail _ (List.Mem.tail _ (List.Mem.tail _ (List.Mem.head _))))) rfl)) ?_
    refine HeadR.det rfl (fun β hβ => ((det_eql30 (a := pneg (pneg (gp la))) (b := gp la) rfl rfl).to (congrArg Value.bool (yb hr.r6)))) ?_
    refine HeadR.det rfl (fun β hβ => (det_move rfl)) ?_
    refine HeadR.yes rfl rfl (fun _ _ => rfl) (fun β hβ => (det_loadA ty30 rfl (List.Mem.tail _ (List.Mem.tail _ (List.Mem.tail _ (List.Mem.tail _ (List.Mem.head _))))) rfl)) ?_
    refine HeadR.yes rfl rfl (fun _ _ => rfl) (fun β hβ => (det_loadA ty30 rfl (List.Mem.tail _ (List.Mem.tail _ (List.Mem.tail _ (List.Mem.head _)))) rfl)) ?_
    refine HeadR.yes rfl rfl (fun _ _ => rfl) (fun β hβ => (det_call en20 rfl (fun w hb ho => PAdd_ok (fun p hp => ho.look (List.mem_append_right _ hp))))) ?_
    refine HeadR.yes rfl rfl (fun _ _ => rfl) (fun β hβ => (det_call en22 rfl (fun w hb ho => PNeg_ok (fun p hp => ho.look (List.mem_append_right _ hp))))) ?_
    refine HeadR.yes rfl rfl (fun _ _ => rfl) (fun β hβ => (det_loadA ty30 rfl (List.Mem.tail _ (List.Mem.tail _ (List.Mem.tail _ (List.Mem.tail _ (List.Mem.head _))))) rfl)) ?_
    refine HeadR.yes rfl rfl (fun _ _ => rfl) (fun β hβ => (det_call en22 rfl (fun w hb ho => PNeg_ok (fun p hp => ho.look (List.mem_append_right _ hp))))) ?_
    refine HeadR.yes rfl rfl (fun _ _ => rfl) (fun β hβ => (det_loadA ty30 rfl (List.Mem.tail _ (List.Mem.tail _ (List.Mem.tail _ (List.Mem.head _)))) rfl)) ?_
    refine HeadR.yes rfl rfl (fun _ _ => rfl) (fun β hβ => (det_call en22 rfl (fun w hb ho => PNeg_ok (fun p hp => ho.look (List.mem_append_right _ hp))))) ?_
    refine HeadR.yes rfl rfl (fun _ _ => rfl) (fun β hβ => (det_call en20 rfl (fun w hb ho => PAdd_ok (fun p hp => ho.look (List.mem_append_right _ hp))))) ?_
    refine HeadR.yes rfl rfl (fun _ _ => rfl) (fun β hβ => ((det_eql30 (a := pneg (padd (gp la) (gp lb))) (b := padd (pneg (gp la)) (pneg (gp lb))) rfl rfl).to (congrArg Value.bool (yb hr.r7)))) ?_
    refine HeadR.det rfl (fun β hβ => (det_pick rfl rfl)) ?_
    refine HeadR.det rfl (fun β hβ => (det_move rfl)) ?_
    refine HeadR.yes rfl rfl (fun _ _ => rfl) (fun β hβ => (det_call en21 rfl (fun w hb ho => PSum_ok (G' := []) pts0 (Nat.zero_le _) (fun p hp => ho.look (List.mem_append_right _ hp))))) ?_
    refine HeadR.yes rfl rfl (fun _ _ => rfl) (fun β hβ => (det_loadA ty30 rfl (List.Mem.tail _ (List.Mem.head _)) rfl)) ?_
    refine HeadR.yes rfl rfl (fun _ _ => rfl) (fun β hβ => ((det_eql30 (a := psum []) (b := (0, 0)) rfl rfl).to (congrArg Value.bool (yb hr.r8)))) ?_
    refine HeadR.det rfl (fun β hβ => (det_pick rfl rfl)) ?_
    refine HeadR.det rfl (fun β hβ => (det_move rfl)) ?_
    refine HeadR.yes rfl rfl (fun _ _ => rfl) (fun β hβ => (det_loadA ty30 rfl (List.Mem.tail _ (List.Mem.head _)) rfl)) ?_
    refine HeadR.yes rfl rfl (fun _ _ => rfl) (fun β hβ => (det_call en22 rfl (fun w hb ho => PNeg_ok (fun p hp => ho.look (List.mem_append_right _ hp))))) ?_
    refine HeadR.yes rfl rfl (fun _ _ => rfl) (fun β hβ => (det_loadA ty30 rfl (List.Mem.tail _ (List.Mem.head _)) rfl)) ?_
    refine HeadR.yes rfl rfl (fun _ _ => rfl) (fun β hβ => ((det_eql30 (a := pneg (0, 0)) (b := (0, 0)) rfl rfl).to (congrArg Value.bool (yb hr.r9)))) ?_
    refine HeadR.det rfl (fun β hβ => (det_pick rfl rfl)) ?_
    refine HeadR.det rfl (fun β hβ => (det_move rfl)) ?_
    refine HeadR.yes rfl rfl (fun _ _ => rfl) (fun β hβ => (det_loadA ty30 rfl (List.Mem.tail _ (List.Mem.head _)) rfl)) ?_
    refine HeadR.yes rfl rfl (fun _ _ => rfl) (fun β hβ => ((det_call en23 rfl (fun w hb ho => POn_ok (p := (0, 0)) (fun p hp => ho.look (List.mem_append_right _ hp)))).to (congrArg Value.bool (hr.r10)))) ?_
    refine HeadR.det rfl (fun β hβ => (det_pick rfl rfl)) ?_
    refine HeadR.det rfl (fun β hβ => (det_assign rfl)) ?_
    refine HeadR.done ⟨by kernel_rfl, fun β hβ => ?_⟩
    refine OpsW.norm (F' := ((76, _) :: (77, _) :: (78, _) :: (79, _) :: (80, _) :: (81, _) :: (82, _) :: (83, _) :: (84, _) :: (85, _) :: (86, _) :: (87, _) :: (88, _) :: (89, _) :: (90, _) :: (91, _) :: (92, _) :: (93, _) :: (94, _) :: (95, _) :: (96, _) :: (97, _) :: (98, _) :: (99, _) :: (100, _) :: (101, _) :: (102, _) :: (103, _) :: (104, _) :: (105, _) :: (106, _) :: (107, _) :: (6, _) :: (75, _) :: (10, _) :: (8, _) :: (7, _) :: [])) (H' := [(_, _), (_, _), (_, _), (_, _), (_, _)]) rfl rfl ?_
    refine sNext ?_
    refine W.keep (F' := [(6, _)]) ⟨rfl, trivial⟩ ?_
    refine sRet ?_
    exact done1 Tryd.results3 (rv_tmp rfl) rfl

end Go.Cu

/- The first group: its points are a group, what the walks compute is its sums and multiples, and the rules that the laws ask for. -/
namespace Go.Cu
open Go.Ec
open CR
set_option linter.unusedVariables false
set_option linter.unusedSimpArgs false
set_option linter.unusedSectionVars false
set_option linter.constructorNameAsVariable false

instance fqFld : Fld Fq where
  toCR := inferInstance
  finv x := pw x (pp - 2)
  mul_finv a ha := by
    have h := fermat prime_pp ha
    rw [show pp - 1 = (pp - 2) + 1 from rfl, pw, mul_comm] at h
    exact h
  one_ne := one_ne prime_pp
instance frFld : Fld Fs where
  toCR := inferInstance
  finv x := pw x (rr - 2)
  mul_finv a ha := by
    have h := fermat prime_rr ha
    rw [show rr - 1 = (rr - 2) + 1 from rfl, pw, mul_comm] at h
    exact h
  one_ne := one_ne prime_rr
instance fourGood : Gd four where
  two := by decide +kernel
  three := by decide +kernel
  b := by decide +kernel

/-! ### Bytes and bits -/
theorem beN_at {l : List Nat} {j : Nat} (hs : ∀ c ∈ l, c < 256) (h : j < l.length) : beN l / 256 ^ j % 256 = l.getD (l.length - 1 - j) 0 := by
  obtain ⟨k, hk⟩ : ∃ k, k = l.length - 1 - j := ⟨_, rfl⟩
  have hkl : k < l.length := by omega
  rw [← hk]
  have e : l = l.take k ++ ([l[k]] ++ l.drop (k + 1)) := by
    rw [List.singleton_append, ← List.drop_eq_getElem_cons hkl, List.take_append_drop]
  have hd : (l.drop (k + 1)).length = j := by rw [List.length_drop]; omega
  have hb := beN_lt (l := l.drop (k + 1)) fun c hc => hs c (List.mem_of_mem_drop hc)
  have hc : l[k] < 256 := hs _ (List.getElem_mem hkl)
  rw [hd] at hb
  have hN : beN l = (beN (l.take k) * 256 + l[k]) * 256 ^ j + beN (l.drop (k + 1)) := by
    conv => lhs; rw [e]
    rw [beN_app, beN_app, hd, List.length_append, hd, List.length_singleton, show beN [l[k]] = l[k] by simp [beN], Nat.add_comm 1 j, Nat.pow_succ, Nat.add_mul, Nat.mul_assoc, Nat.mul_comm 256, Nat.add_assoc]
  rw [hN, Nat.mul_comm _ (256 ^ j), Nat.mul_add_div (Nat.pow_pos (by decide)), Nat.div_eq_of_lt hb, Nat.add_zero, Nat.mul_add_mod_of_lt hc, List.getD_eq_getElem?_getD, List.getElem?_eq_getElem hkl]
  rfl
theorem bit_low {M t : Nat} (h : t < 8) : M % 256 / 2 ^ t % 2 = M / 2 ^ t % 2 := by
  have : t = 0 ∨ t = 1 ∨ t = 2 ∨ t = 3 ∨ t = 4 ∨ t = 5 ∨ t = 6 ∨ t = 7 := by omega
  rcases this with rfl | rfl | rfl | rfl | rfl | rfl | rfl | rfl <;> omega
theorem bit_eq {l : List Nat} (hs : ∀ c ∈ l, c < 256) (i : Nat) : bitB l i = beN l / 2 ^ i % 2 := by
  unfold bitB
  split
  · rename_i h
    have h1 := beN_lt hs
    have h2 : 256 ^ l.length ≤ 2 ^ i := by
      rw [show 256 = 2 ^ 8 from rfl, ← Nat.pow_mul]
      exact Nat.pow_le_pow_right (by decide) h
    rw [Nat.div_eq_of_lt (by omega)]
  · rename_i h
    rw [← beN_at hs (by omega), bit_low (Nat.mod_lt _ (by decide)), Nat.div_div_eq_div_mul, show 256 = 2 ^ 8 from rfl, ← Nat.pow_mul, ← Nat.pow_add, Nat.div_add_mod]
/-- What the digits from the k-th up are worth. -/
def upv (l : List Nat) (k : Nat) : Nat := beN l / 2 ^ k + ov l k
theorem upv_step {l : List Nat} (hs : ∀ c ∈ l, c < 256) (k : Nat) : (upv l k : Int) = 2 * upv l (k + 1) + dg l k := by
  have h1 : beN l / 2 ^ k = 2 * (beN l / 2 ^ (k + 1)) + bitB l k := by
    rw [bit_eq hs, Nat.pow_succ, ← Nat.div_div_eq_div_mul]; omega
  have h2 := bitB_le l k
  have h3 := ov_le l k
  have h4 := bitB_le l (k + 1)
  unfold upv dg
  rw [h1]
  by_cases hA : bitB l k + ov l k = 1
  · by_cases hB : bitB l (k + 1) = 1
    · rw [if_pos hA, if_pos hB, ov, if_pos ⟨hA, hB⟩]; omega
    · rw [if_pos hA, if_neg hB, ov, if_neg (fun h => hB h.2)]; omega
  · rw [if_neg hA, ov, if_neg (fun h => hA h.1)]; omega
theorem upv_top {l : List Nat} (hs : ∀ c ∈ l, c < 256) : upv l (8 * l.length + 1) = 0 := by
  have h1 := beN_lt hs
  have h2 : 256 ^ l.length = 2 ^ (8 * l.length) := by rw [show 256 = 2 ^ 8 from rfl, ← Nat.pow_mul]
  have h3 : beN l / 2 ^ (8 * l.length + 1) = 0 := Nat.div_eq_of_lt (by rw [Nat.pow_succ]; omega)
  have h4 := ov_le l (8 * l.length)
  unfold upv
  rw [h3, ov, bitB_no (Nat.le_refl _), bitB_no (Nat.le_succ _), if_neg (by omega)]
  omega
theorem upv_zero (l : List Nat) : upv l 0 = beN l := by unfold upv; rw [ov]; simp

/-! ### What the walks compute -/
abbrev G1 := Gp four
theorem pneg_ok (P : G1) : pneg P.1 = (-P).1 := rfl
theorem padd_ok (P Q : G1) : padd P.1 Q.1 = (P + Q).1 := by
  have h := (gadd_ok (JOk.toj P.2) Q.2).1
  rw [gpt_toj] at h
  exact h
theorem stp_ok {j : Jac} {x : G1} (P : G1) (d : Int) (hj : JOk four j) (h : gpt j = x.1) (hd : d = 0 ∨ d = 1 ∨ d = -1) {v : Nat} (hx : x = nmul (2 * v) P) {u : Nat} (hu : (u : Int) = 2 * v + d) :
    JOk four (stp P.1 d j) ∧ gpt (stp P.1 d j) = (nmul u P).1 := by
  rcases hd with rfl | rfl | rfl
  · have e : u = 2 * v := by omega
    rw [e, ← hx]
    exact ⟨hj, h⟩
  · have e : u = 2 * v + 1 := by omega
    rw [e, nmul, ← hx]
    exact step_add P hj h
  · have e : 2 * v = u + 1 := by omega
    have h1 := step_add (-P) hj h
    have e2 : x + -P = nmul u P := by rw [hx, e, nmul, AG.aassoc, a_neg, a_zero]
    rw [e2] at h1
    exact h1
theorem dg_cases (l : List Nat) (i : Nat) : dg l i = 0 ∨ dg l i = 1 ∨ dg l i = -1 := by
  unfold dg; split
  · split <;> simp
  · simp
theorem jl_ok {l : List Nat} (hs : ∀ c ∈ l, c < 256) (P : G1) : ∀ m, m ≤ 8 * l.length + 1 → JOk four (jl l P.1 m) ∧ gpt (jl l P.1 m) = (nmul (upv l (8 * l.length + 1 - m)) P).1
  | 0, _ => by
    rw [Nat.sub_zero, upv_top hs]
    exact jzero_ok
  | m + 1, h => by
    obtain ⟨h1, h2⟩ := jl_ok hs P m (by omega)
    obtain ⟨h3, h4⟩ := step_dbl h1 h2
    have hk := upv_step hs (8 * l.length - m)
    rw [show 8 * l.length - m + 1 = 8 * l.length + 1 - m by omega] at hk
    have := stp_ok P (dg l (8 * l.length - m)) h3 h4 (dg_cases _ _) (v := upv l (8 * l.length + 1 - m)) (by rw [Nat.mul_comm 2, nmul_mul, nmul_two]) hk
    rw [show 8 * l.length + 1 - (m + 1) = 8 * l.length - m by omega]
    exact this
theorem times_ok {l : List Nat} (hs : ∀ c ∈ l, c < 256) (P : G1) : times l P.1 = (nmul (beN l) P).1 := by
  have h := (jl_ok hs P (8 * l.length + 1) (Nat.le_refl _)).2
  rw [Nat.sub_self, upv_zero] at h
  exact h
theorem beN_cons (c : Nat) (l : List Nat) : beN (c :: l) = c * 256 ^ l.length + beN l := by
  show List.foldl (fun x c => x * 256 + c) (0 * 256 + c) l = _
  rw [beN_from, Nat.zero_mul, Nat.zero_add]
theorem beN_bytes (v : Nat) : ∀ n, beN ((List.range n).map fun i => v / 256 ^ (n - 1 - i) % 256) = v % 256 ^ n
  | 0 => by simp [beN, Nat.mod_one]
  | n + 1 => by
    rw [List.range_succ_eq_map, List.map_cons, List.map_map, beN_cons]
    have e : ((fun i => v / 256 ^ (n + 1 - 1 - i) % 256) ∘ Nat.succ) = fun i => v / 256 ^ (n - 1 - i) % 256 := by
      funext i
      simp only [Function.comp]
      rw [show n + 1 - 1 - i.succ = n - 1 - i by omega]
    rw [e, beN_bytes v n, List.length_map, List.length_range, show n + 1 - 1 - 0 = n by omega, Nat.pow_succ, Nat.mod_mul]
    rw [Nat.mul_comm, Nat.add_comm]
theorem blist_val (x : Fs) : beN (blist x) = x.val := by
  have h := beN_bytes x.val 32
  have h2 : x.val < 256 ^ 32 := Nat.lt_trans x.lt (by decide)
  rw [Nat.mod_eq_of_lt h2] at h
  exact h
theorem pmul_ok (P : G1) (x : Fs) : pmul P.1 x = (nmul x.val P).1 := by
  unfold pmul
  rw [times_ok (blist_small x), blist_val]
theorem psum_ok (l : List G1) : psum (l.map (·.1)) = (l.foldl (· + ·) 0).1 := (step_sums l jzero_ok.1 jzero_ok.2).2
theorem onB_ok {p : Pt} (h : On four p) : onB p = true := by
  unfold onB
  rcases h with h | h
  · rw [decide_eq_true h]; rfl
  · rw [decide_eq_true (show p.2 * p.2 = p.1 * p.1 * p.1 + four from h), Bool.or_true]
theorem on_of {p : Pt} (h : onB p = true) : On four p := by
  unfold onB at h
  rcases Bool.or_eq_true_iff.1 h with h | h
  · exact .inl (of_decide_eq_true h)
  · exact .inr (show p.2 * p.2 = p.1 * p.1 * p.1 + four from of_decide_eq_true h)

/-! ### The generator -/
theorem gen_on : onB gen = true := by decide +kernel
/-- The generator, as an element of the curve's group. -/
def gG : G1 := ⟨gen, on_of gen_on⟩
theorem gG_order : nmul rr gG = 0 := nmul_zero_of (f := 256) (by decide) (by decide +kernel)
theorem gp_ok (l : List Nat) : gp l = (nmul (wide l).val gG).1 := pmul_ok gG (wide l)
theorem gen_ne : gen ≠ (0, 0) := by decide +kernel
theorem gen_two : gen ≠ pneg gen := by decide +kernel
theorem headOk : HeadOk where
  h1 := gen_on
  h2 := onB_ok (by rw [show gen = gG.1 from rfl, padd_ok]; exact (gG + gG).2)
  h3 := by
    rw [show gen = gG.1 from rfl, padd_ok]
    refine Bool.not_eq_true' _ ▸ decide_eq_false fun h => gen_ne ?_
    have h1 : gG + gG = gG + 0 := by rw [a_zero]; exact Gp.ext h
    exact congrArg (fun x : G1 => x.1) (a_cancel h1)
  h4 := by
    rw [show gen = gG.1 from rfl, padd_ok]
    refine Bool.not_eq_true' _ ▸ decide_eq_false fun h => gen_two ?_
    have h1 : gG + gG = 0 := Gp.ext h
    exact congrArg (fun x : G1 => x.1) (a_neg_eq h1)
  h5 := decide_eq_true (by
    rw [show gen = gG.1 from rfl, times_ok two_small, padd_ok, show beN [2] = 2 from rfl, nmul_two])
  h6 := decide_eq_true (by
    rw [show gen = gG.1 from rfl, pneg_ok, padd_ok, a_neg]; rfl)
  h7 := by decide +kernel
theorem rulesOk (P Q R : G1) : RulesOk P.1 Q.1 R.1 where
  r1 := by rw [padd_ok, padd_ok, padd_ok, padd_ok, AG.aassoc]
  r2 := by
    rw [padd_ok, padd_ok]
    have := psum_ok [P, Q, R]
    simp only [List.map_cons, List.map_nil, List.foldl_cons, List.foldl_nil, AG.zero_a] at this
    exact this
  r3 := by have := padd_ok P 0; rw [a_zero] at this; exact this
  r4 := by have := padd_ok 0 P; rw [AG.zero_a] at this; exact this
  r5 := by rw [pneg_ok, padd_ok, a_neg]; rfl
  r6 := by rw [pneg_ok, pneg_ok, a_neg_neg]
  r7 := by rw [pneg_ok, pneg_ok, padd_ok, padd_ok, pneg_ok, a_neg_add]
  r8 := psum_ok []
  r9 := rfl
  r10 := by decide +kernel
theorem rulesOk_gp (a b c : List Nat) : RulesOk (gp a) (gp b) (gp c) := by
  rw [gp_ok, gp_ok, gp_ok]; exact rulesOk _ _ _
end Go.Cu

/- What the rows of the curves' laws give their walks: the listed variables, slices of bytes; and a world for their witnesses. -/
namespace Go.Cu
open Go Go.Vm Go.RowKit Go.Proofs Go.Proofs.YtbchpfmfiokbgaaDoor Go.ChangeShapes Go.WideShapes
set_option linter.unusedVariables false
set_option linter.unusedSimpArgs false
set_option linter.unusedSectionVars false
set_option linter.constructorNameAsVariable false

theorem laid_all {W : World} (h : laidMetH Tryd.prog Rows.g1RulesRow.laid W) : ∃ T, Blocks (GH T) W := by
  have h : laidMet Tryd.prog [(_, Lib.tabData .u64 [13402431016077863595, 2210141511517208575, 7435674573564081700, 7239337960414712511, 5412103778470702295, 1873798617647539866]), (_, Lib.tabData .u64 [17644856173732828998, 754043588434789617, 10224657059481499349, 7488229067341005760, 11130996698012816685, 1267921511277847466]), (_, Lib.tabData .u64 [18446744069414584321, 6034159408538082302, 3691218898639771653, 8353516859464449352]), (_, Lib.tabData .u64 [14526898881837571181, 3129137299524312099, 419701826671360399, 524908885293268753])] W := h
  obtain ⟨t2, h2⟩ := laid_block (g := 2) (t := 26) (e := 25) (n := 6) (by kernel_rfl) (by kernel_rfl) (by kernel_rfl) (by kernel_rfl) (by kernel_rfl) (by kernel_rfl) h
  obtain ⟨t1, h1⟩ := laid_block (g := 1) (t := 26) (e := 25) (n := 6) (by kernel_rfl) (by kernel_rfl) (by kernel_rfl) (by kernel_rfl) (by kernel_rfl) (by kernel_rfl) (laid_tail h)
  obtain ⟨t3, h3⟩ := laid_block (g := 3) (t := 33) (e := 25) (n := 4) (by kernel_rfl) (by kernel_rfl) (by kernel_rfl) (by kernel_rfl) (by kernel_rfl) (by kernel_rfl) (laid_tail (laid_tail h))
  obtain ⟨t0, h0⟩ := laid_block (g := 0) (t := 33) (e := 25) (n := 4) (by kernel_rfl) (by kernel_rfl) (by kernel_rfl) (by kernel_rfl) (by kernel_rfl) (by kernel_rfl) (laid_tail (laid_tail (laid_tail h)))
  refine ⟨fun i => match i with | 0 => t0 | 1 => t1 | 2 => t2 | _ => t3, fun p hp => ?_⟩
  simp only [GH, List.mem_cons, List.not_mem_nil, or_false] at hp
  rcases hp with rfl | rfl | rfl | rfl
  · exact h0
  · exact h1
  · exact h2
  · exact h3
theorem cells5 : Tryd.prog.cellsOf 5 = 1 := by kernel_rfl
set_option maxRecDepth 100000 in
/-- A slice of bytes among the arguments. -/
theorem open_Bs {H : Type} {enc : TypeId × Value → H} {W : World} {base : Nat} {v : Value} {d : DataW H} {ps : List MemPlace} (hval : Value.okWide Tryd.prog W .any base 22 v) (h : DataW.Trod enc Tryd.prog W 0 (fun _ => true) true 22 v d ps) :
    ∃ G' l, Bs G' v l ∧ Blocks G' W := by
  rcases open_u8s (P := Tryd.prog) (t := 22) (e := 5) Tryd.underlying22 Tryd.underlying5 cells5 hval h with rfl | ⟨b, o, len, cap, cs, T, fr, zs, rfl, hb, rfl, hlc, hcm, hz, hcell⟩
  · exact ⟨[], [], ⟨⟨none, 0, rfl⟩, fun c hc => (by cases hc), fun hc => (by cases hc)⟩, fun p hp => (by cases hp)⟩
  · refine ⟨[(b, .cells cs.toArray T fr)], zs, ⟨⟨_, _, rfl⟩, hz, fun _ => ⟨b, o, cap, cs, T, fr, rfl, List.mem_singleton.2 rfl, hlc, fun i h => ?_⟩⟩, fun p hp => ?_⟩
    · rw [hcell i zs[i] (List.getElem?_eq_getElem h)]; rfl
    · rw [List.mem_singleton.1 hp]; exact hb
theorem fit_u8 {a : Int} (h : (Lit.int .u8 a).wf = true) : ∃ n : Nat, a = (n : Int) ∧ n < 256 := by
  unfold Lit.wf at h
  simp only [Bool.and_eq_true, decide_eq_true_eq] at h
  have h : 0 ≤ a ∧ a ≤ 255 := h
  exact ⟨a.toNat, by omega, by omega⟩
theorem fit_u16 {a : Int} (h : (Lit.int .u16 a).wf = true) : ∃ n : Nat, a = (n : Int) ∧ n < 65536 := by
  unfold Lit.wf at h
  simp only [Bool.and_eq_true, decide_eq_true_eq] at h
  have h : 0 ≤ a ∧ a ≤ 65535 := h
  exact ⟨a.toNat, by omega, by omega⟩
/-- A world for the witnesses. -/
noncomputable def laidWorld (os : Os) : World :=
  { World.holding Tryd.prog os ⟨#[], #[], []⟩ with heap := (((((World.holding Tryd.prog os ⟨#[], #[], []⟩).heap.modify 0 fun
      | .cells _ t frozen => .cells glo0.toArray t frozen
      | o => o).modify 1 fun
      | .cells _ t frozen => .cells glo1.toArray t frozen
      | o => o).modify 2 fun
      | .cells _ t frozen => .cells glo2.toArray t frozen
      | o => o).modify 3 fun
      | .cells _ t frozen => .cells glo3.toArray t frozen
      | o => o) }
/-- What the rows' readings ask of the program's types. -/
theorem laidOut : laidOutB Tryd.prog = true := by kernel_rfl
theorem own : ownKnob Tryd.prog.godebug = none := by kernel_rfl
end Go.Cu

/- What the rows of the curves' laws give their walks: slices of slices of bytes. -/
namespace Go.Cu
open Go Go.Vm Go.RowKit Go.Proofs Go.Proofs.YtbchpfmfiokbgaaDoor Go.ChangeShapes Go.WideShapes
set_option linter.unusedVariables false
set_option linter.unusedSimpArgs false
set_option linter.unusedSectionVars false
set_option linter.constructorNameAsVariable false

theorem cell_heap {W : World} {a : Addr} {v : Value} (h : W.cell? a = some v) : a.spot = none ∧ ∃ cs T fr, W.heap[a.block]? = some (.cells cs T fr) ∧ cs[a.off]? = some v := by
  have h1 := World.cell?_spot h
  refine ⟨h1, ?_⟩
  unfold World.cell? at h
  split at h
  · rename_i c T fr hh
    rw [h1] at h
    exact ⟨c, T, fr, hh, by simpa using h⟩
  · cases h
theorem cells22 : Tryd.prog.cellsOf 22 = 1 := by kernel_rfl
/-- One row. -/
theorem row_Bs {W : World} {A : Option Addr} {L C : Nat} {Z : List Int} (hLC : L ≤ C) (hZ : Z.length = C) (hw : ∀ n ∈ Z, (Lit.int .u8 n).wf = true) (hn : A = none → C = 0)
    (hc : ∀ a', A = some a' → ∀ c, c < C → W.cell? (a'.add c) = some (.int .u8 (Z.getD c 0))) : ∃ G' : Hp, Bs G' (.slice A L C) ((Z.take L).map Int.toNat) ∧ Blocks G' W := by
  have hlen : ((Z.take L).map Int.toNat).length = L := by rw [List.length_map, List.length_take]; omega
  have wf : ∀ y ∈ Z, 0 ≤ y ∧ y ≤ 255 := fun y hy => by
    have := hw y hy
    unfold Lit.wf at this
    simp only [Bool.and_eq_true, decide_eq_true_eq] at this
    exact this
  have hsmall : ∀ c ∈ (Z.take L).map Int.toNat, c < 256 := by
    intro z hz
    obtain ⟨y, hy, rfl⟩ := List.mem_map.1 hz
    have := wf y (List.mem_of_mem_take hy)
    omega
  rcases Nat.eq_zero_or_pos L with h0 | h0
  · refine ⟨[], ⟨⟨A, C, by rw [hlen]⟩, hsmall, fun h => ?_⟩, fun p hp => by cases hp⟩
    rw [hlen] at h; omega
  · cases A with
    | none => have := hn rfl; omega
    | some a =>
      have hcell := hc a rfl
      obtain ⟨b, o, sp⟩ := a
      have h1 := hcell 0 (by omega)
      obtain ⟨hs, cs, T, fr, hh, _⟩ := cell_heap h1
      have hs : sp = none := by simpa [Addr.add] using hs
      subst hs
      rw [add_off] at hh
      refine ⟨[(b, .cells cs T fr)], ⟨⟨_, C, by rw [hlen]⟩, hsmall, fun _ => ⟨b, o, C, cs.toList, T, fr, by rw [hlen], by simp, by rw [hlen]; exact hLC, fun i hi => ?_⟩⟩, fun p hp => ?_⟩
      · have hi2 : i < L := by rw [hlen] at hi; exact hi
        have h2 := hcell i (by omega)
        rw [add_off] at h2
        unfold World.cell? at h2
        rw [show W.heap[b]? = some (.cells cs T fr) from hh] at h2
        have h2 : cs[o + i]? = some (.int .u8 (Z.getD i 0)) := by simpa using h2
        rw [Array.getElem?_toList, h2]
        have hg : Z.getD i 0 = Z[i]'(by omega) := by rw [List.getD_eq_getElem?_getD, List.getElem?_eq_getElem (by omega)]; rfl
        have h10 := wf _ (List.getElem_mem (show i < Z.length by omega))
        rw [hg, List.getElem_map, List.getElem_take]
        show some (Value.int .u8 _) = some (Value.int .u8 _)
        congr 2; omega
      · rw [List.mem_singleton.1 hp]; exact hh
theorem Bs_mono {G' G'' : Hp} {v : Value} {l : List Nat} (h : Bs G' v l) (hs : ∀ p ∈ G', p ∈ G'') : Bs G'' v l := h.mono hs
set_option maxRecDepth 100000 in
/-- A slice of slices of bytes among the arguments. -/
theorem open_Bss {H : Type} {enc : TypeId × Value → H} {W : World} {base : Nat} {v : Value} {d : DataW H} {ps : List MemPlace} (hval : Value.okWide Tryd.prog W .any base 44 v) (h : DataW.Trod enc Tryd.prog W 0 (fun _ => true) true 44 v d ps) :
    ∃ G' ls, Bss G' v ls ∧ Blocks G' W := by
  have ht := Tryd.underlying44
  have hcell : Cell.ok Tryd.prog W .any base 44 v := by
    unfold Value.okWide at hval
    rw [ht] at hval
    have hval : Cell.okWide Tryd.prog W .any base 44 v := hval
    unfold Cell.okWide at hval
    rw [ht] at hval
    cases v <;> exact hval
  obtain ⟨fuel, h⟩ := h
  have hag : v.cells.toList = [v] := by
    cases v <;> first | rfl | (unfold Cell.ok at hcell; rw [ht] at hcell; exact hcell.elim)
  rw [hag] at h
  rcases Go.Deep.open_int_rows ht Tryd.underlying22 Tryd.underlying5 cells22 cells5 h with ⟨h1, _⟩ | ⟨a, len, cap, A, L, C, Z, h1, _, hlc, _, _, hall⟩
  · obtain rfl : v = .slice none 0 0 := by simpa using h1
    exact ⟨[], [], ⟨⟨none, 0, rfl⟩, fun i hi => absurd hi (Nat.not_lt_zero _)⟩, fun p hp => by cases hp⟩
  · obtain rfl : v = .slice (some a) len cap := by simpa using h1
    rcases Nat.eq_zero_or_pos len with h0 | h0
    · subst h0
      exact ⟨[], [], ⟨⟨some a, cap, rfl⟩, fun i hi => absurd hi (Nat.not_lt_zero _)⟩, fun p hp => by cases hp⟩
    · obtain ⟨b, o, sp⟩ := a
      obtain ⟨hs, cs, T, fr, hh, _⟩ := cell_heap (hall 0 (by omega)).1
      have hs : sp = none := by simpa [Addr.add] using hs
      subst hs
      rw [add_off] at hh
      have each : ∀ r, r < len → ∃ G' : Hp, Bs G' (.slice (A r) (L r) (C r)) (((Z r).take (L r)).map Int.toNat) ∧ Blocks G' W := fun r hr => by
        obtain ⟨_, e1, _, e3, e4, e5, e6⟩ := hall r (by omega)
        exact row_Bs e1 e3 e4 e5 fun a' ha => (e6 a' ha).2
      obtain ⟨g, hg⟩ := Go.Deep.choose_lt each
      refine ⟨(b, .cells cs T fr) :: (List.range len).flatMap g, (List.range len).map fun r => ((Z r).take (L r)).map Int.toNat, ⟨⟨_, cap, by rw [List.length_map, List.length_range]⟩, fun i hi => ?_⟩, fun p hp => ?_⟩
      · have hi2 : i < len := by simpa using hi
        refine ⟨b, o, cap, cs.toList, T, fr, .slice (A i) (L i) (C i), by rw [List.length_map, List.length_range], by simp, ?_, ?_⟩
        · have h2 := (hall i (by omega)).1
          rw [add_off] at h2
          unfold World.cell? at h2
          rw [show W.heap[b]? = some (.cells cs T fr) from hh] at h2
          rw [Array.getElem?_toList]
          simpa using h2
        · rw [List.getElem_map, List.getElem_range]
          exact (hg i hi2).1.mono fun p hp => List.mem_cons_of_mem _ (List.mem_flatMap.2 ⟨i, List.mem_range.2 hi2, hp⟩)
      · rcases List.mem_cons.1 hp with rfl | hp
        · exact hh
        · obtain ⟨r, hr, hp⟩ := List.mem_flatMap.1 hp
          exact (hg r (List.mem_range.1 hr)).2 p hp
end Go.Cu

/- The first group's laws: G1Lists: the walk. Conditions: the rules that the points obey. -/
namespace Go.Cu
open Go Go.Vm Go.RowKit Go.Proofs 
attribute [local irreducible] W OpsW Det Fresh New Writes Vm.Pure Makes Changes ExternTo BuildTo ZeroTo FieldTo IndexTo BinTo SliceTo Vm.Enters
set_option linter.unusedVariables false
set_option linter.unusedSimpArgs false
variable {T : Nat → TypeId × Nat × Nat}

abbrev cellsS (x : Fs) : List Value := w4 (lim (montr x))
abbrev cellsL (L : List Pt) : List Value := (L.map cellsP).flatten
theorem tc22 : TyC Tryd.prog 22 := ⟨by kernel_rfl, by kernel_rfl⟩
theorem cellsP_length (p : Pt) : (cellsP p).length = 12 := rfl
theorem cellsP_all (p : Pt) : (cellsP p).all (·.oneCell') = true := rfl
def lpt (fl : Nat → Bool) (ls : List (List Nat)) (i : Nat) : Pt := if fl i = true then pneg (gp (ls.getD i [])) else gp (ls.getD i [])
def lsc (fl : Nat → Bool) (ls : List (List Nat)) (i : Nat) : Fs := if fl i = true then 0 - wide (ls.getD i []) else wide (ls.getD i [])
def lpts (f : Nat → Pt) (n : Nat) : List Pt := (List.range n).map f
theorem lpts_succ (f : Nat → Pt) (n : Nat) : lpts f (n + 1) = lpts f n ++ [f n] := by unfold lpts; rw [List.range_succ, List.map_append]; rfl
theorem lpts_len (f : Nat → Pt) (n : Nat) : (lpts f n).length = n := by unfold lpts; rw [List.length_map, List.length_range]
def nsum (f : Nat → Pt) : Nat → Pt
  | 0 => (0, 0)
  | i + 1 => padd (nsum f i) (f i)
def xsum (g : Nat → Fs) : Nat → Fs
  | 0 => 0
  | i + 1 => xsum g i + g i
def bsum (f : Nat → Pt) (n : Nat) : Nat → Pt
  | 0 => (0, 0)
  | k + 1 => padd (bsum f n k) (f (n - 1 - k))
structure ListsOk (f : Nat → Pt) (g : Nat → Fs) (n : Nat) : Prop where
  l1 : psum (lpts f n) = nsum f n
  l2 : bsum f n n = nsum f n
  l3 : nsum f n = pmul gen (xsum g n)
  l4 : psum (lpts f n ++ [pneg (nsum f n)]) = (0, 0)
def flipB (how : Int) (i : Nat) : Bool := bitsOf .and .i64 (how.fdiv (2 ^ (min ((i % 8 : Nat) : Int).toNat IntKind.i64.bits))) 1 == 1
theorem and7 {a : Nat} (ha : a < 256) : bitsOf .and .i64 a 7 = ((a % 8 : Nat) : Int) := by
  have h1 : (BitVec.ofInt IntKind.i64.bits (a : Int)).toNat = a := by
    show (BitVec.ofInt 64 (a : Int)).toNat = a
    rw [BitVec.toNat_ofInt]; omega
  unfold bitsOf
  simp only [BitVec.toNat_and, h1]
  rw [show (BitVec.ofInt IntKind.i64.bits (7 : Int)).toNat = 2 ^ 3 - 1 by rfl, Nat.and_two_pow_sub_one_eq_mod, wrap_i64 (by omega)]
theorem getD_at {ls : List (List Nat)} {i : Nat} (h : i < ls.length) : ls.getD i [] = ls[i] := by rw [List.getD_eq_getElem?_getD, List.getElem?_eq_getElem h]; rfl
theorem lpt_yes {fl : Nat → Bool} {ls : List (List Nat)} {i : Nat} (h : i < ls.length) (hf : fl i = true) : lpt fl ls i = pneg (pmul gen (wide ls[i])) := by unfold lpt; rw [if_pos hf, getD_at h]; rfl
theorem lpt_no {fl : Nat → Bool} {ls : List (List Nat)} {i : Nat} (h : i < ls.length) (hf : fl i = false) : lpt fl ls i = pmul gen (wide ls[i]) := by unfold lpt; rw [if_neg (by rw [hf]; decide), getD_at h]; rfl
theorem lsc_yes {fl : Nat → Bool} {ls : List (List Nat)} {i : Nat} (h : i < ls.length) (hf : fl i = true) : lsc fl ls i = 0 - wide ls[i] := by unfold lsc; rw [if_pos hf, getD_at h]
theorem lsc_no {fl : Nat → Bool} {ls : List (List Nat)} {i : Nat} (h : i < ls.length) (hf : fl i = false) : lsc fl ls i = wide ls[i] := by unfold lsc; rw [if_neg (by rw [hf]; decide), getD_at h]
theorem sliceOne {p : Pt} : SliceTo Tryd.prog 45 1 [(0, encP p)] (cellsP p) 30 := SliceTo.of fun _ => by kernel_rfl
theorem sliceNil : SliceTo Tryd.prog 45 0 [] [] 30 := SliceTo.of fun _ => by kernel_rfl
theorem ptsL {L : List Pt} {sp : List Value} {b n cap : Nat} (hn : L.length = n) : Pts [(b, blk (cellsL L ++ sp) 30)] (.slice (some ⟨b, 0, none⟩) n cap) L := by
  subst hn
  exact ⟨⟨_, _, rfl⟩, fun i h => ⟨b, 0, cap, _, 30, (0, 0), rfl, List.mem_singleton.2 rfl, by rw [Nat.zero_add]; exact flat_cut cellsP_length sp h⟩⟩
theorem cellsL_snoc (L : List Pt) (q : Pt) : cellsL (L ++ [q]) = cellsL L ++ cellsP q := flat_snoc cellsP L q
theorem ptsL1 {q : Pt} {sp : List Value} {b cap : Nat} : Pts [(b, blk (cellsP q ++ sp) 30)] (.slice (some ⟨b, 0, none⟩) 1 cap) [q] := by
  have := ptsL (L := [q]) (sp := sp) (b := b) (cap := cap) (n := 1) rfl
  rwa [show cellsL [q] = cellsP q from List.append_nil _] at this
theorem back_at {f : Nat → Pt} {n k : Nat} {sp : List Value} (h : k < n) : cut (0 + ((n : Int) - 1 - (k : Nat)).toNat * 12) 12 (cellsL (lpts f n) ++ sp) = some (cellsP (f (n - 1 - k))) := by
  rw [show ((n : Int) - 1 - (k : Nat)).toNat = n - 1 - k by omega, Nat.zero_add, flat_cut cellsP_length sp (i := n - 1 - k) (by rw [lpts_len]; omega)]
  unfold lpts
  rw [List.getElem_map, List.getElem_range]
theorem max_le {n : Nat} (h : n ≤ 100) : n ≤ maxLen := Nat.le_trans h (by decide)
theorem room_le {n b : Nat} (h : n ≤ 100) (hb : b ≤ 100000) : n * b ≤ 140737488355328 := Nat.le_trans (Nat.mul_le_mul h hb) (by decide)

theorem sl45 : TyS Tryd.prog 45 30 12 96 [.int .u64 0, .int .u64 0, .int .u64 0, .int .u64 0, .int .u64 0, .int .u64 0, .int .u64 0, .int .u64 0, .int .u64 0, .int .u64 0, .int .u64 0, .int .u64 0] := ⟨by kernel_rfl, by kernel_rfl, by kernel_rfl, ⟨(.agg #[.int .u64 0, .int .u64 0, .int .u64 0, .int .u64 0, .int .u64 0, .int .u64 0, .int .u64 0, .int .u64 0, .int .u64 0, .int .u64 0, .int .u64 0, .int .u64 0]), by kernel_rfl, by kernel_rfl⟩, rfl, by decide⟩
theorem sz22 : sizeIn Tryd.prog 22 = some 1 := by kernel_rfl
theorem u44 : Tryd.prog.underlying 44 = some (.slice 22) := by kernel_rfl
theorem u46 : Tryd.prog.underlying 46 = some (.int .u64) := by kernel_rfl
set_option maxHeartbeats 8000000 in
theorem G1Lists_ok {G' : Hp} {v : Value} {ls : List (List Nat)} {how : Int} (hB : Bss G' v ls) (hh : HeadOk) (hr : ListsOk (lpt (flipB how) ls) (lsc (flipB how) ls) ls.length) {w : World} (hG : Blocks (G' ++ GH T) w)  : Vm.Pure Tryd.prog 5 #[v, .int .i64 how] w (.bool true) := by
  obtain ⟨ad, capk, hvv⟩ := hB.shape
  refine pure_of_W (n := 103) (args := [v, .int .i64 how]) Tryd.func5 rfl Tryd.ntmps5 (Nat.le_of_ble_eq_true rfl) hG ?_
  refine sStart ?_
  refine sSeq ?_
  subst hvv
  refine W.region ?_
  refine OpsW.det (det_assign rfl) rfl ?_
  refine sNext ?_
  refine W.keep (F' := [(0, _), (1, _)]) ⟨rfl, rfl, trivial⟩ ?_
  refine sSeq ?_
  refine sSeq ?_
  refine W.region ?_
  refine OpsW.det (det_call en15 rfl (fun w hb ho => head_ok hh (fun p hp => ho.look (List.mem_append_right _ hp)))) rfl ?_
  refine OpsW.det (det_not rfl) rfl ?_
  refine sNext ?_
  refine W.keep (F' := [(16, _), (0, _), (1, _)]) ⟨rfl, rfl, rfl, trivial⟩ ?_
  refine W.cond_false rfl ?_
  refine sSkip ?_
  refine sSeq ?_
  refine sSeq ?_
  refine W.region ?_
  refine OpsW.det (det_move rfl) rfl ?_
  refine OpsW.det (det_len u44 rfl) rfl ?_
  refine OpsW.det (det_gtr rfl rfl) rfl ?_
  refine sNext ?_
  refine W.keep (F' := [(19, _), (0, _), (1, _)]) ⟨rfl, rfl, rfl, trivial⟩ ?_
  refine W.cond rfl (fun hc19 => ?_) (fun hc19 => ?_)
  · skip
    refine sSeq ?_
    refine W.region ?_
    refine OpsW.det (det_assign rfl) rfl ?_
    refine sNext ?_
    refine W.keep (F' := [(4, _)]) ⟨rfl, trivial⟩ ?_
    refine sRet ?_
    exact done1 Tryd.results5 (rv_tmp rfl) rfl
  · skip
    have h6 : ls.length ≤ 6 := by have h := hc19; simp only [decide_eq_false_iff_not] at h; omega
    refine sSkip ?_
    refine sSeq ?_
    refine W.region ?_
    refine OpsW.fresh (fr_buildSlice rfl sliceNil) rfl fun b20 => ?_
    refine OpsW.det (det_assign rfl) rfl ?_
    refine sNext ?_
    refine W.keep (F' := [(5, _), (0, _), (1, _)]) ⟨rfl, rfl, rfl, trivial⟩ ?_
    refine sSeq ?_
    refine W.region ?_
    refine OpsW.det (det_zero bz30) rfl ?_
    refine OpsW.fresh (fr_alloc z30r) rfl fun b6 => ?_
    refine OpsW.store sz30 rfl rfl rfl rfl rfl (Upd.here) rfl ?_
    refine sNext ?_
    refine W.keep (F' := [(6, _), (5, _), (0, _), (1, _)]) ⟨rfl, rfl, rfl, rfl, trivial⟩ ?_
    refine sSeq ?_
    refine W.region ?_
    refine OpsW.det (det_zero bz35) rfl ?_
    refine OpsW.fresh (fr_alloc z35r) rfl fun b7 => ?_
    refine OpsW.store sz35 rfl rfl rfl rfl rfl (Upd.here) rfl ?_
    refine sNext ?_
    refine W.keep (F' := [(7, _), (6, _), (5, _), (0, _), (1, _)]) ⟨rfl, rfl, rfl, rfl, rfl, trivial⟩ ?_
    refine sSeq ?_
    refine sSeq ?_
    refine W.region ?_
    refine OpsW.det (det_move rfl) rfl ?_
    refine OpsW.det (det_len u44 rfl) rfl ?_
    refine OpsW.det (det_move rfl) rfl ?_
    refine sNext ?_
    refine W.keep (F' := [(25, _), (24, _), (23, _), (7, _), (6, _), (5, _), (1, _)]) ⟨rfl, rfl, rfl, rfl, rfl, rfl, rfl, trivial⟩ ?_
    refine sBlock ?_
    refine W.perm (H' := [(b20, _), (b7, _), (b6, _)]) ((List.Perm.swap _ _ _).trans ((List.Perm.swap _ _ _).cons _)) ?_
    refine sLoop (σ := Nat × Nat × Nat × List Value) (fun s => [(25, .int .i64 (s.1 : Nat)), (24, .int .i64 (ls.length : Nat)), (23, .slice ad ls.length capk), (7, .pointer (some ⟨b7, 0, none⟩)), (6, .pointer (some ⟨b6, 0, none⟩)), (5, .slice (some ⟨s.2.1, 0, none⟩) s.1 s.2.2.1), (1, .int .i64 how)]) (fun s => [(s.2.1, blk (cellsL (lpts (lpt (flipB how) ls) s.1) ++ s.2.2.2) 30), (b7, blk (cellsS (xsum (lsc (flipB how) ls) s.1)) 35), (b6, blk (cellsP (nsum (lpt (flipB how) ls) s.1)) 30)]) (fun s => s.1 ≤ ls.length ∧ (cellsL (lpts (lpt (flipB how) ls) s.1) ++ s.2.2.2).length = s.2.2.1 * 12 ∧ s.2.2.1 ≤ maxLen) (fun s => ls.length - s.1) (0, b20, 0, []) ⟨Nat.zero_le _, rfl, Nat.zero_le _⟩ ⟨rfl, rfl, rfl, rfl, rfl, rfl, rfl, trivial⟩ (List.Sublist.cons_cons _ (List.Sublist.refl _)) ?_
    rintro ⟨i, bs, cap, sp⟩ ⟨hi, h2, h3⟩
    change i ≤ ls.length at hi
    change (cellsL (lpts (lpt (flipB how) ls) i) ++ sp).length = cap * 12 at h2
    change cap ≤ maxLen at h3
    refine W.norm (F' := [(25, .int .i64 (i : Nat)), (24, .int .i64 (ls.length : Nat)), (23, .slice ad ls.length capk), (7, .pointer (some ⟨b7, 0, none⟩)), (6, .pointer (some ⟨b6, 0, none⟩)), (5, .slice (some ⟨bs, 0, none⟩) i cap), (1, .int .i64 how)]) (H' := [(bs, blk (cellsL (lpts (lpt (flipB how) ls) i) ++ sp) 30), (b7, blk (cellsS (xsum (lsc (flipB how) ls) i)) 35), (b6, blk (cellsP (nsum (lpt (flipB how) ls) i)) 30)]) rfl rfl ?_
    refine sSeq ?_
    refine W.region ?_
    refine OpsW.det (det_lss rfl rfl) rfl ?_
    refine sNext ?_
    refine sSeq ?_
    refine W.cond rfl (fun hc26 => ?_) (fun hc26 => ?_)
    · skip
      have hlt : i < ls.length := by have h := hc26; simp only [decide_eq_true_eq] at h; omega
      obtain ⟨bk, o, cap', cs, e, fr, u, hv, hm, hcell, hBu⟩ := hB.at_ i hlt
      simp only [Value.slice.injEq] at hv
      obtain ⟨rfl, _, rfl⟩ := hv
      obtain ⟨adu, capu, rfl⟩ := hBu.shape
      refine sSkip ?_
      refine sSeq ?_
      refine sBlock ?_
      refine sSeq ?_
      refine W.region ?_
      refine OpsW.det (det_move rfl) rfl ?_
      refine OpsW.det (det_indexAddr_sl u44 sz22 rfl rfl ⟨by omega, by omega⟩) rfl ?_
      refine OpsW.det (det_loadC_ro tc22 rfl (List.mem_append_left _ hm) (show cs[o + ((i : Nat) : Int).toNat * 1]? = some (.slice adu ls[i].length capu) by rw [Int.toNat_natCast, Nat.mul_one]; exact hcell)) rfl ?_
      refine OpsW.det (det_assign rfl) rfl ?_
      refine OpsW.det (det_assign rfl) rfl ?_
      refine sNext ?_
      refine W.keep (F' := [(9, _), (8, _), (25, _), (24, _), (23, _), (7, _), (6, _), (5, _), (1, _)]) ⟨rfl, rfl, rfl, rfl, rfl, rfl, rfl, rfl, rfl, trivial⟩ ?_
      refine sSeq ?_
      refine sSeq ?_
      refine W.region ?_
      refine OpsW.det (det_move rfl) rfl ?_
      refine OpsW.det (det_len u22 rfl) rfl ?_
      refine OpsW.det (det_gtr rfl rfl) rfl ?_
      refine sNext ?_
      refine W.keep (F' := [(32, _), (9, _), (8, _), (25, _), (24, _), (23, _), (7, _), (6, _), (5, _), (1, _)]) ⟨rfl, rfl, rfl, rfl, rfl, rfl, rfl, rfl, rfl, rfl, trivial⟩ ?_
      refine W.cond rfl (fun hc32 => ?_) (fun hc32 => ?_)
      · skip
        refine sSeq ?_
        refine W.region ?_
        refine OpsW.det (det_assign rfl) rfl ?_
        refine sNext ?_
        refine W.keep (F' := [(4, _)]) ⟨rfl, trivial⟩ ?_
        refine sRet ?_
        refine retBlk ?_
        refine retLoop ?_
        refine retBlk ?_
        exact done1 Tryd.results5 (rv_tmp rfl) rfl
      · skip
        have hl : ls[i].length ≤ 100 := by have h := hc32; simp only [decide_eq_false_iff_not] at h; omega
        refine sSkip ?_
        refine sSeq ?_
        refine W.region ?_
        refine OpsW.det (det_move rfl) rfl ?_
        refine OpsW.det (det_call en19 rfl (fun w hb ho => scalar_ok (G' := G') hBu (Nat.le_trans hl (by decide)) ho.blocks)) rfl ?_
        refine OpsW.fresh (fr_alloc z35r) rfl fun b10 => ?_
        refine OpsW.store sz35 rfl rfl rfl rfl rfl (Upd.here) rfl ?_
        refine sNext ?_
        refine W.keep (F' := [(10, _), (8, _), (25, _), (24, _), (23, _), (7, _), (6, _), (5, _), (1, _)]) ⟨rfl, rfl, rfl, rfl, rfl, rfl, rfl, rfl, rfl, trivial⟩ ?_
        refine sSeq ?_
        refine W.draw mixed 4 [[], [], [0, 1], [], [0, 1, 2, 3]] (cl_lt (by decide)) ?_
        refine HeadR.start (cl_lt (by decide)) ?_
        refine HeadR.det rfl (fun β hβ => (det_call en17 rfl (fun w hb ho => Gen_ok (fun p hp => ho.look (List.mem_append_right _ hp))))) ?_
        refine HeadR.det rfl (fun β hβ => (det_loadA ty35 rfl (List.Mem.head _) rfl)) ?_
        refine HeadR.det rfl (fun β hβ => (det_call en18 rfl (fun w hb ho => PMul_ok (fun p hp => ho.look (List.mem_append_right _ hp))))) ?_
        refine HeadR.fresh rfl (fun β hβ => (fr_alloc z30r).new) ?_
        refine HeadR.done ⟨by kernel_rfl, fun β hβ => ?_⟩
        refine OpsW.norm (F' := [(35, _), (36, _), (37, _), (11, .pointer (some ⟨(β 11).1, 0, none⟩)), (10, _), (8, _), (25, _), (24, _), (23, _), (7, _), (6, _), (5, _), (1, _)]) (H' := [(_, _), (_, _), (_, _), (_, _), (_, _)]) rfl rfl ?_
        generalize (β 11).1 = b11
        refine OpsW.store sz30 rfl rfl rfl rfl rfl (Upd.here) rfl ?_
        refine sNext ?_
        refine W.keep (F' := [(11, _), (10, _), (8, _), (25, _), (24, _), (23, _), (7, _), (6, _), (5, _), (1, _)]) ⟨rfl, rfl, rfl, rfl, rfl, rfl, rfl, rfl, rfl, rfl, trivial⟩ ?_
        refine sSeq ?_
        refine sSeq ?_
        refine W.region ?_
        refine OpsW.det (det_move rfl) rfl ?_
        refine OpsW.det (det_move rfl) rfl ?_
        refine OpsW.det ((det_and (a := (i : Int)) (b := 7) rfl rfl).to (v := .int .i64 ((i % 8 : Nat) : Int)) (by rw [and7 (by omega)])) rfl ?_
        refine OpsW.det ((det_conv u3 u46 rfl).to (v := u64 (i % 8)) (by rw [wrap_u64 (by omega)]; rfl)) rfl ?_
        refine OpsW.det (det_shr (b := ((i % 8 : Nat) : Int)) rfl rfl (by omega)) rfl ?_
        refine OpsW.det (det_and rfl rfl) rfl ?_
        refine OpsW.det ((det_eql (b := 1) rfl rfl).to (v := .bool (flipB how i)) rfl) rfl ?_
        refine sNext ?_
        refine W.keep (F' := [(44, _), (11, _), (10, _), (25, _), (24, _), (23, _), (7, _), (6, _), (5, _), (1, _)]) ⟨rfl, rfl, rfl, rfl, rfl, rfl, rfl, rfl, rfl, rfl, trivial⟩ ?_
        refine W.cond rfl (fun hc44 => ?_) (fun hc44 => ?_)
        · skip
          refine sSeq ?_
          refine W.region ?_
          refine OpsW.det (det_loadA ty30 rfl (List.Mem.head _) rfl) rfl ?_
          refine OpsW.det (det_call en22 rfl (fun w hb ho => PNeg_ok (fun p hp => ho.look (List.mem_append_right _ hp)))) rfl ?_
          refine OpsW.store sz30 rfl rfl rfl rfl rfl (Upd.here) rfl ?_
          refine sNext ?_
          refine W.keep (F' := [(11, _), (10, _), (25, _), (24, _), (23, _), (7, _), (6, _), (5, _), (1, _)]) ⟨rfl, rfl, rfl, rfl, rfl, rfl, rfl, rfl, rfl, trivial⟩ ?_
          refine W.region ?_
          refine OpsW.det (det_loadA ty35 rfl (List.Mem.tail _ (List.Mem.head _)) rfl) rfl ?_
          refine OpsW.det (det_call en27 rfl (fun w hb ho => Cu.RNeg_ok (fun p hp => ho.look (List.mem_append_right _ hp)))) rfl ?_
          refine OpsW.store sz35 rfl rfl rfl rfl rfl (Upd.there (Upd.here)) rfl ?_
          refine sNext ?_
          refine W.keep (F' := [(11, _), (10, _), (25, _), (24, _), (23, _), (7, _), (6, _), (5, _), (1, _)]) ⟨rfl, rfl, rfl, rfl, rfl, rfl, rfl, rfl, rfl, trivial⟩ ?_
          refine sSeq ?_
          refine W.region ?_
          refine OpsW.det (det_move rfl) rfl ?_
          refine OpsW.det (det_loadA ty30 rfl (List.Mem.head _) rfl) rfl ?_
          refine OpsW.fresh (fr_buildSlice rfl (sliceOne (p := (pneg (pmul gen (wide ls[i])))))) rfl fun b51 => ?_
          refine OpsW.front3 ?_
          refine OpsW.append (hp := [(bs, blk (cellsL (lpts (lpt (flipB how) ls) i) ++ sp) 30)]) (xs := cellsL (lpts (lpt (flipB how) ls) i)) (len := i) (news := cellsP (pneg (pmul gen (wide ls[i])))) sl45 rfl (.at_ (by rw [flat_len cellsP_length, lpts_len]) h2 h3) rfl (.inl (List.Mem.tail _ (List.Mem.head _))) rfl (fun j u hj => by rw [Nat.zero_add]; exact hj) (cellsP_all _) (max_le (by omega)) (room_le (by omega) (by decide)) rfl ?_
          intro v' hp' hsl
          obtain ⟨bn, capn, spn, rfl, rfl, h2n, h3n⟩ := isSl_pos hsl (Nat.succ_pos _)
          refine OpsW.norm (F' := [(52, .slice (some ⟨bn, 0, none⟩) (i + 1) capn), (51, _), (50, _), (49, _), (11, _), (10, _), (25, _), (24, _), (23, _), (7, _), (6, _), (5, _), (1, _)]) (H' := [(_, _), (_, _), (_, _), (_, _), (_, _), (_, _)]) rfl rfl ?_
          refine OpsW.det (det_assign rfl) rfl ?_
          refine sNext ?_
          refine W.keep (F' := [(5, _), (11, _), (10, _), (25, _), (24, _), (23, _), (7, _), (6, _), (1, _)]) ⟨rfl, rfl, rfl, rfl, rfl, rfl, rfl, rfl, rfl, trivial⟩ ?_
          refine sSeq ?_
          refine W.region ?_
          refine OpsW.det (det_loadA ty30 rfl (List.Mem.tail _ (List.Mem.tail _ (List.Mem.tail _ (List.Mem.tail _ (List.Mem.tail _ (List.Mem.head _)))))) rfl) rfl ?_
          refine OpsW.det (det_loadA ty30 rfl (List.Mem.tail _ (List.Mem.tail _ (List.Mem.head _))) rfl) rfl ?_
          refine OpsW.det (det_call en20 rfl (fun w hb ho => PAdd_ok (fun p hp => ho.look (List.mem_append_right _ hp)))) rfl ?_
          refine OpsW.store sz30 rfl rfl rfl rfl rfl (Upd.there (Upd.there (Upd.there (Upd.there (Upd.there (Upd.here)))))) rfl ?_
          refine sNext ?_
          refine W.keep (F' := [(5, _), (10, _), (25, _), (24, _), (23, _), (7, _), (6, _), (1, _)]) ⟨rfl, rfl, rfl, rfl, rfl, rfl, rfl, rfl, trivial⟩ ?_
          refine W.region ?_
          refine OpsW.det (det_loadA ty35 rfl (List.Mem.tail _ (List.Mem.tail _ (List.Mem.tail _ (List.Mem.tail _ (List.Mem.head _))))) rfl) rfl ?_
          refine OpsW.det (det_loadA ty35 rfl (List.Mem.tail _ (List.Mem.tail _ (List.Mem.tail _ (List.Mem.head _)))) rfl) rfl ?_
          refine OpsW.det (det_call en28 rfl (fun w hb ho => Cu.RAdd_ok (fun p hp => ho.look (List.mem_append_right _ hp)))) rfl ?_
          refine OpsW.store sz35 rfl rfl rfl rfl rfl (Upd.there (Upd.there (Upd.there (Upd.there (Upd.here))))) rfl ?_
          refine sLast ?_
          refine bNext ?_
          refine W.keep (F' := [(5, _), (25, _), (24, _), (23, _), (7, _), (6, _), (1, _)]) ⟨rfl, rfl, rfl, rfl, rfl, rfl, rfl, trivial⟩ ?_
          refine W.region ?_
          refine OpsW.det (det_addN (b := 1) rfl rfl (by omega)) rfl ?_
          refine OpsW.det (det_move rfl) rfl ?_
          refine sLast ?_
          have e1 : cellsL (lpts (lpt (flipB how) ls) (i + 1)) = cellsL (lpts (lpt (flipB how) ls) i) ++ cellsP (pneg (pmul gen (wide ls[i]))) := by rw [lpts_succ, cellsL_snoc, lpt_yes hlt hc44]
          have e2 : xsum (lsc (flipB how) ls) (i + 1) = xsum (lsc (flipB how) ls) i + (0 - wide ls[i]) := by rw [xsum, lsc_yes hlt hc44]
          have e3 : nsum (lpt (flipB how) ls) (i + 1) = padd (nsum (lpt (flipB how) ls) i) (pneg (pmul gen (wide ls[i]))) := by rw [nsum, lpt_yes hlt hc44]
          refine rEnd (i + 1, bn, capn, spn) ⟨hlt, ?_, h3n⟩ ⟨rfl, rfl, rfl, rfl, rfl, rfl, rfl, trivial⟩ ?_ (step_lt hlt)
          · show (cellsL (lpts (lpt (flipB how) ls) (i + 1)) ++ spn).length = capn * 12
            rw [e1]; exact h2n
          · show List.Sublist [(bn, blk (cellsL (lpts (lpt (flipB how) ls) (i + 1)) ++ spn) 30), (b7, blk (cellsS (xsum (lsc (flipB how) ls) (i + 1))) 35), (b6, blk (cellsP (nsum (lpt (flipB how) ls) (i + 1))) 30)] _
            rw [e1, e2, e3]
            exact List.Sublist.cons_cons _ (List.Sublist.cons _ (List.Sublist.cons _ (List.Sublist.cons _ (List.Sublist.refl _))))
        · skip
          refine sSkip ?_
          refine sSeq ?_
          refine W.region ?_
          refine OpsW.det (det_move rfl) rfl ?_
          refine OpsW.det (det_loadA ty30 rfl (List.Mem.head _) rfl) rfl ?_
          refine OpsW.fresh (fr_buildSlice rfl (sliceOne (p := (pmul gen (wide ls[i]))))) rfl fun b51 => ?_
          refine OpsW.front3 ?_
          refine OpsW.append (hp := [(bs, blk (cellsL (lpts (lpt (flipB how) ls) i) ++ sp) 30)]) (xs := cellsL (lpts (lpt (flipB how) ls) i)) (len := i) (news := cellsP (pmul gen (wide ls[i]))) sl45 rfl (.at_ (by rw [flat_len cellsP_length, lpts_len]) h2 h3) rfl (.inl (List.Mem.tail _ (List.Mem.head _))) rfl (fun j u hj => by rw [Nat.zero_add]; exact hj) (cellsP_all _) (max_le (by omega)) (room_le (by omega) (by decide)) rfl ?_
          intro v' hp' hsl
          obtain ⟨bn, capn, spn, rfl, rfl, h2n, h3n⟩ := isSl_pos hsl (Nat.succ_pos _)
          refine OpsW.norm (F' := [(52, .slice (some ⟨bn, 0, none⟩) (i + 1) capn), (51, _), (50, _), (49, _), (44, _), (11, _), (10, _), (25, _), (24, _), (23, _), (7, _), (6, _), (5, _), (1, _)]) (H' := [(_, _), (_, _), (_, _), (_, _), (_, _), (_, _)]) rfl rfl ?_
          refine OpsW.det (det_assign rfl) rfl ?_
          refine sNext ?_
          refine W.keep (F' := [(5, _), (11, _), (10, _), (25, _), (24, _), (23, _), (7, _), (6, _), (1, _)]) ⟨rfl, rfl, rfl, rfl, rfl, rfl, rfl, rfl, rfl, trivial⟩ ?_
          refine sSeq ?_
          refine W.region ?_
          refine OpsW.det (det_loadA ty30 rfl (List.Mem.tail _ (List.Mem.tail _ (List.Mem.tail _ (List.Mem.tail _ (List.Mem.tail _ (List.Mem.head _)))))) rfl) rfl ?_
          refine OpsW.det (det_loadA ty30 rfl (List.Mem.tail _ (List.Mem.tail _ (List.Mem.head _))) rfl) rfl ?_
          refine OpsW.det (det_call en20 rfl (fun w hb ho => PAdd_ok (fun p hp => ho.look (List.mem_append_right _ hp)))) rfl ?_
          refine OpsW.store sz30 rfl rfl rfl rfl rfl (Upd.there (Upd.there (Upd.there (Upd.there (Upd.there (Upd.here)))))) rfl ?_
          refine sNext ?_
          refine W.keep (F' := [(5, _), (10, _), (25, _), (24, _), (23, _), (7, _), (6, _), (1, _)]) ⟨rfl, rfl, rfl, rfl, rfl, rfl, rfl, rfl, trivial⟩ ?_
          refine W.region ?_
          refine OpsW.det (det_loadA ty35 rfl (List.Mem.tail _ (List.Mem.tail _ (List.Mem.tail _ (List.Mem.tail _ (List.Mem.head _))))) rfl) rfl ?_
          refine OpsW.det (det_loadA ty35 rfl (List.Mem.tail _ (List.Mem.tail _ (List.Mem.tail _ (List.Mem.head _)))) rfl) rfl ?_
          refine OpsW.det (det_call en28 rfl (fun w hb ho => Cu.RAdd_ok (fun p hp => ho.look (List.mem_append_right _ hp)))) rfl ?_
          refine OpsW.store sz35 rfl rfl rfl rfl rfl (Upd.there (Upd.there (Upd.there (Upd.there (Upd.here))))) rfl ?_
          refine sLast ?_
          refine bNext ?_
          refine W.keep (F' := [(5, _), (25, _), (24, _), (23, _), (7, _), (6, _), (1, _)]) ⟨rfl, rfl, rfl, rfl, rfl, rfl, rfl, trivial⟩ ?_
          refine W.region ?_
          refine OpsW.det (det_addN (b := 1) rfl rfl (by omega)) rfl ?_
          refine OpsW.det (det_move rfl) rfl ?_
          refine sLast ?_
          have e1 : cellsL (lpts (lpt (flipB how) ls) (i + 1)) = cellsL (lpts (lpt (flipB how) ls) i) ++ cellsP (pmul gen (wide ls[i])) := by rw [lpts_succ, cellsL_snoc, lpt_no hlt hc44]
          have e2 : xsum (lsc (flipB how) ls) (i + 1) = xsum (lsc (flipB how) ls) i + (wide ls[i]) := by rw [xsum, lsc_no hlt hc44]
          have e3 : nsum (lpt (flipB how) ls) (i + 1) = padd (nsum (lpt (flipB how) ls) i) (pmul gen (wide ls[i])) := by rw [nsum, lpt_no hlt hc44]
          refine rEnd (i + 1, bn, capn, spn) ⟨hlt, ?_, h3n⟩ ⟨rfl, rfl, rfl, rfl, rfl, rfl, rfl, trivial⟩ ?_ (step_lt hlt)
          · show (cellsL (lpts (lpt (flipB how) ls) (i + 1)) ++ spn).length = capn * 12
            rw [e1]; exact h2n
          · show List.Sublist [(bn, blk (cellsL (lpts (lpt (flipB how) ls) (i + 1)) ++ spn) 30), (b7, blk (cellsS (xsum (lsc (flipB how) ls) (i + 1))) 35), (b6, blk (cellsP (nsum (lpt (flipB how) ls) (i + 1))) 30)] _
            rw [e1, e2, e3]
            exact List.Sublist.cons_cons _ (List.Sublist.cons _ (List.Sublist.cons _ (List.Sublist.cons _ (List.Sublist.refl _))))
    · skip
      have hi4 : i = ls.length := by have h := hc26; simp only [decide_eq_false_iff_not] at h; omega
      subst hi4
      refine sExit ?_
      refine xLoop ?_
      refine xHere ?_
      refine W.keep (F' := [(7, _), (6, _), (5, _)]) ⟨rfl, rfl, rfl, trivial⟩ ?_
      refine sSeq ?_
      refine W.region ?_
      refine OpsW.det (det_zero bz30) rfl ?_
      refine OpsW.fresh (fr_alloc z30r) rfl fun b12 => ?_
      refine OpsW.store sz30 rfl rfl rfl rfl rfl (Upd.here) rfl ?_
      refine sNext ?_
      refine W.keep (F' := [(12, _), (7, _), (6, _), (5, _)]) ⟨rfl, rfl, rfl, rfl, trivial⟩ ?_
      refine sSeq ?_
      refine sSeq ?_
      refine W.region ?_
      refine OpsW.det (det_move rfl) rfl ?_
      refine OpsW.det (det_len u45 rfl) rfl ?_
      refine OpsW.det (det_subZ (a := (ls.length : Int)) (b := 1) (c := (ls.length : Int) - 1 - ((0 : Nat) : Int)) rfl rfl (by omega) (by omega)) rfl ?_
      refine OpsW.det (det_assign rfl) rfl ?_
      refine sNext ?_
      refine W.keep (F' := [(13, _), (12, _), (7, _), (6, _), (5, _)]) ⟨rfl, rfl, rfl, rfl, rfl, trivial⟩ ?_
      refine sBlock ?_
      refine sLoop (σ := Nat) (fun k => [(13, .int .i64 ((ls.length : Int) - 1 - ((k : Nat) : Int))), (12, .pointer (some ⟨b12, 0, none⟩)), (7, .pointer (some ⟨b7, 0, none⟩)), (6, .pointer (some ⟨b6, 0, none⟩)), (5, .slice (some ⟨bs, 0, none⟩) ls.length cap)]) (fun k => [(b12, blk (cellsP (bsum (lpt (flipB how) ls) ls.length k)) 30), (bs, blk (cellsL (lpts (lpt (flipB how) ls) ls.length) ++ sp) 30), (b7, blk (cellsS (xsum (lsc (flipB how) ls) ls.length)) 35), (b6, blk (cellsP (nsum (lpt (flipB how) ls) ls.length)) 30)]) (fun k => k ≤ ls.length) (fun k => ls.length - k) 0 (Nat.zero_le _) ⟨rfl, rfl, rfl, rfl, rfl, trivial⟩ (List.Sublist.refl _) ?_
      intro k hkl
      refine sSeq ?_
      refine sSeq ?_
      refine W.region ?_
      refine OpsW.det (det_move rfl) rfl ?_
      refine OpsW.det (det_geq (a := (ls.length : Int) - 1 - ((k : Nat) : Int)) (b := 0) rfl rfl) rfl ?_
      refine sNext ?_
      refine W.keep (F' := [(65, _), (13, _), (12, _), (7, _), (6, _), (5, _)]) ⟨rfl, rfl, rfl, rfl, rfl, rfl, trivial⟩ ?_
      refine W.cond rfl (fun hc65 => ?_) (fun hc65 => ?_)
      · skip
        have hk : k < ls.length := by have h := hc65; simp only [decide_eq_true_eq] at h; omega
        refine sSkip ?_
        refine sSeq ?_
        refine sBlock ?_
        refine W.draw mixed 6 [[], [], [], [1, 2], [1, 2, 3], [0, 1, 2, 3, 4], [0, 1, 2, 3, 4, 5]] (cl_lt (by decide)) ?_
        refine HeadR.start (cl_lt (by decide)) ?_
        refine HeadR.det rfl (fun β hβ => (det_loadA ty30 rfl (List.Mem.head _) rfl)) ?_
        refine HeadR.det rfl (fun β hβ => (det_move rfl)) ?_
        refine HeadR.det rfl (fun β hβ => (det_move rfl)) ?_
        refine HeadR.det rfl (fun β hβ => (det_indexAddr_sl u45 sz30 rfl rfl ⟨by omega, by omega⟩)) ?_
        refine HeadR.det rfl (fun β hβ => (det_loadA ty30 rfl (List.Mem.tail _ (List.Mem.head _)) (back_at (f := (lpt (flipB how) ls)) hk))) ?_
        refine HeadR.det rfl (fun β hβ => (det_call en20 rfl (fun w hb ho => PAdd_ok (fun p hp => ho.look (List.mem_append_right _ hp))))) ?_
        refine HeadR.done ⟨by kernel_rfl, fun β hβ => ?_⟩
        refine OpsW.norm (F' := [(68, _), (69, _), (70, _), (71, _), (72, _), (73, _), (65, _), (13, _), (12, _), (7, _), (6, _), (5, _)]) (H' := [(_, _), (_, _), (_, _), (_, _)]) rfl rfl ?_
        refine OpsW.store sz30 rfl rfl rfl rfl rfl (Upd.here) rfl ?_
        refine sLast ?_
        refine bNext ?_
        refine W.keep (F' := [(13, _), (12, _), (7, _), (6, _), (5, _)]) ⟨rfl, rfl, rfl, rfl, rfl, trivial⟩ ?_
        refine W.region ?_
        refine OpsW.det (det_move rfl) rfl ?_
        refine OpsW.det (det_subZ (a := (ls.length : Int) - 1 - ((k : Nat) : Int)) (b := 1) (c := (ls.length : Int) - 1 - ((k + 1 : Nat) : Int)) rfl rfl (by omega) (by omega)) rfl ?_
        refine OpsW.det (det_assign rfl) rfl ?_
        refine sLast ?_
        exact rEnd (k + 1) hk ⟨rfl, rfl, rfl, rfl, rfl, trivial⟩ (List.Sublist.refl _) (step_lt hk)
      · skip
        have hkn : k = ls.length := by have h := hc65; simp only [decide_eq_false_iff_not] at h; omega
        subst hkn
        refine sExit ?_
        refine xLoop ?_
        refine xHere ?_
        refine W.keep (F' := [(12, _), (7, _), (6, _), (5, _)]) ⟨rfl, rfl, rfl, rfl, trivial⟩ ?_
        refine sSeq ?_
        rcases Nat.eq_zero_or_pos ls.length with h0 | h0
        · skip
          have hr4 : psum (([] : List Pt) ++ [(pneg (nsum (lpt (flipB how) ls) ls.length))]) = (0, 0) := by have := hr.l4; rwa [show lpts (lpt (flipB how) ls) ls.length = [] by rw [h0]; rfl] at this
          refine W.draw mixed 6 [[], [], [0, 1], [], [0, 1, 2, 3], [0, 1, 2, 3, 4], [0, 1, 2, 3, 4, 5], [0, 1, 2, 3, 4, 5, 6]] (cl_lt (by decide)) ?_
          refine HeadR.start (cl_lt (by decide)) ?_
          refine HeadR.fresh rfl (fun β hβ => (fr_buildSlice rfl sliceNil).new) ?_
          refine HeadR.det rfl (fun β hβ => (det_move rfl)) ?_
          refine HeadR.fresh rfl (fun β hβ => (new_append0 sl45 rfl rfl h0)) ?_
          refine HeadR.det rfl (fun β hβ => (det_loadA ty30 rfl (List.Mem.tail _ (List.Mem.tail _ (List.Mem.tail _ (List.Mem.head _)))) rfl)) ?_
          refine HeadR.det rfl (fun β hβ => (det_call en22 rfl (fun w hb ho => PNeg_ok (fun p hp => ho.look (List.mem_append_right _ hp))))) ?_
          refine HeadR.fresh rfl (fun β hβ => (fr_buildSlice rfl (sliceOne (p := (pneg (nsum (lpt (flipB how) ls) ls.length))))).new) ?_
          refine HeadR.done ⟨by kernel_rfl, fun β hβ => ?_⟩
          refine OpsW.norm (F' := [(74, .slice (some ⟨(β 74).1, 0, none⟩) 0 0), (75, _), (76, .slice (some ⟨(β 76).1, 0, none⟩) 0 0), (77, _), (78, _), (79, .slice (some ⟨(β 79).1, 0, none⟩) 1 1), (12, _), (7, _), (6, _), (5, _)]) (H' := [(_, _), (_, _), (_, _), (_, _), (_, _), (_, _)]) rfl rfl ?_
          generalize (β 74).1 = b74
          generalize (β 76).1 = b76
          generalize (β 79).1 = b79
          refine OpsW.new (new_append sl45 (news := cellsP (pneg (nsum (lpt (flipB how) ls) ls.length))) rfl rfl (.inl (List.Mem.tail _ (List.Mem.head _))) rfl (fun j u hj => by rw [Nat.zero_add]; exact hj) Nat.zero_lt_one (max_le (by decide)) (room_le (by decide) (by decide))) rfl fun p80 hp80 => ?_
          refine OpsW.norm (F' := [(80, .slice (some ⟨p80.1, 0, none⟩) 1 p80.2.1), (74, _), (75, _), (76, _), (77, _), (78, _), (79, _), (12, _), (7, _), (6, _), (5, _)]) (H' := [(p80.1, blk (cellsP (pneg (nsum (lpt (flipB how) ls) ls.length)) ++ p80.2.2) 30), (_, _), (_, _), (_, _), (_, _), (_, _), (_, _)]) rfl rfl ?_
          refine OpsW.det (det_assign rfl) rfl ?_
          refine sNext ?_
          refine W.keep (F' := [(14, _), (12, _), (7, _), (6, _), (5, _)]) ⟨rfl, rfl, rfl, rfl, rfl, trivial⟩ ?_
          refine sSeq ?_
          refine W.draw mixed 23 [[], [0], [], [0, 1, 2], [0, 1, 2, 3], [0, 1, 2, 3, 4], [0, 1, 2, 3, 4], [0, 1, 2, 3, 4, 5, 6], [0, 1, 2, 3, 4, 5, 6, 7], [0, 1, 2, 3, 4, 5, 6, 7, 8], [0, 1, 2, 3, 4, 5, 6, 7, 8, 9], [0, 1, 2, 3, 4, 5, 6, 7, 8, 9], [0, 1, 2, 3, 4, 5, 6, 7, 8, 9], [0, 1, 2, 3, 4, 5, 6, 7, 8, 9, 11, 12], [0, 1, 2, 3, 4, 5, 6, 7, 8, 9, 10, 11, 12, 13], [0, 1, 2, 3, 4, 5, 6, 7, 8, 9, 10, 11, 12, 13, 14], [0, 1, 2, 3, 4, 5, 6, 7, 8, 9, 10, 11, 12, 13, 14, 15], [0, 1, 2, 3, 4, 5, 6, 7, 8, 9, 10, 11, 12, 13, 14, 15, 16], [0, 1, 2, 3, 4, 5, 6, 7, 8, 9, 10, 11, 12, 13, 14, 15, 16, 17], [0, 1, 2, 3, 4, 5, 6, 7, 8, 9, 10, 11, 12, 13, 14, 15, 16], [0, 1, 2, 3, 4, 5, 6, 7, 8, 9, 10, 11, 12, 13, 14, 15, 16, 17, 18, 19], [0, 1, 2, 3, 4, 5, 6, 7, 8, 9, 10, 11, 12, 13, 14, 15, 16, 17, 18, 19, 20], [0, 1, 2, 3, 4, 5, 6, 7, 8, 9, 10, 11, 12, 13, 14, 15, 16, 17, 18, 19, 20, 21]] (cl_lt (by decide)) ?_
          refine HeadR.start (cl_lt (by decide)) ?_
          refine HeadR.det rfl (fun β hβ => (det_move rfl)) ?_
          refine HeadR.det rfl (fun β hβ => (det_call en21 rfl (fun w hb ho => PSum_ok (G' := [(bs, blk (cellsL (lpts (lpt (flipB how) ls) ls.length) ++ sp) 30)]) (l := lpts (lpt (flipB how) ls) ls.length) (ptsL (lpts_len _ _)) (Nat.le_trans (show _ ≤ 100 by rw [lpts_len]; omega) (by decide)) (blocks_cons (hb _ (by repeat (first | exact List.Mem.head _ | apply List.Mem.tail))) (fun p hp => ho.look (List.mem_append_right _ hp)))))) ?_
          refine HeadR.det rfl (fun β hβ => (det_loadA ty30 rfl (List.Mem.tail _ (List.Mem.tail _ (List.Mem.tail _ (List.Mem.tail _ (List.Mem.tail _ (List.Mem.tail _ (List.Mem.head _))))))) rfl)) ?_
          refine HeadR.det rfl (fun β hβ => (Det.to (det_eql30 rfl rfl) (congrArg Value.bool (yb hr.l1)))) ?_
          refine HeadR.det rfl (fun β hβ => (det_move rfl)) ?_
          refine HeadR.yes rfl rfl (fun _ _ => rfl) (fun β hβ => (det_loadA ty30 rfl (List.Mem.tail _ (List.Mem.tail _ (List.Mem.tail _ (List.Mem.head _)))) rfl)) ?_
          refine HeadR.yes rfl rfl (fun _ _ => rfl) (fun β hβ => (det_loadA ty30 rfl (List.Mem.tail _ (List.Mem.tail _ (List.Mem.tail _ (List.Mem.tail _ (List.Mem.tail _ (List.Mem.tail _ (List.Mem.head _))))))) rfl)) ?_
          refine HeadR.yes rfl rfl (fun _ _ => rfl) (fun β hβ => (Det.to (det_eql30 rfl rfl) (congrArg Value.bool (yb hr.l2)))) ?_
          refine HeadR.det rfl (fun β hβ => (det_pick rfl rfl)) ?_
          refine HeadR.det rfl (fun β hβ => (det_move rfl)) ?_
          refine HeadR.yes rfl rfl (fun _ _ => rfl) (fun β hβ => (det_loadA ty30 rfl (List.Mem.tail _ (List.Mem.tail _ (List.Mem.tail _ (List.Mem.tail _ (List.Mem.tail _ (List.Mem.tail _ (List.Mem.head _))))))) rfl)) ?_
          refine HeadR.yes rfl rfl (fun _ _ => rfl) (fun β hβ => (det_call en17 rfl (fun w hb ho => Gen_ok (fun p hp => ho.look (List.mem_append_right _ hp))))) ?_
          refine HeadR.yes rfl rfl (fun _ _ => rfl) (fun β hβ => (det_loadA ty35 rfl (List.Mem.tail _ (List.Mem.tail _ (List.Mem.tail _ (List.Mem.tail _ (List.Mem.tail _ (List.Mem.head _)))))) rfl)) ?_
          refine HeadR.yes rfl rfl (fun _ _ => rfl) (fun β hβ => (det_call en18 rfl (fun w hb ho => PMul_ok (fun p hp => ho.look (List.mem_append_right _ hp))))) ?_
          refine HeadR.yes rfl rfl (fun _ _ => rfl) (fun β hβ => (Det.to (det_eql30 rfl rfl) (congrArg Value.bool (yb hr.l3)))) ?_
          refine HeadR.det rfl (fun β hβ => (det_pick rfl rfl)) ?_
          refine HeadR.det rfl (fun β hβ => (det_move rfl)) ?_
          refine HeadR.yes rfl rfl (fun _ _ => rfl) (fun β hβ => (det_move rfl)) ?_
          refine HeadR.yes rfl rfl (fun _ _ => rfl) (fun β hβ => (det_call en21 rfl (fun w hb ho => PSum_ok (G' := [(p80.1, blk (cellsP (pneg (nsum (lpt (flipB how) ls) ls.length)) ++ p80.2.2) 30)]) (l := [(pneg (nsum (lpt (flipB how) ls) ls.length))]) ptsL1 (by show 1 ≤ 1000000000000; decide) (blocks_cons (hb _ (by repeat (first | exact List.Mem.head _ | apply List.Mem.tail))) (fun p hp => ho.look (List.mem_append_right _ hp)))))) ?_
          refine HeadR.yes rfl rfl (fun _ _ => rfl) (fun β hβ => (det_zero bz30)) ?_
          refine HeadR.yes rfl rfl (fun _ _ => rfl) (fun β hβ => (Det.to (det_eql30 rfl rfl) (congrArg Value.bool (yb hr4)))) ?_
          refine HeadR.det rfl (fun β hβ => (det_pick rfl rfl)) ?_
          refine HeadR.det rfl (fun β hβ => (det_assign rfl)) ?_
          refine HeadR.done ⟨by kernel_rfl, fun β hβ => ?_⟩
          refine OpsW.norm (F' := [(81, _), (82, _), (83, _), (84, _), (85, _), (86, _), (87, _), (88, _), (89, _), (90, _), (91, _), (92, _), (93, _), (94, _), (95, _), (96, _), (97, _), (98, _), (99, _), (100, _), (101, _), (102, _), (4, _), (14, _), (12, _), (7, _), (6, _), (5, _)]) (H' := [(_, _), (_, _), (_, _), (_, _), (_, _), (_, _), (_, _)]) rfl rfl ?_
          refine sNext ?_
          refine W.keep (F' := [(4, _)]) ⟨rfl, trivial⟩ ?_
          refine sRet ?_
          exact done1 Tryd.results5 (rv_tmp rfl) rfl
        · skip
          have hr4 := hr.l4
          refine W.draw mixed 6 [[], [], [0, 1], [], [0, 1, 2, 3], [0, 1, 2, 3, 4], [0, 1, 2, 3, 4, 5], [0, 1, 2, 3, 4, 5, 6]] (cl_lt (by decide)) ?_
          refine HeadR.start (cl_lt (by decide)) ?_
          refine HeadR.fresh rfl (fun β hβ => (fr_buildSlice rfl sliceNil).new) ?_
          refine HeadR.det rfl (fun β hβ => (det_move rfl)) ?_
          refine HeadR.fresh rfl (fun β hβ => (new_append sl45 (news := cellsL (lpts (lpt (flipB how) ls) ls.length)) rfl rfl (.inl (by exact (by repeat (first | exact List.Mem.head _ | apply List.Mem.tail)))) (by rw [flat_len cellsP_length, lpts_len]) (fun j u hj => by rw [Nat.zero_add, List.getElem?_append_left (List.getElem?_eq_some_iff.1 hj).1]; exact hj) h0 (max_le (by omega)) (room_le (by omega) (by decide)))) ?_
          refine HeadR.det rfl (fun β hβ => (det_loadA ty30 rfl (List.Mem.tail _ (List.Mem.tail _ (List.Mem.tail _ (List.Mem.head _)))) rfl)) ?_
          refine HeadR.det rfl (fun β hβ => (det_call en22 rfl (fun w hb ho => PNeg_ok (fun p hp => ho.look (List.mem_append_right _ hp))))) ?_
          refine HeadR.fresh rfl (fun β hβ => (fr_buildSlice rfl (sliceOne (p := (pneg (nsum (lpt (flipB how) ls) ls.length))))).new) ?_
          refine HeadR.done ⟨by kernel_rfl, fun β hβ => ?_⟩
          refine OpsW.norm (F' := [(74, .slice (some ⟨(β 74).1, 0, none⟩) 0 0), (75, _), (76, .slice (some ⟨(β 76).1, 0, none⟩) ls.length (β 76).2.1), (77, _), (78, _), (79, .slice (some ⟨(β 79).1, 0, none⟩) 1 1), (12, _), (7, _), (6, _), (5, _)]) (H' := [(_, _), (_, _), (_, _), (_, _), (_, _), (_, _), (_, _)]) rfl rfl ?_
          generalize (β 74).1 = b74
          obtain ⟨h76, h76'⟩ := hβ.2
          generalize (β 76).1 = b76 at h76 ⊢
          generalize (β 76).2.2 = sp76 at h76 ⊢
          generalize (β 76).2.1 = cap76 at h76 ⊢
          generalize (β 79).1 = b79
          refine OpsW.front1 ?_
          refine OpsW.append (hp := [(b76, blk (cellsL (lpts (lpt (flipB how) ls) ls.length) ++ sp76) 30)]) (xs := cellsL (lpts (lpt (flipB how) ls) ls.length)) (len := ls.length) (news := cellsP (pneg (nsum (lpt (flipB how) ls) ls.length))) sl45 rfl (.at_ (by rw [flat_len cellsP_length, lpts_len]) h76.1 h76.2.2) rfl (.inl (List.Mem.tail _ (List.Mem.tail _ (List.Mem.head _)))) rfl (fun j u hj => by rw [Nat.zero_add]; exact hj) (cellsP_all _) (max_le (by omega)) (room_le (by omega) (by decide)) rfl ?_
          intro v' hp' hsl
          obtain ⟨bn, capn, spn, rfl, rfl, h2n, h3n⟩ := isSl_pos hsl (Nat.succ_pos _)
          rw [← cellsL_snoc] at h2n hsl ⊢
          refine OpsW.norm (F' := [(80, .slice (some ⟨bn, 0, none⟩) (ls.length + 1) capn), (74, _), (75, _), (76, _), (77, _), (78, _), (79, _), (12, _), (7, _), (6, _), (5, _)]) (H' := [(bn, blk (cellsL ((lpts (lpt (flipB how) ls) ls.length) ++ [(pneg (nsum (lpt (flipB how) ls) ls.length))]) ++ spn) 30), (_, _), (_, _), (_, _), (_, _), (_, _), (_, _)]) rfl rfl ?_
          refine OpsW.det (det_assign rfl) rfl ?_
          refine sNext ?_
          refine W.keep (F' := [(14, _), (12, _), (7, _), (6, _), (5, _)]) ⟨rfl, rfl, rfl, rfl, rfl, trivial⟩ ?_
          refine sSeq ?_
          refine W.draw mixed 23 [[], [0], [], [0, 1, 2], [0, 1, 2, 3], [0, 1, 2, 3, 4], [0, 1, 2, 3, 4], [0, 1, 2, 3, 4, 5, 6], [0, 1, 2, 3, 4, 5, 6, 7], [0, 1, 2, 3, 4, 5, 6, 7, 8], [0, 1, 2, 3, 4, 5, 6, 7, 8, 9], [0, 1, 2, 3, 4, 5, 6, 7, 8, 9], [0, 1, 2, 3, 4, 5, 6, 7, 8, 9], [0, 1, 2, 3, 4, 5, 6, 7, 8, 9, 11, 12], [0, 1, 2, 3, 4, 5, 6, 7, 8, 9, 10, 11, 12, 13], [0, 1, 2, 3, 4, 5, 6, 7, 8, 9, 10, 11, 12, 13, 14], [0, 1, 2, 3, 4, 5, 6, 7, 8, 9, 10, 11, 12, 13, 14, 15], [0, 1, 2, 3, 4, 5, 6, 7, 8, 9, 10, 11, 12, 13, 14, 15, 16], [0, 1, 2, 3, 4, 5, 6, 7, 8, 9, 10, 11, 12, 13, 14, 15, 16, 17], [0, 1, 2, 3, 4, 5, 6, 7, 8, 9, 10, 11, 12, 13, 14, 15, 16], [0, 1, 2, 3, 4, 5, 6, 7, 8, 9, 10, 11, 12, 13, 14, 15, 16, 17, 18, 19], [0, 1, 2, 3, 4, 5, 6, 7, 8, 9, 10, 11, 12, 13, 14, 15, 16, 17, 18, 19, 20], [0, 1, 2, 3, 4, 5, 6, 7, 8, 9, 10, 11, 12, 13, 14, 15, 16, 17, 18, 19, 20, 21]] (cl_lt (by decide)) ?_
          refine HeadR.start (cl_lt (by decide)) ?_
          refine HeadR.det rfl (fun β hβ => (det_move rfl)) ?_
          refine HeadR.det rfl (fun β hβ => (det_call en21 rfl (fun w hb ho => PSum_ok (G' := [(bs, blk (cellsL (lpts (lpt (flipB how) ls) ls.length) ++ sp) 30)]) (l := lpts (lpt (flipB how) ls) ls.length) (ptsL (lpts_len _ _)) (Nat.le_trans (show _ ≤ 100 by rw [lpts_len]; omega) (by decide)) (blocks_cons (hb _ (by repeat (first | exact List.Mem.head _ | apply List.Mem.tail))) (fun p hp => ho.look (List.mem_append_right _ hp)))))) ?_
          refine HeadR.det rfl (fun β hβ => (det_loadA ty30 rfl (List.Mem.tail _ (List.Mem.tail _ (List.Mem.tail _ (List.Mem.tail _ (List.Mem.tail _ (List.Mem.tail _ (List.Mem.head _))))))) rfl)) ?_
          refine HeadR.det rfl (fun β hβ => (Det.to (det_eql30 rfl rfl) (congrArg Value.bool (yb hr.l1)))) ?_
          refine HeadR.det rfl (fun β hβ => (det_move rfl)) ?_
          refine HeadR.yes rfl rfl (fun _ _ => rfl) (fun β hβ => (det_loadA ty30 rfl (List.Mem.tail _ (List.Mem.tail _ (List.Mem.tail _ (List.Mem.head _)))) rfl)) ?_
          refine HeadR.yes rfl rfl (fun _ _ => rfl) (fun β hβ => (det_loadA ty30 rfl (List.Mem.tail _ (List.Mem.tail _ (List.Mem.tail _ (List.Mem.tail _ (List.Mem.tail _ (List.Mem.tail _ (List.Mem.head _))))))) rfl)) ?_
          refine HeadR.yes rfl rfl (fun _ _ => rfl) (fun β hβ => (Det.to (det_eql30 rfl rfl) (congrArg Value.bool (yb hr.l2)))) ?_
          refine HeadR.det rfl (fun β hβ => (det_pick rfl rfl)) ?_
          refine HeadR.det rfl (fun β hβ => (det_move rfl)) ?_
          refine HeadR.yes rfl rfl (fun _ _ => rfl) (fun β hβ => (det_loadA ty30 rfl (List.Mem.tail _ (List.Mem.tail _ (List.Mem.tail _ (List.Mem.tail _ (List.Mem.tail _ (List.Mem.tail _ (List.Mem.head _))))))) rfl)) ?_
          refine HeadR.yes rfl rfl (fun _ _ => rfl) (fun β hβ => (det_call en17 rfl (fun w hb ho => Gen_ok (fun p hp => ho.look (List.mem_append_right _ hp))))) ?_
          refine HeadR.yes rfl rfl (fun _ _ => rfl) (fun β hβ => (det_loadA ty35 rfl (List.Mem.tail _ (List.Mem.tail _ (List.Mem.tail _ (List.Mem.tail _ (List.Mem.tail _ (List.Mem.head _)))))) rfl)) ?_
          refine HeadR.yes rfl rfl (fun _ _ => rfl) (fun β hβ => (det_call en18 rfl (fun w hb ho => PMul_ok (fun p hp => ho.look (List.mem_append_right _ hp))))) ?_
          refine HeadR.yes rfl rfl (fun _ _ => rfl) (fun β hβ => (Det.to (det_eql30 rfl rfl) (congrArg Value.bool (yb hr.l3)))) ?_
          refine HeadR.det rfl (fun β hβ => (det_pick rfl rfl)) ?_
          refine HeadR.det rfl (fun β hβ => (det_move rfl)) ?_
          refine HeadR.yes rfl rfl (fun _ _ => rfl) (fun β hβ => (det_move rfl)) ?_
          refine HeadR.yes rfl rfl (fun _ _ => rfl) (fun β hβ => (det_call en21 rfl (fun w hb ho => PSum_ok (G' := [(bn, blk (cellsL ((lpts (lpt (flipB how) ls) ls.length) ++ [(pneg (nsum (lpt (flipB how) ls) ls.length))]) ++ spn) 30)]) (l := (lpts (lpt (flipB how) ls) ls.length) ++ [(pneg (nsum (lpt (flipB how) ls) ls.length))]) (ptsL (by rw [List.length_append, lpts_len]; rfl)) (Nat.le_trans (show _ ≤ 100 by rw [List.length_append, lpts_len]; show ls.length + 1 ≤ 100; omega) (by decide)) (blocks_cons (hb _ (by repeat (first | exact List.Mem.head _ | apply List.Mem.tail))) (fun p hp => ho.look (List.mem_append_right _ hp)))))) ?_
          refine HeadR.yes rfl rfl (fun _ _ => rfl) (fun β hβ => (det_zero bz30)) ?_
          refine HeadR.yes rfl rfl (fun _ _ => rfl) (fun β hβ => (Det.to (det_eql30 rfl rfl) (congrArg Value.bool (yb hr4)))) ?_
          refine HeadR.det rfl (fun β hβ => (det_pick rfl rfl)) ?_
          refine HeadR.det rfl (fun β hβ => (det_assign rfl)) ?_
          refine HeadR.done ⟨by kernel_rfl, fun β hβ => ?_⟩
          refine OpsW.norm (F' := [(81, _), (82, _), (83, _), (84, _), (85, _), (86, _), (87, _), (88, _), (89, _), (90, _), (91, _), (92, _), (93, _), (94, _), (95, _), (96, _), (97, _), (98, _), (99, _), (100, _), (101, _), (102, _), (4, _), (14, _), (12, _), (7, _), (6, _), (5, _)]) (H' := [(_, _), (_, _), (_, _), (_, _), (_, _), (_, _), (_, _)]) rfl rfl ?_
          refine sNext ?_
          refine W.keep (F' := [(4, _)]) ⟨rfl, trivial⟩ ?_
          refine sRet ?_
          exact done1 Tryd.results5 (rv_tmp rfl) rfl

end Go.Cu

/- Sums of lists in a commutative group, in any order. -/
namespace Go.Ec
set_option linter.unusedVariables false
set_option linter.unusedSectionVars false
section
variable {γ : Type} [AG γ]
open AG
def gsum (f : Nat → γ) : Nat → γ
  | 0 => 0
  | i + 1 => gsum f i + f i
def gback (f : Nat → γ) (n : Nat) : Nat → γ
  | 0 => 0
  | k + 1 => gback f n k + f (n - 1 - k)
theorem gback_at (f : Nat → γ) (n : Nat) : ∀ k, k ≤ n → gback f n k + gsum f (n - k) = gsum f n
  | 0, _ => by rw [gback, zero_a, Nat.sub_zero]
  | k + 1, h => by
    have ih := gback_at f n k (by omega)
    rw [show n - k = (n - (k + 1)) + 1 by omega, gsum] at ih
    rw [gback, aassoc, show n - 1 - k = n - (k + 1) by omega, acomm (f _), ih]
theorem gback_all (f : Nat → γ) (n : Nat) : gback f n n = gsum f n := by
  have := gback_at f n n (Nat.le_refl _)
  rwa [Nat.sub_self, gsum, a_zero] at this
theorem fold_sum (f : Nat → γ) : ∀ n, ((List.range n).map f).foldl (· + ·) 0 = gsum f n
  | 0 => rfl
  | n + 1 => by
    rw [List.range_succ, List.map_append, List.foldl_append, fold_sum f n]
    rfl
end
end Go.Ec

/- The first group: lists of points that are made of the generator: their sums, in any order. -/
namespace Go.Cu
open Go.Ec
open Go Go.Vm
set_option linter.unusedVariables false
set_option linter.unusedSimpArgs false
set_option linter.unusedSectionVars false
open CR
def fG (fl : Nat → Bool) (ls : List (List Nat)) (i : Nat) : G1 := nmul (lsc fl ls i).val gG
theorem lpt_ok (fl : Nat → Bool) (ls : List (List Nat)) (i : Nat) : lpt fl ls i = (fG fl ls i).1 := by
  unfold lpt fG lsc
  by_cases h : fl i = true
  · rw [if_pos h, if_pos h, gp_ok, pneg_ok]
    refine congrArg (fun z : G1 => z.1) (a_neg_eq ?_).symm
    rw [Zp.sub_val, Zp.zero_val, nmul_mod gG_order, Nat.zero_add, ← nmul_add]
    have hl := (wide (ls.getD i [])).lt
    generalize wide (ls.getD i []) = x at hl
    rw [show x.val + (rr - x.val) = rr by omega, gG_order]
  · rw [if_neg h, if_neg h, gp_ok]
theorem lpt_fun (fl : Nat → Bool) (ls : List (List Nat)) : lpt fl ls = fun i => (fG fl ls i).1 := funext (lpt_ok fl ls)
theorem nsum_ok (f : Nat → G1) : ∀ n, nsum (fun i => (f i).1) n = (gsum f n).1
  | 0 => rfl
  | n + 1 => by rw [nsum, nsum_ok f n, padd_ok, gsum]
theorem bsum_ok (f : Nat → G1) (n : Nat) : ∀ k, bsum (fun i => (f i).1) n k = (gback f n k).1
  | 0 => rfl
  | k + 1 => by rw [bsum, bsum_ok f n k, padd_ok, gback]
theorem lpts_ok (f : Nat → G1) (n : Nat) : lpts (fun i => (f i).1) n = ((List.range n).map f).map (·.1) := by
  unfold lpts; rw [List.map_map]; rfl
theorem xsum_ok (g : Nat → Fs) : ∀ n, gsum (fun i => nmul (g i).val gG) n = nmul (xsum g n).val gG
  | 0 => by rw [xsum, Zp.zero_val]; rfl
  | n + 1 => by rw [gsum, xsum_ok g n, xsum, Zp.add_val, nmul_mod gG_order, nmul_add]
theorem listsOk (fl : Nat → Bool) (ls : List (List Nat)) (n : Nat) : ListsOk (lpt fl ls) (lsc fl ls) n := by
  have hx : nmul (xsum (lsc fl ls) n).val gG = gsum (fG fl ls) n := (xsum_ok (lsc fl ls) n).symm
  rw [lpt_fun]
  refine ⟨?_, ?_, ?_, ?_⟩
  · rw [lpts_ok, psum_ok, fold_sum, nsum_ok]
  · rw [bsum_ok, gback_all, nsum_ok]
  · rw [nsum_ok, ← hx]; exact (pmul_ok gG _).symm
  · rw [nsum_ok, pneg_ok, lpts_ok]
    have := psum_ok ((List.range n).map (fG fl ls) ++ [-gsum (fG fl ls) n])
    rw [List.map_append, List.map_cons, List.map_nil, List.foldl_append, fold_sum] at this
    rw [this]
    show (gsum (fG fl ls) n + -gsum (fG fl ls) n).1 = (0, 0)
    rw [a_neg]; rfl
end Go.Cu
