/-
  Part 6 of the joined texts of the curves' laws: The first group: the generator, and which points are in the group: the walks. Conditions: none.
  Conditions: those that each theorem states.
-/
import Derived.Test.YtbchpfmfiokbgaaDoorR5
import Derived.Test.YtbchpfmfiokbgaaDoorR3
import Derived.Test.YtbchpfmfiokbgaaDoorR2
import Derived.Test.YtbchpfmfiokbgaaDoorCards
import Derived.Test.YtbchpfmfiokbgaaDoorTie
import Derived.WalkKit
import Derived.ProofKit
import Derived.OpenShut
/- The first group: the generator, and which points are in the group: the walks. Conditions: none. -/
namespace Go.Cu
open Go Go.Vm Go.RowKit Go.Proofs 
attribute [local irreducible] W OpsW Det Fresh New Writes Vm.Pure Makes Changes ExternTo BuildTo ZeroTo FieldTo IndexTo BinTo SliceTo Vm.Enters
set_option linter.unusedVariables false
set_option linter.unusedSimpArgs false
variable {T : Nat → TypeId × Nat × Nat}

def gX : List Nat := [23, 241, 211, 167, 49, 151, 215, 148, 38, 149, 99, 140, 79, 169, 172, 15, 195, 104, 140, 79, 151, 116, 185, 5, 161, 78, 58, 63, 23, 27, 172, 88, 108, 85, 232, 63, 249, 122, 26, 239, 251, 58, 240, 10, 219, 34, 198, 187]
def gY : List Nat := [8, 179, 244, 129, 227, 170, 160, 241, 160, 158, 48, 237, 116, 29, 138, 228, 252, 245, 224, 149, 213, 208, 10, 246, 0, 219, 24, 203, 44, 4, 179, 237, 208, 60, 199, 68, 162, 136, 138, 228, 12, 170, 35, 41, 70, 197, 231, 225]
def turnL : List Nat := [0, 0, 0, 0, 0, 0, 0, 0, 95, 25, 103, 47, 223, 118, 206, 81, 186, 105, 198, 7, 106, 15, 119, 234, 221, 179, 169, 59, 230, 248, 150, 136, 222, 23, 216, 19, 98, 10, 0, 2, 46, 1, 255, 255, 255, 254, 255, 254]
def sizeL : List Nat := [210, 1, 0, 0, 0, 1, 0, 0]
def gen : Pt := ((readF gX).1, (readF gY).1)
def turn : Fq := (readF turnL).1
def inB (p : Pt) : Bool := decide ((p.1 * turn, p.2) = pneg (times sizeL (times sizeL p)))
theorem gX_sl : SliceTo Tryd.prog 22 48 [(0, .int .u8 23), (1, .int .u8 241), (2, .int .u8 211), (3, .int .u8 167), (4, .int .u8 49), (5, .int .u8 151), (6, .int .u8 215), (7, .int .u8 148), (8, .int .u8 38), (9, .int .u8 149), (10, .int .u8 99), (11, .int .u8 140), (12, .int .u8 79), (13, .int .u8 169), (14, .int .u8 172), (15, .int .u8 15), (16, .int .u8 195), (17, .int .u8 104), (18, .int .u8 140), (19, .int .u8 79), (20, .int .u8 151), (21, .int .u8 116), (22, .int .u8 185), (23, .int .u8 5), (24, .int .u8 161), (25, .int .u8 78), (26, .int .u8 58), (27, .int .u8 63), (28, .int .u8 23), (29, .int .u8 27), (30, .int .u8 172), (31, .int .u8 88), (32, .int .u8 108), (33, .int .u8 85), (34, .int .u8 232), (35, .int .u8 63), (36, .int .u8 249), (37, .int .u8 122), (38, .int .u8 26), (39, .int .u8 239), (40, .int .u8 251), (41, .int .u8 58), (42, .int .u8 240), (43, .int .u8 10), (44, .int .u8 219), (45, .int .u8 34), (46, .int .u8 198), (47, .int .u8 187)] (bcells gX ++ []) 5 := SliceTo.of fun _ => by kernel_rfl
theorem gX_small : ∀ c ∈ gX, c < 256 := by decide
theorem gY_sl : SliceTo Tryd.prog 22 48 [(0, .int .u8 8), (1, .int .u8 179), (2, .int .u8 244), (3, .int .u8 129), (4, .int .u8 227), (5, .int .u8 170), (6, .int .u8 160), (7, .int .u8 241), (8, .int .u8 160), (9, .int .u8 158), (10, .int .u8 48), (11, .int .u8 237), (12, .int .u8 116), (13, .int .u8 29), (14, .int .u8 138), (15, .int .u8 228), (16, .int .u8 252), (17, .int .u8 245), (18, .int .u8 224), (19, .int .u8 149), (20, .int .u8 213), (21, .int .u8 208), (22, .int .u8 10), (23, .int .u8 246), (24, .int .u8 0), (25, .int .u8 219), (26, .int .u8 24), (27, .int .u8 203), (28, .int .u8 44), (29, .int .u8 4), (30, .int .u8 179), (31, .int .u8 237), (32, .int .u8 208), (33, .int .u8 60), (34, .int .u8 199), (35, .int .u8 68), (36, .int .u8 162), (37, .int .u8 136), (38, .int .u8 138), (39, .int .u8 228), (40, .int .u8 12), (41, .int .u8 170), (42, .int .u8 35), (43, .int .u8 41), (44, .int .u8 70), (45, .int .u8 197), (46, .int .u8 231), (47, .int .u8 225)] (bcells gY ++ []) 5 := SliceTo.of fun _ => by kernel_rfl
theorem gY_small : ∀ c ∈ gY, c < 256 := by decide
theorem turnL_sl : SliceTo Tryd.prog 22 48 [(0, .int .u8 0), (1, .int .u8 0), (2, .int .u8 0), (3, .int .u8 0), (4, .int .u8 0), (5, .int .u8 0), (6, .int .u8 0), (7, .int .u8 0), (8, .int .u8 95), (9, .int .u8 25), (10, .int .u8 103), (11, .int .u8 47), (12, .int .u8 223), (13, .int .u8 118), (14, .int .u8 206), (15, .int .u8 81), (16, .int .u8 186), (17, .int .u8 105), (18, .int .u8 198), (19, .int .u8 7), (20, .int .u8 106), (21, .int .u8 15), (22, .int .u8 119), (23, .int .u8 234), (24, .int .u8 221), (25, .int .u8 179), (26, .int .u8 169), (27, .int .u8 59), (28, .int .u8 230), (29, .int .u8 248), (30, .int .u8 150), (31, .int .u8 136), (32, .int .u8 222), (33, .int .u8 23), (34, .int .u8 216), (35, .int .u8 19), (36, .int .u8 98), (37, .int .u8 10), (38, .int .u8 0), (39, .int .u8 2), (40, .int .u8 46), (41, .int .u8 1), (42, .int .u8 255), (43, .int .u8 255), (44, .int .u8 255), (45, .int .u8 254), (46, .int .u8 255), (47, .int .u8 254)] (bcells turnL ++ []) 5 := SliceTo.of fun _ => by kernel_rfl
theorem turnL_small : ∀ c ∈ turnL, c < 256 := by decide
theorem sizeL_sl : SliceTo Tryd.prog 22 8 [(0, .int .u8 210), (1, .int .u8 1), (2, .int .u8 0), (3, .int .u8 0), (4, .int .u8 0), (5, .int .u8 1), (6, .int .u8 0), (7, .int .u8 0)] (bcells sizeL ++ []) 5 := SliceTo.of fun _ => by kernel_rfl
theorem sizeL_small : ∀ c ∈ sizeL, c < 256 := by decide

theorem en49 : Vm.Enters Tryd.prog 49 := Vm.Enters.of fun _ _ => by kernel_rfl
theorem Gen_ok  {w : World} (hG : Blocks (GH T) w)  : Vm.Pure Tryd.prog 17 #[] w (encP gen) := by
  refine pure_of_W (n := 18) (args := []) Tryd.func17 rfl Tryd.ntmps17 (Nat.le_of_ble_eq_true rfl) hG ?_
  refine sStart ?_
  refine sSeq ?_
  refine W.region ?_
  refine OpsW.fresh (fr_alloc z30) rfl fun b0 => ?_
  refine sNext ?_
  refine sSeq ?_
  refine W.region ?_
  refine OpsW.fresh (fr_buildSlice rfl gX_sl) rfl fun b6 => ?_
  refine OpsW.det (det_call en49 rfl (fun w hb ho => Read_ok (G' := [(b6, blk (bcells gX ++ []) 5)]) (Bs.of gX_small (Nat.le_refl _)) (blocks_cons (hb _ (List.Mem.head _)) ho.blocks))) rfl ?_
  refine OpsW.det (det_move rfl) rfl ?_
  refine OpsW.det (det_extract rfl rfl) rfl ?_
  refine OpsW.det (det_extract rfl rfl) rfl ?_
  refine OpsW.fresh (fr_alloc z28) rfl fun b1 => ?_
  refine OpsW.store sz28 rfl rfl rfl rfl rfl (Upd.here) rfl ?_
  refine OpsW.det (det_assign rfl) rfl ?_
  refine sNext ?_
  refine W.keep (F' := [(1, _), (0, _)]) ⟨rfl, rfl, trivial⟩ ?_
  refine sSeq ?_
  refine W.region ?_
  refine OpsW.fresh (fr_buildSlice rfl gY_sl) rfl fun b11 => ?_
  refine OpsW.det (det_call en49 rfl (fun w hb ho => Read_ok (G' := [(b11, blk (bcells gY ++ []) 5)]) (Bs.of gY_small (Nat.le_refl _)) (blocks_cons (hb _ (List.Mem.head _)) ho.blocks))) rfl ?_
  refine OpsW.det (det_move rfl) rfl ?_
  refine OpsW.det (det_extract rfl rfl) rfl ?_
  refine OpsW.det (det_extract rfl rfl) rfl ?_
  refine OpsW.fresh (fr_alloc z28) rfl fun b3 => ?_
  refine OpsW.store sz28 rfl rfl rfl rfl rfl (Upd.here) rfl ?_
  refine OpsW.det (det_assign rfl) rfl ?_
  refine sNext ?_
  refine W.keep (F' := [(3, _), (1, _), (0, _)]) ⟨rfl, rfl, rfl, trivial⟩ ?_
  refine sSeq ?_
  refine W.region ?_
  refine OpsW.det (det_loadA ty28 rfl (List.Mem.tail _ (List.Mem.tail _ (List.Mem.head _))) rfl) rfl ?_
  refine OpsW.det (det_loadA ty28 rfl (List.Mem.head _) rfl) rfl ?_
  refine OpsW.det (det_build rfl bld30) rfl ?_
  refine OpsW.store sz30 rfl rfl rfl rfl rfl (Upd.there (Upd.there (Upd.there (Upd.there (Upd.here))))) rfl ?_
  refine sNext ?_
  refine W.keep (F' := [(0, _)]) ⟨rfl, trivial⟩ ?_
  refine sRet ?_
  exact done1 Tryd.results17 (rv_cellA ty30 rfl (List.Mem.tail _ (List.Mem.tail _ (List.Mem.tail _ (List.Mem.tail _ (List.Mem.head _))))) rfl) rfl
theorem PIn_ok {p : Pt} {w : World} (hG : Blocks (GH T) w)  : Vm.Pure Tryd.prog 31 #[encP p] w (.bool (inB p)) := by
  refine pure_of_W (n := 26) (args := [encP p]) Tryd.func31 rfl Tryd.ntmps31 (Nat.le_of_ble_eq_true rfl) hG ?_
  refine sStart ?_
  refine sSeq ?_
  refine W.region ?_
  refine OpsW.fresh (fr_box rfl rfl) rfl fun b1 => ?_
  refine OpsW.det (det_assign rfl) rfl ?_
  refine sNext ?_
  refine W.keep (F' := [(1, _)]) ⟨rfl, trivial⟩ ?_
  refine sSeq ?_
  refine W.region ?_
  refine OpsW.fresh (fr_buildSlice rfl turnL_sl) rfl fun b7 => ?_
  refine OpsW.det (det_call en49 rfl (fun w hb ho => Read_ok (G' := [(b7, blk (bcells turnL ++ []) 5)]) (Bs.of turnL_small (Nat.le_refl _)) (blocks_cons (hb _ (List.Mem.head _)) ho.blocks))) rfl ?_
  refine OpsW.det (det_move rfl) rfl ?_
  refine OpsW.det (det_extract rfl rfl) rfl ?_
  refine OpsW.det (det_extract rfl rfl) rfl ?_
  refine OpsW.fresh (fr_alloc z28) rfl fun b3 => ?_
  refine OpsW.store sz28 rfl rfl rfl rfl rfl (Upd.here) rfl ?_
  refine OpsW.det (det_assign rfl) rfl ?_
  refine sNext ?_
  refine W.keep (F' := [(3, _), (1, _)]) ⟨rfl, rfl, trivial⟩ ?_
  refine sSeq ?_
  refine W.region ?_
  refine OpsW.fresh (fr_buildSlice rfl sizeL_sl) rfl fun b11 => ?_
  refine OpsW.det (det_assign rfl) rfl ?_
  refine sNext ?_
  refine W.keep (F' := [(5, _), (3, _), (1, _)]) ⟨rfl, rfl, rfl, trivial⟩ ?_
  refine sSeq ?_
  refine W.draw mixed 15 [[], [0], [], [0, 1, 2], [], [4], [0, 1, 2, 3, 4, 5], [], [], [0, 1, 2, 3, 7, 8], [], [0, 1, 2, 3, 7, 8, 9, 10], [0, 1, 2, 3, 7, 8, 9, 10, 11], [0, 1, 2, 3, 4, 5, 6, 7, 8, 9, 10, 11, 12], [0, 1, 2, 3, 4, 5, 6, 7, 8, 9, 10, 11, 12, 13]] (cl_lt (by decide)) ?_
  refine HeadR.start (cl_lt (by decide)) ?_
  refine HeadR.det rfl (fun β hβ => (det_fieldAddr fl30_0 rfl)) ?_
  refine HeadR.det rfl (fun β hβ => (det_loadA ty28 rfl (List.Mem.tail _ (List.Mem.tail _ (List.Mem.tail _ (List.Mem.head _)))) rfl)) ?_
  refine HeadR.det rfl (fun β hβ => (det_loadA ty28 rfl (List.Mem.tail _ (List.Mem.head _)) rfl)) ?_
  refine HeadR.det rfl (fun β hβ => (det_call en57 rfl (fun w hb ho => Cu.Mul_ok ho.blocks))) ?_
  refine HeadR.det rfl (fun β hβ => (det_fieldAddr fl30_1 rfl)) ?_
  refine HeadR.det rfl (fun β hβ => (det_loadA ty28 rfl (List.Mem.tail _ (List.Mem.tail _ (List.Mem.tail _ (List.Mem.head _)))) rfl)) ?_
  refine HeadR.det rfl (fun β hβ => (det_build rfl bld30)) ?_
  refine HeadR.det rfl (fun β hβ => (det_loadA ty30 rfl (List.Mem.tail _ (List.Mem.tail _ (List.Mem.tail _ (List.Mem.head _)))) rfl)) ?_
  refine HeadR.det rfl (fun β hβ => (det_move rfl)) ?_
  refine HeadR.det rfl (fun β hβ => (det_call en25 rfl (fun w hb ho => Times_ok (G' := [(b11, blk (bcells sizeL ++ []) 5)]) (p := p) (Bs.of sizeL_small (Nat.le_refl _)) (by decide) (blocks_cons (hb _ (List.Mem.head _)) ho.blocks)))) ?_
  refine HeadR.det rfl (fun β hβ => (det_move rfl)) ?_
  refine HeadR.det rfl (fun β hβ => (det_call en25 rfl (fun w hb ho => Times_ok (G' := [(b11, blk (bcells sizeL ++ []) 5)]) (p := times sizeL p) (Bs.of sizeL_small (Nat.le_refl _)) (by decide) (blocks_cons (hb _ (List.Mem.head _)) ho.blocks)))) ?_
  refine HeadR.det rfl (fun β hβ => (det_call en22 rfl (fun w hb ho => PNeg_ok ho.blocks))) ?_
  refine HeadR.det rfl (fun β hβ => (det_eql30 rfl rfl)) ?_
  refine HeadR.det rfl (fun β hβ => (det_assign rfl)) ?_
  refine HeadR.done ⟨by kernel_rfl, fun β hβ => ?_⟩
  refine OpsW.norm (F' := [(12, _), (13, _), (14, _), (15, _), (16, _), (17, _), (18, _), (19, _), (20, _), (21, _), (22, _), (23, _), (24, _), (25, _), (2, _), (5, _), (3, _), (1, _)]) (H' := [(_, _), (_, _), (_, _), (_, _)]) rfl rfl ?_
  refine sNext ?_
  refine W.keep (F' := [(2, _)]) ⟨rfl, trivial⟩ ?_
  refine sRet ?_
  exact done1 Tryd.results31 (rv_tmp rfl) rfl

end Go.Cu

/- The first group's field: roots: the walk. Conditions: none. -/
namespace Go.Cu
open Go Go.Vm Go.RowKit Go.Proofs 
attribute [local irreducible] W OpsW Det Fresh New Writes Vm.Pure Makes Changes ExternTo BuildTo ZeroTo FieldTo IndexTo BinTo SliceTo Vm.Enters
set_option linter.unusedVariables false
set_option linter.unusedSimpArgs false
variable {T : Nat → TypeId × Nat × Nat}

def ppe : Nat := pp + 1
def ppq : Nat := (pp + 1) / 4
theorem ppe_words : w6 (sel 0 ppq ppe) = [u64 13402431016077863596, u64 2210141511517208575, u64 7435674573564081700, u64 7239337960414712511, u64 5412103778470702295, u64 1873798617647539866] := by kernel_rfl
theorem or_step {i : Nat} (h : i + 1 < 6) : Value.int .u64 (bitsOf .or .u64 ((lim ppe i / 2 ^ 2 : Nat) : Int) ((lim ppe (i + 1) * 2 ^ 62 % 18446744073709551616 : Nat) : Int)) = u64 (lim ppq i) := by
  have : i = 0 ∨ i = 1 ∨ i = 2 ∨ i = 3 ∨ i = 4 := by omega
  rcases this with rfl | rfl | rfl | rfl | rfl <;> (unfold u64; exact congrArg _ (by decide +kernel))
theorem last_step : lim ppe 5 / 2 ^ 2 = lim ppq 5 := by decide +kernel
def mid (i j : Nat) : Nat := if j = i then lim ppe i / 2 ^ 2 else sel i ppq ppe j
theorem mid_at {i : Nat} : mid i i = lim ppe i / 2 ^ 2 := if_pos rfl
theorem mid_ne {i j : Nat} (h : j ≠ i) : mid i j = sel i ppq ppe j := if_neg h
theorem mid_next {i : Nat} : mid i (i + 1) = lim ppe (i + 1) := by rw [mid_ne (by omega)]; exact if_neg (by omega)
theorem at6 {f : Nat → Nat} {i k : Nat} (h : i < 6) (hk : k = i) : (w6 f)[k]? = some (u64 (f i)) := by
  subst hk
  have : k = 0 ∨ k = 1 ∨ k = 2 ∨ k = 3 ∨ k = 4 ∨ k = 5 := by omega
  rcases this with rfl | rfl | rfl | rfl | rfl | rfl <;> rfl
theorem sel_6 : w6 (sel 6 ppq ppe) = w6 (lim ppq) := by unfold w6 sel; rfl
def root (x : Fq) : Fq := pw x ppq
def sqrtF (x : Fq) : Fq × Bool := if root x * root x = x then (root x, true) else (0, false)
theorem sqrt_no {x : Fq} (h : (!decide (root x * root x = x)) = true) : Value.tuple #[encF 0, .bool false] = .tuple #[encF (sqrtF x).1, .bool (sqrtF x).2] := by
  have h : ¬ root x * root x = x := by simpa using h
  unfold sqrtF; rw [if_neg h]
theorem sqrt_yes {x : Fq} (h : (!decide (root x * root x = x)) = false) : Value.tuple #[encF (root x), .bool true] = .tuple #[encF (sqrtF x).1, .bool (sqrtF x).2] := by
  have h : root x * root x = x := by simpa using h
  unfold sqrtF; rw [if_pos h]
theorem mid_five : w6 (mid 5) = w6 (sel (5 + 1) ppq ppe) := by kernel_rfl
theorem mid_last {i : Nat} (h : i < 6) (h5 : ¬ i + 1 < 6) : w6 (mid i) = w6 (sel (i + 1) ppq ppe) := by
  have : i = 5 := by omega
  subst this
  exact mid_five


theorem Sqrt_ok {x : Fq} {w : World} (hG : Blocks (GH T) w)  : Vm.Pure Tryd.prog 60 #[encF x] w (.tuple #[encF (sqrtF x).1, .bool (sqrtF x).2]) := by
  refine pure_of_W (n := 43) (args := [encF x]) Tryd.func60 rfl Tryd.ntmps60 (Nat.le_of_ble_eq_true rfl) hG ?_
  refine sStart ?_
  refine sSeq ?_
  refine W.region ?_
  refine OpsW.fresh (fr_box rfl rfl) rfl fun b1 => ?_
  refine OpsW.fresh (fr_alloc z28) rfl fun b2 => ?_
  refine OpsW.det (det_assign rfl) rfl ?_
  refine sNext ?_
  refine W.keep (F' := [(2, _), (1, _)]) ⟨rfl, rfl, trivial⟩ ?_
  refine sSeq ?_
  refine W.region ?_
  refine OpsW.det (det_loadA_ro ty26 rfl (List.Mem.tail _ (List.Mem.tail _ (List.Mem.head _))) rfl) rfl ?_
  refine OpsW.fresh (fr_alloc z26) rfl fun b4 => ?_
  refine OpsW.store sz26 rfl rfl rfl rfl rfl (Upd.here) rfl ?_
  refine sNext ?_
  refine W.keep (F' := [(4, _), (2, _), (1, _)]) ⟨rfl, rfl, rfl, trivial⟩ ?_
  refine sSeq ?_
  refine W.region ?_
  refine OpsW.det (det_indexAddr_arr u26 sz25 rfl rfl ⟨by decide, by decide⟩) rfl ?_
  refine OpsW.det (det_loadC ty25 rfl (List.Mem.head _) rfl) rfl ?_
  refine OpsW.det ((det_add (a := 13402431016077863595) (b := 1) rfl rfl).to (v := u64 13402431016077863596) (by kernel_rfl)) rfl ?_
  refine OpsW.det (det_indexAddr_arr u26 sz25 rfl rfl ⟨by decide, by decide⟩) rfl ?_
  refine OpsW.store sz25 rfl rfl rfl rfl rfl (Upd.here) rfl ?_
  refine sNext ?_
  refine W.keep (F' := [(4, _), (2, _), (1, _)]) ⟨rfl, rfl, rfl, trivial⟩ ?_
  refine sSeq ?_
  refine sSeq ?_
  refine W.region ?_
  refine OpsW.det (det_move rfl) rfl ?_
  refine sNext ?_
  refine sBlock ?_
  refine sLoop (σ := Nat) (fun i => [(12, .int .i64 (i : Nat)), (4, .pointer (some ⟨b4, 0, none⟩)), (2, .pointer (some ⟨b2, 0, none⟩)), (1, .pointer (some ⟨b1, 0, none⟩))]) (fun i => [(b4, blk (w6 (sel i ppq ppe)) 26), (b2, blk [.int .u64 0, .int .u64 0, .int .u64 0, .int .u64 0, .int .u64 0, .int .u64 0] 28), (b1, blk (cellsF x) 28)]) (fun i => i ≤ 6) (fun i => 6 - i) 0 (by decide) ⟨rfl, rfl, rfl, rfl, trivial⟩ (by rw [ppe_words]; exact List.Sublist.refl _) ?_
  intro i hi
  refine sSeq ?_
  refine W.region ?_
  refine OpsW.det (det_lss rfl rfl) rfl ?_
  refine sNext ?_
  refine sSeq ?_
  refine W.cond rfl (fun hc13 => ?_) (fun hc13 => ?_)
  · skip
    have hlt : i < 6 := by have h := hc13; simp only [decide_eq_true_eq] at h; omega
    refine sSkip ?_
    refine sSeq ?_
    refine sBlock ?_
    refine sSeq ?_
    refine W.region ?_
    refine OpsW.det (det_move rfl) rfl ?_
    refine OpsW.det (det_assign rfl) rfl ?_
    refine sNext ?_
    refine W.keep (F' := [(5, _), (12, _), (4, _), (2, _), (1, _)]) ⟨rfl, rfl, rfl, rfl, rfl, trivial⟩ ?_
    refine sSeq ?_
    refine W.region ?_
    refine OpsW.det (det_move rfl) rfl ?_
    refine OpsW.det (det_indexAddr_arr u26 sz25 rfl rfl ⟨by omega, by omega⟩) rfl ?_
    refine OpsW.det ((det_loadC ty25 rfl (List.Mem.head _) (at6 (f := sel i ppq ppe) hlt (by omega))).to (congrArg u64 sel_at)) rfl ?_
    refine OpsW.det (det_shrN (b := 2) rfl rfl (by decide)) rfl ?_
    refine OpsW.det (det_indexAddr_arr u26 sz25 rfl rfl ⟨by omega, by omega⟩) rfl ?_
    refine OpsW.store sz25 rfl rfl rfl rfl rfl (Upd.here) (put6 (f := sel i ppq ppe) (f' := mid i) hlt (by omega) mid_at fun j hj => mid_ne hj) ?_
    refine sNext ?_
    refine W.keep (F' := [(5, _), (12, _), (4, _), (2, _), (1, _)]) ⟨rfl, rfl, rfl, rfl, rfl, trivial⟩ ?_
    refine sSeq ?_
    refine W.region ?_
    refine OpsW.det (det_move rfl) rfl ?_
    refine OpsW.det (det_addN (b := 1) rfl rfl (by omega)) rfl ?_
    refine OpsW.det (det_lss rfl rfl) rfl ?_
    refine sNext ?_
    refine W.keep (F' := [(22, _), (5, _), (12, _), (4, _), (2, _), (1, _)]) ⟨rfl, rfl, rfl, rfl, rfl, rfl, trivial⟩ ?_
    refine W.cond rfl (fun hc22 => ?_) (fun hc22 => ?_)
    · skip
      have hl6 : i + 1 < 6 := by have h := hc22; simp only [decide_eq_true_eq] at h; omega
      refine W.draw mixed 10 [[], [0], [0, 1], [], [3], [3, 4], [3, 4, 5], [3, 4, 5, 6], [0, 1, 2, 3, 4, 5, 6, 7], [0, 1, 2, 3, 4, 5, 6, 7, 8], [0, 1, 2, 3, 4, 5, 6, 7, 8, 9]] (cl_lt (by decide)) ?_
      refine HeadR.start (cl_lt (by decide)) ?_
      refine HeadR.det rfl (fun β hβ => (det_move rfl)) ?_
      refine HeadR.det rfl (fun β hβ => (det_indexAddr_arr u26 sz25 rfl rfl ⟨by omega, by omega⟩)) ?_
      refine HeadR.det rfl (fun β hβ => ((det_loadC ty25 rfl (List.Mem.head _) (at6 (f := mid i) hlt (by omega))).to (congrArg u64 mid_at))) ?_
      refine HeadR.det rfl (fun β hβ => (det_move rfl)) ?_
      refine HeadR.det rfl (fun β hβ => (det_addN (b := 1) rfl rfl (by omega))) ?_
      refine HeadR.det rfl (fun β hβ => (det_indexAddr_arr u26 sz25 rfl rfl ⟨by omega, by omega⟩)) ?_
      refine HeadR.det rfl (fun β hβ => ((det_loadC ty25 rfl (List.Mem.head _) (at6 (f := mid i) (i := i + 1) hl6 (by omega))).to (congrArg u64 mid_next))) ?_
      refine HeadR.det rfl (fun β hβ => (det_shlN (b := 62) rfl rfl (by decide))) ?_
      refine HeadR.det rfl (fun β hβ => ((det_or rfl rfl).to (or_step hl6))) ?_
      refine HeadR.det rfl (fun β hβ => (det_indexAddr_arr u26 sz25 rfl rfl ⟨by omega, by omega⟩)) ?_
      refine HeadR.done ⟨by kernel_rfl, fun β hβ => ?_⟩
      refine OpsW.norm (F' := [(23, _), (24, _), (25, _), (26, _), (27, _), (28, _), (29, _), (30, _), (31, _), (32, _), (22, _), (5, _), (12, _), (4, _), (2, _), (1, _)]) (H' := [(_, _), (_, _), (_, _)]) rfl rfl ?_
      refine OpsW.store sz25 rfl rfl rfl rfl rfl (Upd.here) (put6 (f := mid i) (f' := sel (i + 1) ppq ppe) hlt (by omega) sel_new fun j hj => (sel_old hj).trans (mid_ne hj).symm) ?_
      refine sLast ?_
      refine bNext ?_
      refine W.keep (F' := [(12, _), (4, _), (2, _), (1, _)]) ⟨rfl, rfl, rfl, rfl, trivial⟩ ?_
      refine W.region ?_
      refine OpsW.det (det_addN (b := 1) rfl rfl (by omega)) rfl ?_
      refine OpsW.det (det_move rfl) rfl ?_
      refine sLast ?_
      exact rEnd (i + 1) hlt ⟨rfl, rfl, rfl, rfl, trivial⟩ (List.Sublist.refl _) (step_lt hlt)
    · skip
      have hl6 : ¬ i + 1 < 6 := by have h := hc22; simp only [decide_eq_false_iff_not] at h; omega
      refine sSkip0 ?_
      refine bNext ?_
      refine W.keep (F' := [(12, _), (4, _), (2, _), (1, _)]) ⟨rfl, rfl, rfl, rfl, trivial⟩ ?_
      refine W.region ?_
      refine OpsW.det (det_addN (b := 1) rfl rfl (by omega)) rfl ?_
      refine OpsW.det (det_move rfl) rfl ?_
      refine sLast ?_
      exact rEnd (i + 1) hlt ⟨rfl, rfl, rfl, rfl, trivial⟩ (by rw [← mid_last hlt hl6]; exact List.Sublist.refl _) (step_lt hlt)
  · skip
    have hi6 : i = 6 := by have h := hc13; simp only [decide_eq_false_iff_not] at h; omega
    subst hi6
    refine sExit ?_
    refine xLoop ?_
    refine xHere ?_
    refine W.keep (F' := [(4, _), (2, _), (1, _)]) ⟨rfl, rfl, rfl, trivial⟩ ?_
    refine sSeq ?_
    refine W.norm (F' := _) (H' := [(b4, blk (w6 (lim ppq)) 26), (_, _), (_, _)]) rfl (by rw [sel_6]) ?_
    refine W.region ?_
    refine OpsW.det (det_loadA ty28 rfl (List.Mem.tail _ (List.Mem.tail _ (List.Mem.head _))) rfl) rfl ?_
    refine OpsW.det (det_loadA ty26 rfl (List.Mem.head _) rfl) rfl ?_
    refine OpsW.det (det_call en97 rfl (fun w hb ho => power_ok (x := x) (E := ppq) (by decide) ho.blocks)) rfl ?_
    refine OpsW.fresh (fr_alloc z28) rfl fun b6 => ?_
    refine OpsW.store sz28 rfl rfl rfl rfl rfl (Upd.here) rfl ?_
    refine sNext ?_
    refine W.keep (F' := [(6, _), (2, _), (1, _)]) ⟨rfl, rfl, rfl, trivial⟩ ?_
    refine sSeq ?_
    refine sSeq ?_
    refine W.draw mixed 4 [[], [0], [], [0, 1, 2]] (cl_lt (by decide)) ?_
    refine HeadR.start (cl_lt (by decide)) ?_
    refine HeadR.det rfl (fun β hβ => (det_loadA ty28 rfl (List.Mem.head _) rfl)) ?_
    refine HeadR.det rfl (fun β hβ => (det_call en56 rfl (fun w hb ho => Cu.Square_ok ho.blocks))) ?_
    refine HeadR.det rfl (fun β hβ => (det_loadA ty28 rfl (List.Mem.tail _ (List.Mem.tail _ (List.Mem.tail _ (List.Mem.head _)))) rfl)) ?_
    refine HeadR.det rfl (fun β hβ => (det_neq28 rfl rfl)) ?_
    refine HeadR.done ⟨by kernel_rfl, fun β hβ => ?_⟩
    refine OpsW.norm (F' := [(37, _), (38, _), (39, _), (40, _), (6, _), (2, _), (1, _)]) (H' := [(_, _), (_, _), (_, _), (_, _)]) rfl rfl ?_
    refine sNext ?_
    refine W.keep (F' := [(40, _), (6, _), (2, _)]) ⟨rfl, rfl, rfl, trivial⟩ ?_
    refine W.cond rfl (fun hc40 => ?_) (fun hc40 => ?_)
    · skip
      refine sSeq ?_
      refine W.region ?_
      refine OpsW.det (det_zero bz28) rfl ?_
      refine OpsW.store sz28 rfl rfl rfl rfl rfl (Upd.there (Upd.there (Upd.here))) rfl ?_
      refine OpsW.det (det_assign rfl) rfl ?_
      refine sNext ?_
      refine W.keep (F' := [(3, _), (2, _)]) ⟨rfl, rfl, trivial⟩ ?_
      refine sRet ?_
      exact done2 Tryd.results60 (rv_cellA ty28 rfl (List.Mem.tail _ (List.Mem.tail _ (List.Mem.head _))) rfl) (rv_tmp rfl) (sqrt_no hc40)
    · skip
      refine sSkip ?_
      refine sSeq ?_
      refine W.region ?_
      refine OpsW.det (det_loadA ty28 rfl (List.Mem.head _) rfl) rfl ?_
      refine OpsW.store sz28 rfl rfl rfl rfl rfl (Upd.there (Upd.there (Upd.here))) rfl ?_
      refine OpsW.det (det_assign rfl) rfl ?_
      refine sNext ?_
      refine W.keep (F' := [(3, _), (2, _)]) ⟨rfl, rfl, trivial⟩ ?_
      refine sRet ?_
      exact done2 Tryd.results60 (rv_cellA ty28 rfl (List.Mem.tail _ (List.Mem.tail _ (List.Mem.head _))) rfl) (rv_tmp rfl) (sqrt_yes hc40)
theorem en60 : Vm.Enters Tryd.prog 60 := Vm.Enters.of fun _ _ => by kernel_rfl

end Go.Cu

/- The first group's laws: what they share: the walks. Conditions: of the generator, what HeadOk says. -/
namespace Go.Cu
open Go Go.Vm Go.RowKit Go.Proofs 
attribute [local irreducible] W OpsW Det Fresh New Writes Vm.Pure Makes Changes ExternTo BuildTo ZeroTo FieldTo IndexTo BinTo SliceTo Vm.Enters
set_option linter.unusedVariables false
set_option linter.unusedSimpArgs false
variable {T : Nat → TypeId × Nat × Nat}

theorem Plain_call {x : Fq} {w : World} (hG : Blocks (GH T) w) : Vm.Pure Tryd.prog 57 #[encF x, .agg #[u64 1, .int .u64 0, .int .u64 0, .int .u64 0, .int .u64 0, .int .u64 0]] w (enc6 x.val) := by
  have h := Mul_w_ok (X := mont x) (Y := 1) (mont_lt x) (by decide) hG
  rw [← of_words (n := 1) (by decide)]
  refine h.same (congrArg enc6 ?_)
  unfold mont
  rw [Nat.mul_one, Nat.mod_mul_mod, Nat.mul_assoc, Nat.mul_mod, show R6 * inv_pp % pp = 1 from by decide +kernel, Nat.mul_one, Nat.mod_mod, Nat.mod_eq_of_lt x.lt]
theorem fld28 {a b c d e f : Int} : FieldTo Tryd.prog 28 (.agg #[.int .u64 a, .int .u64 b, .int .u64 c, .int .u64 d, .int .u64 e, .int .u64 f]) 0 (.agg #[.int .u64 a, .int .u64 b, .int .u64 c, .int .u64 d, .int .u64 e, .int .u64 f]) := FieldTo.of fun _ => by kernel_rfl
def oddF (x : Fq) : Bool := ((lim x.val 0 % 2 ^ 1 : Nat) : Int) == 1
def lambdaB (p q r : Pt) : Bool := decide ((p.1 + q.1 + r.1) * ((q.1 - p.1) * (q.1 - p.1)) = (q.2 - p.2) * (q.2 - p.2))
def threeB (p : Pt) : Bool :=
  let s := p.1 * p.1 * (p.1 * p.1)
  let u := p.1 * (p.2 * p.2)
  let n := s + s + s
  let nine := n + n + n
  let v := u + u + u
  let w := v + v
  decide (nine = w + w)
theorem two_sl : SliceTo Tryd.prog 22 1 [(0, .int .u8 2)] (bcells [2] ++ []) 5 := SliceTo.of fun _ => by kernel_rfl
theorem two_small : ∀ c ∈ [2], c < 256 := by decide
/-- What the head asks of the generator. -/
structure HeadOk : Prop where
  h1 : onB gen = true
  h2 : onB (padd gen gen) = true
  h3 : (!decide (padd gen gen = gen)) = true
  h4 : (!decide (padd gen gen = (0, 0))) = true
  h5 : decide (times [2] gen = padd gen gen) = true
  h6 : decide (padd gen (pneg gen) = (0, 0)) = true
  h7 : oddF gen.1 = true

theorem en17 : Vm.Enters Tryd.prog 17 := Vm.Enters.of fun _ _ => by kernel_rfl
theorem en20 : Vm.Enters Tryd.prog 20 := Vm.Enters.of fun _ _ => by kernel_rfl
theorem en23 : Vm.Enters Tryd.prog 23 := Vm.Enters.of fun _ _ => by kernel_rfl
theorem en48 : Vm.Enters Tryd.prog 48 := Vm.Enters.of fun _ _ => by kernel_rfl
theorem en92 : Vm.Enters Tryd.prog 92 := Vm.Enters.of fun _ _ => by kernel_rfl
theorem Plain_ok {x : Fq} {w : World} (hG : Blocks (GH T) w)  : Vm.Pure Tryd.prog 92 #[encF x] w (enc6 x.val) := by
  refine pure_of_W (n := 8) (args := [encF x]) Tryd.func92 rfl Tryd.ntmps92 (Nat.le_of_ble_eq_true rfl) hG ?_
  refine sStart ?_
  refine sSeq ?_
  refine W.region ?_
  refine OpsW.fresh (fr_box rfl rfl) rfl fun b1 => ?_
  refine OpsW.fresh (fr_alloc z26) rfl fun b2 => ?_
  refine sNext ?_
  refine W.keep (F' := [(2, _), (1, _)]) ⟨rfl, rfl, trivial⟩ ?_
  refine sSeq ?_
  refine W.region ?_
  refine OpsW.det (det_loadA ty28 rfl (List.Mem.tail _ (List.Mem.head _)) rfl) rfl ?_
  refine OpsW.det (det_build rfl bld26_0) rfl ?_
  refine OpsW.det (det_build rfl bld28) rfl ?_
  refine OpsW.det (det_call en57 rfl (fun w hb ho => Plain_call ho.blocks)) rfl ?_
  refine OpsW.det (det_field rfl fld28) rfl ?_
  refine OpsW.store sz26 rfl rfl rfl rfl rfl (Upd.here) rfl ?_
  refine sNext ?_
  refine W.keep (F' := [(2, _)]) ⟨rfl, trivial⟩ ?_
  refine sRet ?_
  exact done1 Tryd.results92 (rv_cellA ty26 rfl (List.Mem.head _) rfl) rfl
theorem Odd_ok {x : Fq} {w : World} (hG : Blocks (GH T) w)  : Vm.Pure Tryd.prog 48 #[encF x] w (.bool (oddF x)) := by
  refine pure_of_W (n := 8) (args := [encF x]) Tryd.func48 rfl Tryd.ntmps48 (Nat.le_of_ble_eq_true rfl) hG ?_
  refine sStart ?_
  refine sSeq ?_
  refine W.region ?_
  refine OpsW.fresh (fr_box rfl rfl) rfl fun b1 => ?_
  refine OpsW.det (det_assign rfl) rfl ?_
  refine sNext ?_
  refine W.keep (F' := [(1, _)]) ⟨rfl, trivial⟩ ?_
  refine sSeq ?_
  refine W.region ?_
  refine OpsW.det (det_loadA ty28 rfl (List.Mem.head _) rfl) rfl ?_
  refine OpsW.det (det_call en92 rfl (fun w hb ho => Cu.Plain_ok ho.blocks)) rfl ?_
  refine OpsW.det (det_index rfl rfl (idx26 (m := x.val) (i := 0) (by decide))) rfl ?_
  refine OpsW.det (det_maskN (m := 1) (k := 1) rfl rfl (lim_lt _ _) rfl (by decide)) rfl ?_
  refine OpsW.det (det_eql rfl rfl) rfl ?_
  refine OpsW.det (det_assign rfl) rfl ?_
  refine sNext ?_
  refine W.keep (F' := [(2, _)]) ⟨rfl, trivial⟩ ?_
  refine sRet ?_
  exact done1 Tryd.results48 (rv_tmp rfl) rfl
theorem lambda_ok {p q r : Pt} {w : World} (hG : Blocks (GH T) w)  : Vm.Pure Tryd.prog 69 #[encP p, encP q, encP r] w (.bool (lambdaB p q r)) := by
  refine pure_of_W (n := 33) (args := [encP p, encP q, encP r]) Tryd.func69 rfl Tryd.ntmps69 (Nat.le_of_ble_eq_true rfl) hG ?_
  refine sStart ?_
  refine sSeq ?_
  refine W.region ?_
  refine OpsW.fresh (fr_box rfl rfl) rfl fun b3 => ?_
  refine OpsW.fresh (fr_box rfl rfl) rfl fun b4 => ?_
  refine OpsW.fresh (fr_box rfl rfl) rfl fun b5 => ?_
  refine OpsW.det (det_assign rfl) rfl ?_
  refine sNext ?_
  refine W.keep (F' := [(5, _), (4, _), (3, _)]) ⟨rfl, rfl, rfl, trivial⟩ ?_
  refine sSeq ?_
  refine W.region ?_
  refine OpsW.det (det_fieldAddr fl30_0 rfl) rfl ?_
  refine OpsW.det (det_loadA ty28 rfl (List.Mem.tail _ (List.Mem.head _)) rfl) rfl ?_
  refine OpsW.det (det_fieldAddr fl30_0 rfl) rfl ?_
  refine OpsW.det (det_loadA ty28 rfl (List.Mem.tail _ (List.Mem.tail _ (List.Mem.head _))) rfl) rfl ?_
  refine OpsW.det (det_call en67 rfl (fun w hb ho => Cu.Sub_ok ho.blocks)) rfl ?_
  refine OpsW.fresh (fr_alloc z28) rfl fun b7 => ?_
  refine OpsW.store sz28 rfl rfl rfl rfl rfl (Upd.here) rfl ?_
  refine sNext ?_
  refine W.keep (F' := [(7, _), (5, _), (4, _), (3, _)]) ⟨rfl, rfl, rfl, rfl, trivial⟩ ?_
  refine sSeq ?_
  refine W.region ?_
  refine OpsW.det (det_fieldAddr fl30_1 rfl) rfl ?_
  refine OpsW.det (det_loadA ty28 rfl (List.Mem.tail _ (List.Mem.tail _ (List.Mem.head _))) rfl) rfl ?_
  refine OpsW.det (det_fieldAddr fl30_1 rfl) rfl ?_
  refine OpsW.det (det_loadA ty28 rfl (List.Mem.tail _ (List.Mem.tail _ (List.Mem.tail _ (List.Mem.head _)))) rfl) rfl ?_
  refine OpsW.det (det_call en67 rfl (fun w hb ho => Cu.Sub_ok ho.blocks)) rfl ?_
  refine OpsW.fresh (fr_alloc z28) rfl fun b8 => ?_
  refine OpsW.store sz28 rfl rfl rfl rfl rfl (Upd.here) rfl ?_
  refine sNext ?_
  refine W.keep (F' := [(8, _), (7, _), (5, _), (4, _), (3, _)]) ⟨rfl, rfl, rfl, rfl, rfl, trivial⟩ ?_
  refine sSeq ?_
  refine W.draw mixed 15 [[], [0], [], [2], [0, 1, 2, 3], [], [5], [0, 1, 2, 3, 4, 5, 6], [], [0, 1, 2, 3, 4, 5, 6, 7, 8], [0, 1, 2, 3, 4, 5, 6, 7, 8, 9], [], [0, 1, 2, 3, 4, 5, 6, 7, 8, 9, 10, 11], [0, 1, 2, 3, 4, 5, 6, 7, 8, 9, 10, 11, 12], [0, 1, 2, 3, 4, 5, 6, 7, 8, 9, 10, 11, 12, 13]] (cl_lt (by decide)) ?_
  refine HeadR.start (cl_lt (by decide)) ?_
  refine HeadR.det rfl (fun β hβ => (det_fieldAddr fl30_0 rfl)) ?_
  refine HeadR.det rfl (fun β hβ => (det_loadA ty28 rfl (List.Mem.tail _ (List.Mem.tail _ (List.Mem.tail _ (List.Mem.tail _ (List.Mem.head _))))) rfl)) ?_
  refine HeadR.det rfl (fun β hβ => (det_fieldAddr fl30_0 rfl)) ?_
  refine HeadR.det rfl (fun β hβ => (det_loadA ty28 rfl (List.Mem.tail _ (List.Mem.tail _ (List.Mem.tail _ (List.Mem.head _)))) rfl)) ?_
  refine HeadR.det rfl (fun β hβ => (det_call en33 rfl (fun w hb ho => Cu.Add_ok ho.blocks))) ?_
  refine HeadR.det rfl (fun β hβ => (det_fieldAddr fl30_0 rfl)) ?_
  refine HeadR.det rfl (fun β hβ => (det_loadA ty28 rfl (List.Mem.tail _ (List.Mem.tail _ (List.Mem.head _))) rfl)) ?_
  refine HeadR.det rfl (fun β hβ => (det_call en33 rfl (fun w hb ho => Cu.Add_ok ho.blocks))) ?_
  refine HeadR.det rfl (fun β hβ => (det_loadA ty28 rfl (List.Mem.tail _ (List.Mem.head _)) rfl)) ?_
  refine HeadR.det rfl (fun β hβ => (det_call en56 rfl (fun w hb ho => Cu.Square_ok ho.blocks))) ?_
  refine HeadR.det rfl (fun β hβ => (det_call en57 rfl (fun w hb ho => Cu.Mul_ok ho.blocks))) ?_
  refine HeadR.det rfl (fun β hβ => (det_loadA ty28 rfl (List.Mem.head _) rfl)) ?_
  refine HeadR.det rfl (fun β hβ => (det_call en56 rfl (fun w hb ho => Cu.Square_ok ho.blocks))) ?_
  refine HeadR.det rfl (fun β hβ => (det_eql28 rfl rfl)) ?_
  refine HeadR.det rfl (fun β hβ => (det_assign rfl)) ?_
  refine HeadR.done ⟨by kernel_rfl, fun β hβ => ?_⟩
  refine OpsW.norm (F' := [(19, _), (20, _), (21, _), (22, _), (23, _), (24, _), (25, _), (26, _), (27, _), (28, _), (29, _), (30, _), (31, _), (32, _), (6, _), (8, _), (7, _), (5, _), (4, _), (3, _)]) (H' := [(_, _), (_, _), (_, _), (_, _), (_, _)]) rfl rfl ?_
  refine sNext ?_
  refine W.keep (F' := [(6, _)]) ⟨rfl, trivial⟩ ?_
  refine sRet ?_
  exact done1 Tryd.results69 (rv_tmp rfl) rfl
theorem three_ok {p : Pt} {w : World} (hG : Blocks (GH T) w)  : Vm.Pure Tryd.prog 68 #[encP p] w (.bool (threeB p)) := by
  refine pure_of_W (n := 40) (args := [encP p]) Tryd.func68 rfl Tryd.ntmps68 (Nat.le_of_ble_eq_true rfl) hG ?_
  refine sStart ?_
  refine sSeq ?_
  refine W.region ?_
  refine OpsW.fresh (fr_box rfl rfl) rfl fun b1 => ?_
  refine OpsW.det (det_assign rfl) rfl ?_
  refine sNext ?_
  refine W.keep (F' := [(1, _)]) ⟨rfl, trivial⟩ ?_
  refine sSeq ?_
  refine W.region ?_
  refine OpsW.det (det_fieldAddr fl30_0 rfl) rfl ?_
  refine OpsW.det (det_loadA ty28 rfl (List.Mem.head _) rfl) rfl ?_
  refine OpsW.det (det_call en56 rfl (fun w hb ho => Cu.Square_ok ho.blocks)) rfl ?_
  refine OpsW.det (det_call en56 rfl (fun w hb ho => Cu.Square_ok ho.blocks)) rfl ?_
  refine OpsW.fresh (fr_alloc z28) rfl fun b3 => ?_
  refine OpsW.store sz28 rfl rfl rfl rfl rfl (Upd.here) rfl ?_
  refine sNext ?_
  refine W.keep (F' := [(3, _), (1, _)]) ⟨rfl, rfl, trivial⟩ ?_
  refine sSeq ?_
  refine W.draw mixed 7 [[], [0], [], [2], [2, 3], [0, 1, 2, 3, 4], [], [0, 1, 2, 3, 4, 5, 6]] (cl_lt (by decide)) ?_
  refine HeadR.start (cl_lt (by decide)) ?_
  refine HeadR.det rfl (fun β hβ => (det_fieldAddr fl30_0 rfl)) ?_
  refine HeadR.det rfl (fun β hβ => (det_loadA ty28 rfl (List.Mem.tail _ (List.Mem.head _)) rfl)) ?_
  refine HeadR.det rfl (fun β hβ => (det_fieldAddr fl30_1 rfl)) ?_
  refine HeadR.det rfl (fun β hβ => (det_loadA ty28 rfl (List.Mem.tail _ (List.Mem.head _)) rfl)) ?_
  refine HeadR.det rfl (fun β hβ => (det_call en56 rfl (fun w hb ho => Cu.Square_ok ho.blocks))) ?_
  refine HeadR.det rfl (fun β hβ => (det_call en57 rfl (fun w hb ho => Cu.Mul_ok ho.blocks))) ?_
  refine HeadR.fresh rfl (fun β hβ => (fr_alloc z28).new) ?_
  refine HeadR.done ⟨by kernel_rfl, fun β hβ => ?_⟩
  refine OpsW.norm (F' := [(11, _), (12, _), (13, _), (14, _), (15, _), (16, _), (4, .pointer (some ⟨(β 4).1, 0, none⟩)), (3, _), (1, _)]) (H' := [(_, _), (_, _), (_, _)]) rfl rfl ?_
  generalize (β 4).1 = b4
  refine OpsW.store sz28 rfl rfl rfl rfl rfl (Upd.here) rfl ?_
  refine sNext ?_
  refine W.keep (F' := [(4, _), (3, _)]) ⟨rfl, rfl, trivial⟩ ?_
  refine sSeq ?_
  refine W.draw mixed 6 [[], [], [0, 1], [], [0, 1, 2, 3], [], [0, 1, 2, 3, 4, 5]] (cl_lt (by decide)) ?_
  refine HeadR.start (cl_lt (by decide)) ?_
  refine HeadR.det rfl (fun β hβ => (det_loadA ty28 rfl (List.Mem.tail _ (List.Mem.head _)) rfl)) ?_
  refine HeadR.det rfl (fun β hβ => (det_loadA ty28 rfl (List.Mem.tail _ (List.Mem.head _)) rfl)) ?_
  refine HeadR.det rfl (fun β hβ => (det_call en33 rfl (fun w hb ho => Cu.Add_ok ho.blocks))) ?_
  refine HeadR.det rfl (fun β hβ => (det_loadA ty28 rfl (List.Mem.tail _ (List.Mem.head _)) rfl)) ?_
  refine HeadR.det rfl (fun β hβ => (det_call en33 rfl (fun w hb ho => Cu.Add_ok ho.blocks))) ?_
  refine HeadR.fresh rfl (fun β hβ => (fr_alloc z28).new) ?_
  refine HeadR.done ⟨by kernel_rfl, fun β hβ => ?_⟩
  refine OpsW.norm (F' := [(17, _), (18, _), (19, _), (20, _), (21, _), (5, .pointer (some ⟨(β 5).1, 0, none⟩)), (4, _), (3, _)]) (H' := [(_, _), (_, _), (_, _), (_, _)]) rfl rfl ?_
  generalize (β 5).1 = b5
  refine OpsW.store sz28 rfl rfl rfl rfl rfl (Upd.here) rfl ?_
  refine sNext ?_
  refine W.keep (F' := [(5, _), (4, _)]) ⟨rfl, rfl, trivial⟩ ?_
  refine sSeq ?_
  refine W.draw mixed 5 [[], [], [0, 1], [], [0, 1, 2, 3], [0, 1, 2, 3, 4]] (cl_lt (by decide)) ?_
  refine HeadR.start (cl_lt (by decide)) ?_
  refine HeadR.det rfl (fun β hβ => (det_loadA ty28 rfl (List.Mem.head _) rfl)) ?_
  refine HeadR.det rfl (fun β hβ => (det_loadA ty28 rfl (List.Mem.head _) rfl)) ?_
  refine HeadR.det rfl (fun β hβ => (det_call en33 rfl (fun w hb ho => Cu.Add_ok ho.blocks))) ?_
  refine HeadR.det rfl (fun β hβ => (det_loadA ty28 rfl (List.Mem.head _) rfl)) ?_
  refine HeadR.det rfl (fun β hβ => (det_call en33 rfl (fun w hb ho => Cu.Add_ok ho.blocks))) ?_
  refine HeadR.done ⟨by kernel_rfl, fun β hβ => ?_⟩
  refine OpsW.norm (F' := [(22, _), (23, _), (24, _), (25, _), (26, _), (5, _), (4, _)]) (H' := [(_, _), (_, _), (_, _), (_, _)]) rfl rfl ?_
  refine OpsW.store sz28 rfl rfl rfl rfl rfl (Upd.here) rfl ?_
  refine sNext ?_
  refine W.keep (F' := [(5, _), (4, _)]) ⟨rfl, rfl, trivial⟩ ?_
  refine sSeq ?_
  refine W.draw mixed 6 [[], [], [0, 1], [], [0, 1, 2, 3], [], [0, 1, 2, 3, 4, 5]] (cl_lt (by decide)) ?_
  refine HeadR.start (cl_lt (by decide)) ?_
  refine HeadR.det rfl (fun β hβ => (det_loadA ty28 rfl (List.Mem.tail _ (List.Mem.head _)) rfl)) ?_
  refine HeadR.det rfl (fun β hβ => (det_loadA ty28 rfl (List.Mem.tail _ (List.Mem.head _)) rfl)) ?_
  refine HeadR.det rfl (fun β hβ => (det_call en33 rfl (fun w hb ho => Cu.Add_ok ho.blocks))) ?_
  refine HeadR.det rfl (fun β hβ => (det_loadA ty28 rfl (List.Mem.tail _ (List.Mem.head _)) rfl)) ?_
  refine HeadR.det rfl (fun β hβ => (det_call en33 rfl (fun w hb ho => Cu.Add_ok ho.blocks))) ?_
  refine HeadR.fresh rfl (fun β hβ => (fr_alloc z28).new) ?_
  refine HeadR.done ⟨by kernel_rfl, fun β hβ => ?_⟩
  refine OpsW.norm (F' := [(27, _), (28, _), (29, _), (30, _), (31, _), (6, .pointer (some ⟨(β 6).1, 0, none⟩)), (5, _), (4, _)]) (H' := [(_, _), (_, _), (_, _), (_, _), (_, _)]) rfl rfl ?_
  generalize (β 6).1 = b6
  refine OpsW.store sz28 rfl rfl rfl rfl rfl (Upd.here) rfl ?_
  refine sNext ?_
  refine W.keep (F' := [(6, _), (5, _)]) ⟨rfl, rfl, trivial⟩ ?_
  refine sSeq ?_
  refine W.region ?_
  refine OpsW.det (det_loadA ty28 rfl (List.Mem.head _) rfl) rfl ?_
  refine OpsW.det (det_loadA ty28 rfl (List.Mem.head _) rfl) rfl ?_
  refine OpsW.det (det_call en33 rfl (fun w hb ho => Cu.Add_ok ho.blocks)) rfl ?_
  refine OpsW.store sz28 rfl rfl rfl rfl rfl (Upd.here) rfl ?_
  refine sNext ?_
  refine W.keep (F' := [(6, _), (5, _)]) ⟨rfl, rfl, trivial⟩ ?_
  refine sSeq ?_
  refine W.draw mixed 6 [[], [], [], [1, 2], [0, 1, 2, 3], [0, 1, 2, 3, 4]] (cl_lt (by decide)) ?_
  refine HeadR.start (cl_lt (by decide)) ?_
  refine HeadR.det rfl (fun β hβ => (det_loadA ty28 rfl (List.Mem.tail _ (List.Mem.head _)) rfl)) ?_
  refine HeadR.det rfl (fun β hβ => (det_loadA ty28 rfl (List.Mem.head _) rfl)) ?_
  refine HeadR.det rfl (fun β hβ => (det_loadA ty28 rfl (List.Mem.head _) rfl)) ?_
  refine HeadR.det rfl (fun β hβ => (det_call en33 rfl (fun w hb ho => Cu.Add_ok ho.blocks))) ?_
  refine HeadR.det rfl (fun β hβ => (det_eql28 rfl rfl)) ?_
  refine HeadR.det rfl (fun β hβ => (det_assign rfl)) ?_
  refine HeadR.done ⟨by kernel_rfl, fun β hβ => ?_⟩
  refine OpsW.norm (F' := [(35, _), (36, _), (37, _), (38, _), (39, _), (2, _), (6, _), (5, _)]) (H' := [(_, _), (_, _), (_, _), (_, _), (_, _)]) rfl rfl ?_
  refine sNext ?_
  refine W.keep (F' := [(2, _)]) ⟨rfl, trivial⟩ ?_
  refine sRet ?_
  exact done1 Tryd.results68 (rv_tmp rfl) rfl
theorem head_ok (hh : HeadOk) {w : World} (hG : Blocks (GH T) w)  : Vm.Pure Tryd.prog 15 #[] w (.bool true) := by
  refine pure_of_W (n := 43) (args := []) Tryd.func15 rfl Tryd.ntmps15 (Nat.le_of_ble_eq_true rfl) hG ?_
  refine sStart ?_
  refine sSeq ?_
  refine W.region ?_
  refine OpsW.det (det_assign rfl) rfl ?_
  refine sNext ?_
  refine W.keep (F' := []) trivial ?_
  refine sSeq ?_
  refine W.region ?_
  refine OpsW.det (det_call en17 rfl (fun w hb ho => Gen_ok ho.blocks)) rfl ?_
  refine OpsW.fresh (fr_alloc z30) rfl fun b1 => ?_
  refine OpsW.store sz30 rfl rfl rfl rfl rfl (Upd.here) rfl ?_
  refine sNext ?_
  refine W.keep (F' := [(1, _)]) ⟨rfl, trivial⟩ ?_
  refine sSeq ?_
  refine W.region ?_
  refine OpsW.det (det_loadA ty30 rfl (List.Mem.head _) rfl) rfl ?_
  refine OpsW.det (det_loadA ty30 rfl (List.Mem.head _) rfl) rfl ?_
  refine OpsW.det (det_call en20 rfl (fun w hb ho => PAdd_ok ho.blocks)) rfl ?_
  refine OpsW.fresh (fr_alloc z30) rfl fun b2 => ?_
  refine OpsW.store sz30 rfl rfl rfl rfl rfl (Upd.here) rfl ?_
  refine sNext ?_
  refine W.keep (F' := [(2, _), (1, _)]) ⟨rfl, rfl, trivial⟩ ?_
  refine sSeq ?_
  refine W.draw mixed 37 [[], [0], [0, 1], [0, 1, 2], [0, 1, 2, 3], [0, 1, 2, 3, 4], [0, 1, 2, 3, 4, 5], [0, 1, 2, 3, 4, 5, 6], [0, 1, 2, 3, 4, 5, 6], [0, 1, 2, 3, 4, 5, 6, 7, 8], [0, 1, 2, 3, 4, 5, 6, 7, 8, 9], [0, 1, 2, 3, 4, 5, 6, 7, 8, 9, 10], [0, 1, 2, 3, 4, 5, 6, 7, 8, 9, 10, 11], [0, 1, 2, 3, 4, 5, 6, 7, 8, 9, 10, 11], [0, 1, 2, 3, 4, 5, 6, 7, 8, 9, 10, 11, 12, 13], [0, 1, 2, 3, 4, 5, 6, 7, 8, 9, 10, 11, 12, 13, 14], [0, 1, 2, 3, 4, 5, 6, 7, 8, 9, 10, 11, 12, 13, 14, 15], [0, 1, 2, 3, 4, 5, 6, 7, 8, 9, 10, 11, 12, 13, 14, 15, 16], [0, 1, 2, 3, 4, 5, 6, 7, 8, 9, 10, 11, 12, 13, 14, 15, 16], [0, 1, 2, 3, 4, 5, 6, 7, 8, 9, 10, 11, 12, 13, 14, 15, 16, 17, 18], [0, 1, 2, 3, 4, 5, 6, 7, 8, 9, 10, 11, 12, 13, 14, 15, 16], [0, 1, 2, 3, 4, 5, 6, 7, 8, 9, 10, 11, 12, 13, 14, 15, 16, 17, 18, 19, 20], [0, 1, 2, 3, 4, 5, 6, 7, 8, 9, 10, 11, 12, 13, 14, 15, 16, 17, 18, 19, 20, 21], [0, 1, 2, 3, 4, 5, 6, 7, 8, 9, 10, 11, 12, 13, 14, 15, 16, 17, 18, 19, 20, 21, 22], [0, 1, 2, 3, 4, 5, 6, 7, 8, 9, 10, 11, 12, 13, 14, 15, 16, 17, 18, 19, 20, 21, 22, 23], [0, 1, 2, 3, 4, 5, 6, 7, 8, 9, 10, 11, 12, 13, 14, 15, 16, 17, 18, 19, 20, 21, 22, 23], [0, 1, 2, 3, 4, 5, 6, 7, 8, 9, 10, 11, 12, 13, 14, 15, 16, 17, 18, 19, 20, 21, 22, 23, 25], [0, 1, 2, 3, 4, 5, 6, 7, 8, 9, 10, 11, 12, 13, 14, 15, 16, 17, 18, 19, 20, 21, 22, 23, 24, 25, 26], [0, 1, 2, 3, 4, 5, 6, 7, 8, 9, 10, 11, 12, 13, 14, 15, 16, 17, 18, 19, 20, 21, 22, 23], [0, 1, 2, 3, 4, 5, 6, 7, 8, 9, 10, 11, 12, 13, 14, 15, 16, 17, 18, 19, 20, 21, 22, 23, 24, 25, 26, 27, 28], [0, 1, 2, 3, 4, 5, 6, 7, 8, 9, 10, 11, 12, 13, 14, 15, 16, 17, 18, 19, 20, 21, 22, 23, 24, 25, 26, 27, 28, 29], [0, 1, 2, 3, 4, 5, 6, 7, 8, 9, 10, 11, 12, 13, 14, 15, 16, 17, 18, 19, 20, 21, 22, 23, 24, 25, 26, 27, 28, 29, 30], [0, 1, 2, 3, 4, 5, 6, 7, 8, 9, 10, 11, 12, 13, 14, 15, 16, 17, 18, 19, 20, 21, 22, 23, 24, 25, 26, 27, 28, 29, 30, 31], [0, 1, 2, 3, 4, 5, 6, 7, 8, 9, 10, 11, 12, 13, 14, 15, 16, 17, 18, 19, 20, 21, 22, 23, 24, 25, 26, 27, 28, 29, 30, 31, 32], [0, 1, 2, 3, 4, 5, 6, 7, 8, 9, 10, 11, 12, 13, 14, 15, 16, 17, 18, 19, 20, 21, 22, 23, 24, 25, 26, 27, 28, 29, 30, 31, 32, 33], [0, 1, 2, 3, 4, 5, 6, 7, 8, 9, 10, 11, 12, 13, 14, 15, 16, 17, 18, 19, 20, 21, 22, 23, 24, 25, 26, 27, 28, 29, 30, 31, 32, 33, 34], [0, 1, 2, 3, 4, 5, 6, 7, 8, 9, 10, 11, 12, 13, 14, 15, 16, 17, 18, 19, 20, 21, 22, 23, 24, 25, 26, 27, 28, 29, 30, 31, 32, 33, 34, 35]] (cl_lt (by decide)) ?_
  refine HeadR.start (cl_lt (by decide)) ?_
  refine HeadR.det rfl (fun β hβ => (det_loadA ty30 rfl (List.Mem.tail _ (List.Mem.head _)) rfl)) ?_
  refine HeadR.det rfl (fun β hβ => ((det_call en23 rfl (fun w hb ho => POn_ok (p := gen) ho.blocks)).to (congrArg Value.bool hh.h1))) ?_
  refine HeadR.det rfl (fun β hβ => (det_move rfl)) ?_
  refine HeadR.yes rfl rfl (fun _ _ => rfl) (fun β hβ => (det_loadA ty30 rfl (List.Mem.head _) rfl)) ?_
  refine HeadR.yes rfl rfl (fun _ _ => rfl) (fun β hβ => ((det_call en23 rfl (fun w hb ho => POn_ok (p := padd gen gen) ho.blocks)).to (congrArg Value.bool hh.h2))) ?_
  refine HeadR.det rfl (fun β hβ => (det_pick rfl rfl)) ?_
  refine HeadR.det rfl (fun β hβ => (det_move rfl)) ?_
  refine HeadR.yes rfl rfl (fun _ _ => rfl) (fun β hβ => (det_loadA ty30 rfl (List.Mem.head _) rfl)) ?_
  refine HeadR.yes rfl rfl (fun _ _ => rfl) (fun β hβ => (det_loadA ty30 rfl (List.Mem.tail _ (List.Mem.head _)) rfl)) ?_
  refine HeadR.yes rfl rfl (fun _ _ => rfl) (fun β hβ => ((det_neq30 (a := padd gen gen) (b := gen) rfl rfl).to (congrArg Value.bool hh.h3))) ?_
  refine HeadR.det rfl (fun β hβ => (det_pick rfl rfl)) ?_
  refine HeadR.det rfl (fun β hβ => (det_move rfl)) ?_
  refine HeadR.yes rfl rfl (fun _ _ => rfl) (fun β hβ => (det_loadA ty30 rfl (List.Mem.head _) rfl)) ?_
  refine HeadR.yes rfl rfl (fun _ _ => rfl) (fun β hβ => (det_zero bz30)) ?_
  refine HeadR.yes rfl rfl (fun _ _ => rfl) (fun β hβ => ((det_neq30 (a := padd gen gen) (b := (0, 0)) rfl rfl).to (congrArg Value.bool hh.h4))) ?_
  refine HeadR.det rfl (fun β hβ => (det_pick rfl rfl)) ?_
  refine HeadR.det rfl (fun β hβ => (det_move rfl)) ?_
  refine HeadR.yes rfl rfl (fun _ _ => rfl) (fun β hβ => (det_loadA ty30 rfl (List.Mem.tail _ (List.Mem.head _)) rfl)) ?_
  refine HeadR.yesFresh rfl rfl (fun _ _ => rfl) (fun β hβ => (fr_buildSlice rfl two_sl).new) ?_
  refine HeadR.yes rfl rfl (fun _ _ => rfl) (fun β hβ => (det_call en25 rfl (fun w hb ho => Times_ok (G' := [((β 25).1, blk (bcells [2] ++ []) 5)]) (p := gen) (Bs.of two_small (Nat.le_refl _)) (by decide) (blocks_cons (hb _ (List.Mem.head _)) ho.blocks)))) ?_
  refine HeadR.yes rfl rfl (fun _ _ => rfl) (fun β hβ => (det_loadA ty30 rfl (List.Mem.head _) rfl)) ?_
  refine HeadR.yes rfl rfl (fun _ _ => rfl) (fun β hβ => ((det_eql30 (a := times [2] gen) (b := padd gen gen) rfl rfl).to (congrArg Value.bool hh.h5))) ?_
  refine HeadR.det rfl (fun β hβ => (det_pick rfl rfl)) ?_
  refine HeadR.det rfl (fun β hβ => (det_move rfl)) ?_
  refine HeadR.yes rfl rfl (fun _ _ => rfl) (fun β hβ => (det_loadA ty30 rfl (List.Mem.tail _ (List.Mem.tail _ (List.Mem.head _))) rfl)) ?_
  refine HeadR.yes rfl rfl (fun _ _ => rfl) (fun β hβ => (det_loadA ty30 rfl (List.Mem.tail _ (List.Mem.tail _ (List.Mem.head _))) rfl)) ?_
  refine HeadR.yes rfl rfl (fun _ _ => rfl) (fun β hβ => (det_call en22 rfl (fun w hb ho => PNeg_ok ho.blocks))) ?_
  refine HeadR.yes rfl rfl (fun _ _ => rfl) (fun β hβ => (det_call en20 rfl (fun w hb ho => PAdd_ok ho.blocks))) ?_
  refine HeadR.yes rfl rfl (fun _ _ => rfl) (fun β hβ => (det_zero bz30)) ?_
  refine HeadR.yes rfl rfl (fun _ _ => rfl) (fun β hβ => ((det_eql30 (a := padd gen (pneg gen)) (b := (0, 0)) rfl rfl).to (congrArg Value.bool hh.h6))) ?_
  refine HeadR.det rfl (fun β hβ => (det_pick rfl rfl)) ?_
  refine HeadR.det rfl (fun β hβ => (det_move rfl)) ?_
  refine HeadR.yes rfl rfl (fun _ _ => rfl) (fun β hβ => (det_fieldAddr fl30_0 rfl)) ?_
  refine HeadR.yes rfl rfl (fun _ _ => rfl) (fun β hβ => (det_loadA ty28 rfl (List.Mem.tail _ (List.Mem.tail _ (List.Mem.head _))) rfl)) ?_
  refine HeadR.yes rfl rfl (fun _ _ => rfl) (fun β hβ => ((det_call en48 rfl (fun w hb ho => Odd_ok (x := gen.1) ho.blocks)).to (congrArg Value.bool hh.h7))) ?_
  refine HeadR.det rfl (fun β hβ => (det_pick rfl rfl)) ?_
  refine HeadR.det rfl (fun β hβ => (det_assign rfl)) ?_
  refine HeadR.done ⟨by kernel_rfl, fun β hβ => ?_⟩
  refine OpsW.norm (F' := ((7, _) :: (8, _) :: (9, _) :: (10, _) :: (11, _) :: (12, _) :: (13, _) :: (14, _) :: (15, _) :: (16, _) :: (17, _) :: (18, _) :: (19, _) :: (20, _) :: (21, _) :: (22, _) :: (23, _) :: (24, _) :: (25, .slice (some ⟨(β 25).1, 0, none⟩) 1 1) :: (26, _) :: (27, _) :: (28, _) :: (29, _) :: (30, _) :: (31, _) :: (32, _) :: (33, _) :: (34, _) :: (35, _) :: (36, _) :: (37, _) :: (38, _) :: (39, _) :: (40, _) :: (41, _) :: (42, _) :: (0, _) :: (2, _) :: (1, _) :: [])) (H' := [(_, _), (_, _), (_, _)]) rfl rfl ?_
  generalize (β 25).1 = b25
  refine sNext ?_
  refine W.keep (F' := [(0, _)]) ⟨rfl, trivial⟩ ?_
  refine sRet ?_
  exact done1 Tryd.results15 (rv_tmp rfl) rfl

end Go.Cu

/- The first group's laws: G1Rules: the walk. Conditions: the rules that the points obey. -/
namespace Go.Cu
open Go Go.Vm Go.RowKit Go.Proofs 
attribute [local irreducible] W OpsW Det Fresh New Writes Vm.Pure Makes Changes ExternTo BuildTo ZeroTo FieldTo IndexTo BinTo SliceTo Vm.Enters
set_option linter.unusedVariables false
set_option linter.unusedSimpArgs false
variable {T : Nat → TypeId × Nat × Nat}

theorem nb {p : Prop} [Decidable p] (h : p) : (!decide p) = false := by rw [decide_eq_true h]; rfl
theorem yb {p : Prop} [Decidable p] (h : p) : decide p = true := decide_eq_true h
structure RulesOk (p q r : Pt) : Prop where
  r1 : padd (padd p q) r = padd p (padd q r)
  r2 : psum [p, q, r] = padd (padd p q) r
  r3 : padd p (0, 0) = p
  r4 : padd (0, 0) p = p
  r5 : padd p (pneg p) = (0, 0)
  r6 : pneg (pneg p) = p
  r7 : pneg (padd p q) = padd (pneg p) (pneg q)
  r8 : psum [] = (0, 0)
  r9 : pneg (0, 0) = (0, 0)
  r10 : onB (0, 0) = true
theorem slice45 {p q r : Pt} : SliceTo Tryd.prog 45 3 [(0, encP p), (1, encP q), (2, encP r)] (cellsP p ++ cellsP q ++ cellsP r) 30 := SliceTo.of fun _ => by kernel_rfl
theorem pts3 {p q r : Pt} {b : Nat} : Pts [(b, blk (cellsP p ++ cellsP q ++ cellsP r) 30)] (.slice (some ⟨b, 0, none⟩) 3 3) [p, q, r] :=
  ⟨⟨_, _, rfl⟩, fun i h => ⟨b, 0, 3, _, 30, (0, 0), rfl, List.mem_singleton.2 rfl, by
    have h : i < 3 := h
    have : i = 0 ∨ i = 1 ∨ i = 2 := by omega
    rcases this with rfl | rfl | rfl <;> rfl⟩⟩
theorem pts0 : Pts [] (.slice none 0 0) [] := ⟨⟨_, _, rfl⟩, fun i h => absurd h (Nat.not_lt_zero _)⟩
theorem not_long {a b c : Nat} (h : longB a b c = false) : a ≤ 100 ∧ b ≤ 100 ∧ c ≤ 100 := by unfold longB at h; simp at h; omega
/-- The point that bytes make of the generator. -/
def gp (l : List Nat) : Pt := pmul gen (wide l)

theorem en15 : Vm.Enters Tryd.prog 15 := Vm.Enters.of fun _ _ => by kernel_rfl
theorem en16 : Vm.Enters Tryd.prog 16 := Vm.Enters.of fun _ _ => by kernel_rfl
theorem en18 : Vm.Enters Tryd.prog 18 := Vm.Enters.of fun _ _ => by kernel_rfl
theorem en19 : Vm.Enters Tryd.prog 19 := Vm.Enters.of fun _ _ => by kernel_rfl
theorem en21 : Vm.Enters Tryd.prog 21 := Vm.Enters.of fun _ _ => by kernel_rfl
set_option maxHeartbeats 2000000 in
theorem G1Rules_ok {G' : Hp} {va vb vc : Value} {la lb lc : List Nat} (ha : Bs G' va la) (hb' : Bs G' vb lb) (hc' : Bs G' vc lc) (hh : HeadOk) (hr : RulesOk (gp la) (gp lb) (gp lc)) {w : World} (hG : Blocks (G' ++ GH T) w)  : Vm.Pure Tryd.prog 3 #[va, vb, vc] w (.bool true) := by
  obtain ⟨aa, ca, hva⟩ := ha.shape
  obtain ⟨ab, cb, hvb⟩ := hb'.shape
  obtain ⟨ac, cc, hvc⟩ := hc'.shape
  refine pure_of_W (n := 108) (args := [va, vb, vc]) Tryd.func3 rfl Tryd.ntmps3 (Nat.le_of_ble_eq_true rfl) hG ?_
  refine sStart ?_
  refine sSeq ?_
  subst hva
  subst hvb
  subst hvc
  refine W.region ?_
  refine OpsW.det (det_assign rfl) rfl ?_
  refine sNext ?_
  refine W.keep (F' := [(0, _), (1, _), (2, _)]) ⟨rfl, rfl, rfl, trivial⟩ ?_
  refine sSeq ?_
  refine sSeq ?_
  refine W.region ?_
  refine OpsW.det (det_call en15 rfl (fun w hb ho => head_ok hh (fun p hp => ho.look (List.mem_append_right _ hp)))) rfl ?_
  refine OpsW.det (det_not rfl) rfl ?_
  refine sNext ?_
  refine W.keep (F' := [(12, _), (0, _), (1, _), (2, _)]) ⟨rfl, rfl, rfl, rfl, trivial⟩ ?_
  refine W.cond_false rfl ?_
  refine sSkip ?_
  refine sSeq ?_
  refine sSeq ?_
  refine W.region ?_
  refine OpsW.det (det_move rfl) rfl ?_
  refine OpsW.det (det_move rfl) rfl ?_
  refine OpsW.det (det_move rfl) rfl ?_
  refine OpsW.det (det_call en16 rfl (fun w hb ho => long_ok (fun p hp => ho.look (List.mem_append_right _ hp)))) rfl ?_
  refine sNext ?_
  refine W.keep (F' := [(16, _), (0, _), (1, _), (2, _)]) ⟨rfl, rfl, rfl, rfl, trivial⟩ ?_
  refine W.cond rfl (fun hc16 => ?_) (fun hc16 => ?_)
  · skip
    refine sSeq ?_
    refine W.region ?_
    refine OpsW.det (det_assign rfl) rfl ?_
    refine sNext ?_
    refine W.keep (F' := [(6, _)]) ⟨rfl, trivial⟩ ?_
    refine sRet ?_
    exact done1 Tryd.results3 (rv_tmp rfl) rfl
  · skip
    have hl := not_long hc16
    refine sSkip ?_
    refine sSeq ?_
    refine W.region ?_
    refine OpsW.det (det_call en17 rfl (fun w hb ho => Gen_ok (fun p hp => ho.look (List.mem_append_right _ hp)))) rfl ?_
    refine OpsW.det (det_move rfl) rfl ?_
    refine OpsW.det (det_call en19 rfl (fun w hb ho => scalar_ok (G' := G') ha (Nat.le_trans hl.1 (by decide)) ho.blocks)) rfl ?_
    refine OpsW.det (det_call en18 rfl (fun w hb ho => PMul_ok (fun p hp => ho.look (List.mem_append_right _ hp)))) rfl ?_
    refine OpsW.fresh (fr_alloc z30) rfl fun b7 => ?_
    refine OpsW.store sz30 rfl rfl rfl rfl rfl (Upd.here) rfl ?_
    refine sNext ?_
    refine W.keep (F' := [(7, _), (1, _), (2, _)]) ⟨rfl, rfl, rfl, trivial⟩ ?_
    refine sSeq ?_
    refine W.region ?_
    refine OpsW.det (det_call en17 rfl (fun w hb ho => Gen_ok (fun p hp => ho.look (List.mem_append_right _ hp)))) rfl ?_
    refine OpsW.det (det_move rfl) rfl ?_
    refine OpsW.det (det_call en19 rfl (fun w hb ho => scalar_ok (G' := G') hb' (Nat.le_trans hl.2.1 (by decide)) ho.blocks)) rfl ?_
    refine OpsW.det (det_call en18 rfl (fun w hb ho => PMul_ok (fun p hp => ho.look (List.mem_append_right _ hp)))) rfl ?_
    refine OpsW.fresh (fr_alloc z30) rfl fun b8 => ?_
    refine OpsW.store sz30 rfl rfl rfl rfl rfl (Upd.here) rfl ?_
    refine sNext ?_
    refine W.keep (F' := [(8, _), (7, _), (2, _)]) ⟨rfl, rfl, rfl, trivial⟩ ?_
    refine sSeq ?_
    refine W.region ?_
    refine OpsW.det (det_call en17 rfl (fun w hb ho => Gen_ok (fun p hp => ho.look (List.mem_append_right _ hp)))) rfl ?_
    refine OpsW.det (det_move rfl) rfl ?_
    refine OpsW.det (det_call en19 rfl (fun w hb ho => scalar_ok (G' := G') hc' (Nat.le_trans hl.2.2 (by decide)) ho.blocks)) rfl ?_
    refine OpsW.det (det_call en18 rfl (fun w hb ho => PMul_ok (fun p hp => ho.look (List.mem_append_right _ hp)))) rfl ?_
    refine OpsW.fresh (fr_alloc z30) rfl fun b9 => ?_
    refine OpsW.store sz30 rfl rfl rfl rfl rfl (Upd.here) rfl ?_
    refine sNext ?_
    refine W.keep (F' := [(9, _), (8, _), (7, _)]) ⟨rfl, rfl, rfl, trivial⟩ ?_
    refine sSeq ?_
    refine W.region ?_
    refine OpsW.det (det_zero bz30) rfl ?_
    refine OpsW.fresh (fr_alloc z30) rfl fun b10 => ?_
    refine OpsW.store sz30 rfl rfl rfl rfl rfl (Upd.here) rfl ?_
    refine sNext ?_
    refine W.keep (F' := [(10, _), (9, _), (8, _), (7, _)]) ⟨rfl, rfl, rfl, rfl, trivial⟩ ?_
    refine sSeq ?_
    refine sSeq ?_
    refine W.draw mixed 46 [[], [], [0, 1], [], [0, 1, 2, 3], [], [], [], [0, 1, 2, 3, 4, 6, 7], [0, 1, 2, 3, 4, 5, 6, 7, 8], [0, 1, 2, 3, 4, 5, 6, 7, 8, 9], [0, 1, 2, 3, 4, 5, 6, 7, 8, 9, 10], [0, 1, 2, 3, 4, 5, 6, 7, 8, 9, 10, 11], [0, 1, 2, 3, 4, 5, 6, 7, 8, 9, 10, 11], [0, 1, 2, 3, 4, 5, 6, 7, 8, 9, 10, 11], [0, 1, 2, 3, 4, 5, 6, 7, 8, 9, 10, 11, 12, 13, 14], [0, 1, 2, 3, 4, 5, 6, 7, 8, 9, 10, 11, 12, 13, 14, 15], [0, 1, 2, 3, 4, 5, 6, 7, 8, 9, 10, 11], [0, 1, 2, 3, 4, 5, 6, 7, 8, 9, 10, 11], [0, 1, 2, 3, 4, 5, 6, 7, 8, 9, 10, 11, 12, 13, 14, 15, 16, 17, 18], [0, 1, 2, 3, 4, 5, 6, 7, 8, 9, 10, 11], [0, 1, 2, 3, 4, 5, 6, 7, 8, 9, 10, 11, 12, 13, 14, 15, 16, 17, 18, 19, 20], [0, 1, 2, 3, 4, 5, 6, 7, 8, 9, 10, 11, 12, 13, 14, 15, 16, 17, 18, 19, 20, 21], [0, 1, 2, 3, 4, 5, 6, 7, 8, 9, 10, 11, 12, 13, 14, 15, 16, 17, 18, 19, 20, 21, 22], [0, 1, 2, 3, 4, 5, 6, 7, 8, 9, 10, 11, 12, 13, 14, 15, 16, 17, 18, 19, 20, 21, 22, 23], [0, 1, 2, 3, 4, 5, 6, 7, 8, 9, 10, 11, 12, 13, 14, 15, 16, 17, 18, 19, 20, 21, 22, 23, 24], [0, 1, 2, 3, 4, 5, 6, 7, 8, 9, 10, 11, 12, 13, 14, 15, 16, 17, 18, 19, 20, 21, 22, 23, 24], [0, 1, 2, 3, 4, 5, 6, 7, 8, 9, 10, 11, 12, 13, 14, 15, 16, 17, 18, 19, 20, 21, 22, 23, 24, 25, 26], [0, 1, 2, 3, 4, 5, 6, 7, 8, 9, 10, 11, 12, 13, 14, 15, 16, 17, 18, 19, 20, 21, 22, 23, 24], [0, 1, 2, 3, 4, 5, 6, 7, 8, 9, 10, 11, 12, 13, 14, 15, 16, 17, 18, 19, 20, 21, 22, 23, 24, 25, 26, 27, 28], [0, 1, 2, 3, 4, 5, 6, 7, 8, 9, 10, 11, 12, 13, 14, 15, 16, 17, 18, 19, 20, 21, 22, 23, 24, 25, 26, 27, 28, 29], [0, 1, 2, 3, 4, 5, 6, 7, 8, 9, 10, 11, 12, 13, 14, 15, 16, 17, 18, 19, 20, 21, 22, 23, 24, 25, 26, 27, 28, 29, 30], [0, 1, 2, 3, 4, 5, 6, 7, 8, 9, 10, 11, 12, 13, 14, 15, 16, 17, 18, 19, 20, 21, 22, 23, 24, 25, 26, 27, 28, 29, 30, 31], [0, 1, 2, 3, 4, 5, 6, 7, 8, 9, 10, 11, 12, 13, 14, 15, 16, 17, 18, 19, 20, 21, 22, 23, 24, 25, 26, 27, 28, 29, 30, 31], [0, 1, 2, 3, 4, 5, 6, 7, 8, 9, 10, 11, 12, 13, 14, 15, 16, 17, 18, 19, 20, 21, 22, 23, 24, 25, 26, 27, 28, 29, 30, 31, 32, 33], [0, 1, 2, 3, 4, 5, 6, 7, 8, 9, 10, 11, 12, 13, 14, 15, 16, 17, 18, 19, 20, 21, 22, 23, 24, 25, 26, 27, 28, 29, 30, 31], [0, 1, 2, 3, 4, 5, 6, 7, 8, 9, 10, 11, 12, 13, 14, 15, 16, 17, 18, 19, 20, 21, 22, 23, 24, 25, 26, 27, 28, 29, 30, 31, 32, 33, 34, 35], [0, 1, 2, 3, 4, 5, 6, 7, 8, 9, 10, 11, 12, 13, 14, 15, 16, 17, 18, 19, 20, 21, 22, 23, 24, 25, 26, 27, 28, 29, 30, 31, 32, 33, 34, 35, 36], [0, 1, 2, 3, 4, 5, 6, 7, 8, 9, 10, 11, 12, 13, 14, 15, 16, 17, 18, 19, 20, 21, 22, 23, 24, 25, 26, 27, 28, 29, 30, 31, 32, 33, 34, 35, 36, 37], [0, 1, 2, 3, 4, 5, 6, 7, 8, 9, 10, 11, 12, 13, 14, 15, 16, 17, 18, 19, 20, 21, 22, 23, 24, 25, 26, 27, 28, 29, 30, 31, 32, 33, 34, 35, 36, 37, 38], [0, 1, 2, 3, 4, 5, 6, 7, 8, 9, 10, 11, 12, 13, 14, 15, 16, 17, 18, 19, 20, 21, 22, 23, 24, 25, 26, 27, 28, 29, 30, 31, 32, 33, 34, 35, 36, 37, 38], [0, 1, 2, 3, 4, 5, 6, 7, 8, 9, 10, 11, 12, 13, 14, 15, 16, 17, 18, 19, 20, 21, 22, 23, 24, 25, 26, 27, 28, 29, 30, 31, 32, 33, 34, 35, 36, 37, 38, 40], [0, 1, 2, 3, 4, 5, 6, 7, 8, 9, 10, 11, 12, 13, 14, 15, 16, 17, 18, 19, 20, 21, 22, 23, 24, 25, 26, 27, 28, 29, 30, 31, 32, 33, 34, 35, 36, 37, 38, 39, 40, 41], [0, 1, 2, 3, 4, 5, 6, 7, 8, 9, 10, 11, 12, 13, 14, 15, 16, 17, 18, 19, 20, 21, 22, 23, 24, 25, 26, 27, 28, 29, 30, 31, 32, 33, 34, 35, 36, 37, 38], [0, 1, 2, 3, 4, 5, 6, 7, 8, 9, 10, 11, 12, 13, 14, 15, 16, 17, 18, 19, 20, 21, 22, 23, 24, 25, 26, 27, 28, 29, 30, 31, 32, 33, 34, 35, 36, 37, 38, 39, 40, 41, 42, 43], [0, 1, 2, 3, 4, 5, 6, 7, 8, 9, 10, 11, 12, 13, 14, 15, 16, 17, 18, 19, 20, 21, 22, 23, 24, 25, 26, 27, 28, 29, 30, 31, 32, 33, 34, 35, 36, 37, 38, 39, 40, 41, 42, 43, 44]] (cl_lt (by decide)) ?_
    refine HeadR.start (cl_lt (by decide)) ?_
    refine HeadR.det rfl (fun β hβ => (det_loadA ty30 rfl (List.Mem.tail _ (List.Mem.tail _ (List.Mem.tail _ (List.Mem.head _)))) rfl)) ?_
    refine HeadR.det rfl (fun β hβ => (det_loadA ty30 rfl (List.Mem.tail _ (List.Mem.tail _ (List.Mem.head _))) rfl)) ?_
    refine HeadR.det rfl (fun β hβ => (det_call en20 rfl (fun w hb ho => PAdd_ok (fun p hp => ho.look (List.mem_append_right _ hp))))) ?_
    refine HeadR.det rfl (fun β hβ => (det_loadA ty30 rfl (List.Mem.tail _ (List.Mem.head _)) rfl)) ?_
    refine HeadR.det rfl (fun β hβ => (det_call en20 rfl (fun w hb ho => PAdd_ok (fun p hp => ho.look (List.mem_append_right _ hp))))) ?_
    refine HeadR.det rfl (fun β hβ => (det_loadA ty30 rfl (List.Mem.tail _ (List.Mem.tail _ (List.Mem.tail _ (List.Mem.head _)))) rfl)) ?_
    refine HeadR.det rfl (fun β hβ => (det_loadA ty30 rfl (List.Mem.tail _ (List.Mem.tail _ (List.Mem.head _))) rfl)) ?_
    refine HeadR.det rfl (fun β hβ => (det_loadA ty30 rfl (List.Mem.tail _ (List.Mem.head _)) rfl)) ?_
    refine HeadR.det rfl (fun β hβ => (det_call en20 rfl (fun w hb ho => PAdd_ok (fun p hp => ho.look (List.mem_append_right _ hp))))) ?_
    refine HeadR.det rfl (fun β hβ => (det_call en20 rfl (fun w hb ho => PAdd_ok (fun p hp => ho.look (List.mem_append_right _ hp))))) ?_
    refine HeadR.det rfl (fun β hβ => ((det_neq30 (a := padd (padd (gp la) (gp lb)) (gp lc)) (b := padd (gp la) (padd (gp lb) (gp lc))) rfl rfl).to (congrArg Value.bool (nb hr.r1)))) ?_
    refine HeadR.det rfl (fun β hβ => (det_move rfl)) ?_
    refine HeadR.yes rfl rfl (fun _ _ => rfl) (fun β hβ => (det_loadA ty30 rfl (List.Mem.tail _ (List.Mem.tail _ (List.Mem.tail _ (List.Mem.head _)))) rfl)) ?_
    refine HeadR.yes rfl rfl (fun _ _ => rfl) (fun β hβ => (det_loadA ty30 rfl (List.Mem.tail _ (List.Mem.tail _ (List.Mem.head _))) rfl)) ?_
    refine HeadR.yes rfl rfl (fun _ _ => rfl) (fun β hβ => (det_loadA ty30 rfl (List.Mem.tail _ (List.Mem.head _)) rfl)) ?_
    refine HeadR.yesFresh rfl rfl (fun _ _ => rfl) (fun β hβ => (fr_buildSlice rfl (slice45 (p := gp la) (q := gp lb) (r := gp lc))).new) ?_
    refine HeadR.yes rfl rfl (fun _ _ => rfl) (fun β hβ => (det_call en21 rfl (fun w hb ho => PSum_ok (G' := [((β 45).1, blk (cellsP (gp la) ++ cellsP (gp lb) ++ cellsP (gp lc)) 30)]) pts3 (by show 3 ≤ 1000000000000; decide) (blocks_cons (hb _ (List.Mem.head _)) (fun p hp => ho.look (List.mem_append_right _ hp)))))) ?_
    refine HeadR.yes rfl rfl (fun _ _ => rfl) (fun β hβ => (det_loadA ty30 rfl (List.Mem.tail _ (List.Mem.tail _ (List.Mem.tail _ (List.Mem.head _)))) rfl)) ?_
    refine HeadR.yes rfl rfl (fun _ _ => rfl) (fun β hβ => (det_loadA ty30 rfl (List.Mem.tail _ (List.Mem.tail _ (List.Mem.head _))) rfl)) ?_
    refine HeadR.yes rfl rfl (fun _ _ => rfl) (fun β hβ => (det_call en20 rfl (fun w hb ho => PAdd_ok (fun p hp => ho.look (List.mem_append_right _ hp))))) ?_
    refine HeadR.yes rfl rfl (fun _ _ => rfl) (fun β hβ => (det_loadA ty30 rfl (List.Mem.tail _ (List.Mem.head _)) rfl)) ?_
    refine HeadR.yes rfl rfl (fun _ _ => rfl) (fun β hβ => (det_call en20 rfl (fun w hb ho => PAdd_ok (fun p hp => ho.look (List.mem_append_right _ hp))))) ?_
    refine HeadR.yes rfl rfl (fun _ _ => rfl) (fun β hβ => ((det_neq30 (a := psum [gp la, gp lb, gp lc]) (b := padd (padd (gp la) (gp lb)) (gp lc)) rfl rfl).to (congrArg Value.bool (nb hr.r2)))) ?_
    refine HeadR.det rfl (fun β hβ => (det_pick rfl rfl)) ?_
    refine HeadR.det rfl (fun β hβ => (det_move rfl)) ?_
    refine HeadR.yes rfl rfl (fun _ _ => rfl) (fun β hβ => (det_loadA ty30 rfl (List.Mem.tail _ (List.Mem.tail _ (List.Mem.tail _ (List.Mem.tail _ (List.Mem.head _))))) rfl)) ?_
    refine HeadR.yes rfl rfl (fun _ _ => rfl) (fun β hβ => (det_loadA ty30 rfl (List.Mem.tail _ (List.Mem.head _)) rfl)) ?_
    refine HeadR.yes rfl rfl (fun _ _ => rfl) (fun β hβ => (det_call en20 rfl (fun w hb ho => PAdd_ok (fun p hp => ho.look (List.mem_append_right _ hp))))) ?_
    refine HeadR.yes rfl rfl (fun _ _ => rfl) (fun β hβ => (det_loadA ty30 rfl (List.Mem.tail _ (List.Mem.tail _ (List.Mem.tail _ (List.Mem.tail _ (List.Mem.head _))))) rfl)) ?_
    refine HeadR.yes rfl rfl (fun _ _ => rfl) (fun β hβ => ((det_neq30 (a := padd (gp la) (0, 0)) (b := gp la) rfl rfl).to (congrArg Value.bool (nb hr.r3)))) ?_
    refine HeadR.det rfl (fun β hβ => (det_pick rfl rfl)) ?_
    refine HeadR.det rfl (fun β hβ => (det_move rfl)) ?_
    refine HeadR.yes rfl rfl (fun _ _ => rfl) (fun β hβ => (det_loadA ty30 rfl (List.Mem.tail _ (List.Mem.head _)) rfl)) ?_
    refine HeadR.yes rfl rfl (fun _ _ => rfl) (fun β hβ => (det_loadA ty30 rfl (List.Mem.tail _ (List.Mem.tail _ (List.Mem.tail _ (List.Mem.tail _ (List.Mem.head _))))) rfl)) ?_
    refine HeadR.yes rfl rfl (fun _ _ => rfl) (fun β hβ => (det_call en20 rfl (fun w hb ho => PAdd_ok (fun p hp => ho.look (List.mem_append_right _ hp))))) ?_
    refine HeadR.yes rfl rfl (fun _ _ => rfl) (fun β hβ => (det_loadA ty30 rfl (List.Mem.tail _ (List.Mem.tail _ (List.Mem.tail _ (List.Mem.tail _ (List.Mem.head _))))) rfl)) ?_
    refine HeadR.yes rfl rfl (fun _ _ => rfl) (fun β hβ => ((det_neq30 (a := padd (0, 0) (gp la)) (b := gp la) rfl rfl).to (congrArg Value.bool (nb hr.r4)))) ?_
    refine HeadR.det rfl (fun β hβ => (det_pick rfl rfl)) ?_
    refine HeadR.det rfl (fun β hβ => (det_move rfl)) ?_
    refine HeadR.yes rfl rfl (fun _ _ => rfl) (fun β hβ => (det_loadA ty30 rfl (List.Mem.tail _ (List.Mem.tail _ (List.Mem.tail _ (List.Mem.tail _ (List.Mem.head _))))) rfl)) ?_
    refine HeadR.yes rfl rfl (fun _ _ => rfl) (fun β hβ => (det_loadA ty30 rfl (List.Mem.tail _ (List.Mem.tail _ (List.Mem.tail _ (List.Mem.tail _ (List.Mem.head _))))) rfl)) ?_
    refine HeadR.yes rfl rfl (fun _ _ => rfl) (fun β hβ => (det_call en22 rfl (fun w hb ho => PNeg_ok (fun p hp => ho.look (List.mem_append_right _ hp))))) ?_
    refine HeadR.yes rfl rfl (fun _ _ => rfl) (fun β hβ => (det_call en20 rfl (fun w hb ho => PAdd_ok (fun p hp => ho.look (List.mem_append_right _ hp))))) ?_
    refine HeadR.yes rfl rfl (fun _ _ => rfl) (fun β hβ => (det_loadA ty30 rfl (List.Mem.tail _ (List.Mem.head _)) rfl)) ?_
    refine HeadR.yes rfl rfl (fun _ _ => rfl) (fun β hβ => ((det_neq30 (a := padd (gp la) (pneg (gp la))) (b := (0, 0)) rfl rfl).to (congrArg Value.bool (nb hr.r5)))) ?_
    refine HeadR.det rfl (fun β hβ => (det_pick rfl rfl)) ?_
    refine HeadR.done ⟨by kernel_rfl, fun β hβ => ?_⟩
    refine OpsW.norm (F' := ((30, _) :: (31, _) :: (32, _) :: (33, _) :: (34, _) :: (35, _) :: (36, _) :: (37, _) :: (38, _) :: (39, _) :: (40, _) :: (41, _) :: (42, _) :: (43, _) :: (44, _) :: (45, .slice (some ⟨(β 45).1, 0, none⟩) 3 3) :: (46, _) :: (47, _) :: (48, _) :: (49, _) :: (50, _) :: (51, _) :: (52, _) :: (53, _) :: (54, _) :: (55, _) :: (56, _) :: (57, _) :: (58, _) :: (59, _) :: (60, _) :: (61, _) :: (62, _) :: (63, _) :: (64, _) :: (65, _) :: (66, _) :: (67, _) :: (68, _) :: (69, _) :: (70, _) :: (71, _) :: (72, _) :: (73, _) :: (74, _) :: (75, _) :: (10, _) :: (9, _) :: (8, _) :: (7, _) :: [])) (H' := [(_, _), (_, _), (_, _), (_, _), (_, _)]) rfl rfl ?_
    generalize (β 45).1 = b45
    refine sNext ?_
    refine W.keep (F' := [(75, _), (10, _), (8, _), (7, _)]) ⟨rfl, rfl, rfl, rfl, trivial⟩ ?_
    refine W.cond_false rfl ?_
    refine sSkip ?_
    refine sSeq ?_
    refine W.draw mixed 33 [[], [0], [0, 1], [], [0, 1, 2, 3], [0, 1, 2, 3, 4], [0, 1, 2, 3, 4, 5], [0, 1, 2, 3, 4, 5], [0, 1, 2, 3, 4, 5, 6, 7], [0, 1, 2, 3, 4, 5, 6, 7, 8], [0, 1, 2, 3, 4, 5], [0, 1, 2, 3, 4, 5, 6, 7, 8, 9, 10], [0, 1, 2, 3, 4, 5], [0, 1, 2, 3, 4, 5, 6, 7, 8, 9, 10, 11, 12], [0, 1, 2, 3, 4, 5, 6, 7, 8, 9, 10, 11, 12, 13], [0, 1, 2, 3, 4, 5, 6, 7, 8, 9, 10, 11, 12, 13, 14], [0, 1, 2, 3, 4, 5, 6, 7, 8, 9, 10, 11, 12, 13, 14, 15], [0, 1, 2, 3, 4, 5, 6, 7, 8, 9, 10, 11, 12, 13, 14, 15, 16], [0, 1, 2, 3, 4, 5, 6, 7, 8, 9, 10, 11, 12, 13, 14, 15, 16, 17], [0, 1, 2, 3, 4, 5, 6, 7, 8, 9, 10, 11, 12, 13, 14, 15, 16, 17], [0, 1, 2, 3, 4, 5, 6, 7, 8, 9, 10, 11, 12, 13, 14, 15, 16, 17, 18, 19], [0, 1, 2, 3, 4, 5, 6, 7, 8, 9, 10, 11, 12, 13, 14, 15, 16, 17, 18, 19, 20], [0, 1, 2, 3, 4, 5, 6, 7, 8, 9, 10, 11, 12, 13, 14, 15, 16, 17, 18, 19, 20, 21], [0, 1, 2, 3, 4, 5, 6, 7, 8, 9, 10, 11, 12, 13, 14, 15, 16, 17, 18, 19, 20, 21, 22], [0, 1, 2, 3, 4, 5, 6, 7, 8, 9, 10, 11, 12, 13, 14, 15, 16, 17, 18, 19, 20, 21, 22, 23], [0, 1, 2, 3, 4, 5, 6, 7, 8, 9, 10, 11, 12, 13, 14, 15, 16, 17, 18, 19, 20, 21, 22], [0, 1, 2, 3, 4, 5, 6, 7, 8, 9, 10, 11, 12, 13, 14, 15, 16, 17, 18, 19, 20, 21, 22, 23, 24, 25], [0, 1, 2, 3, 4, 5, 6, 7, 8, 9, 10, 11, 12, 13, 14, 15, 16, 17, 18, 19, 20, 21, 22, 23, 24, 25, 26], [0, 1, 2, 3, 4, 5, 6, 7, 8, 9, 10, 11, 12, 13, 14, 15, 16, 17, 18, 19, 20, 21, 22, 23, 24, 25, 26, 27], [0, 1, 2, 3, 4, 5, 6, 7, 8, 9, 10, 11, 12, 13, 14, 15, 16, 17, 18, 19, 20, 21, 22, 23, 24, 25, 26, 27, 28], [0, 1, 2, 3, 4, 5, 6, 7, 8, 9, 10, 11, 12, 13, 14, 15, 16, 17, 18, 19, 20, 21, 22, 23, 24, 25, 26, 27, 28, 29], [0, 1, 2, 3, 4, 5, 6, 7, 8, 9, 10, 11, 12, 13, 14, 15, 16, 17, 18, 19, 20, 21, 22, 23, 24, 25, 26, 27, 28, 29, 30], [0, 1, 2, 3, 4, 5, 6, 7, 8, 9, 10, 11, 12, 13, 14, 15, 16, 17, 18, 19, 20, 21, 22, 23, 24, 25, 26, 27, 28, 29, 30, 31]] (cl_lt (by decide)) ?_
    refine HeadR.start (cl_lt (by decide)) ?_
    refine HeadR.det rfl (fun β hβ => (det_loadA ty30 rfl (List.Mem.tail _ (List.Mem.tail _ (List.Mem.tail _ (List.Mem.tail _ (List.Mem.head _))))) rfl)) ?_
    refine HeadR.det rfl (fun β hβ => (det_call en22 rfl (fun w hb ho => PNeg_ok (fun p hp => ho.look (List.mem_append_right _ hp))))) ?_
    refine HeadR.det rfl (fun β hβ => (det_call en22 rfl (fun w hb ho => PNeg_ok (fun p hp => ho.look (List.mem_append_right _ hp))))) ?_
    refine HeadR.det rfl (fun β hβ => (det_loadA ty30 rfl (List.Mem.tail _ (List.Mem.tail _ (List.Mem.tail _ (List.Mem.tail _ (List.Mem.head _))))) rfl)) ?_
    refine HeadR.det rfl (fun β hβ => ((det_eql30 (a := pneg (pneg (gp la))) (b := gp la) rfl rfl).to (congrArg Value.bool (yb hr.r6)))) ?_
    refine HeadR.det rfl (fun β hβ => (det_move rfl)) ?_
    refine HeadR.yes rfl rfl (fun _ _ => rfl) (fun β hβ => (det_loadA ty30 rfl (List.Mem.tail _ (List.Mem.tail _ (List.Mem.tail _ (List.Mem.tail _ (List.Mem.head _))))) rfl)) ?_
    refine HeadR.yes rfl rfl (fun _ _ => rfl) (fun β hβ => (det_loadA ty30 rfl (List.Mem.tail _ (List.Mem.tail _ (List.Mem.tail _ (List.Mem.head _)))) rfl)) ?_
    refine HeadR.yes rfl rfl (fun _ _ => rfl) (fun β hβ => (det_call en20 rfl (fun w hb ho => PAdd_ok (fun p hp => ho.look (List.mem_append_right _ hp))))) ?_
    refine HeadR.yes rfl rfl (fun _ _ => rfl) (fun β hβ => (det_call en22 rfl (fun w hb ho => PNeg_ok (fun p hp => ho.look (List.mem_append_right _ hp))))) ?_
    refine HeadR.yes rfl rfl (fun _ _ => rfl) (fun β hβ => (det_loadA ty30 rfl (List.Mem.tail _ (List.Mem.tail _ (List.Mem.tail _ (List.Mem.tail _ (List.Mem.head _))))) rfl)) ?_
    refine HeadR.yes rfl rfl (fun _ _ => rfl) (fun β hβ => (det_call en22 rfl (fun w hb ho => PNeg_ok (fun p hp => ho.look (List.mem_append_right _ hp))))) ?_
    refine HeadR.yes rfl rfl (fun _ _ => rfl) (fun β hβ => (det_loadA ty30 rfl (List.Mem.tail _ (List.Mem.tail _ (List.Mem.tail _ (List.Mem.head _)))) rfl)) ?_
    refine HeadR.yes rfl rfl (fun _ _ => rfl) (fun β hβ => (det_call en22 rfl (fun w hb ho => PNeg_ok (fun p hp => ho.look (List.mem_append_right _ hp))))) ?_
    refine HeadR.yes rfl rfl (fun _ _ => rfl) (fun β hβ => (det_call en20 rfl (fun w hb ho => PAdd_ok (fun p hp => ho.look (List.mem_append_right _ hp))))) ?_
    refine HeadR.yes rfl rfl (fun _ _ => rfl) (fun β hβ => ((det_eql30 (a := pneg (padd (gp la) (gp lb))) (b := padd (pneg (gp la)) (pneg (gp lb))) rfl rfl).to (congrArg Value.bool (yb hr.r7)))) ?_
    refine HeadR.det rfl (fun β hβ => (det_pick rfl rfl)) ?_
    refine HeadR.det rfl (fun β hβ => (det_move rfl)) ?_
    refine HeadR.yes rfl rfl (fun _ _ => rfl) (fun β hβ => (det_call en21 rfl (fun w hb ho => PSum_ok (G' := []) pts0 (Nat.zero_le _) (fun p hp => ho.look (List.mem_append_right _ hp))))) ?_
    refine HeadR.yes rfl rfl (fun _ _ => rfl) (fun β hβ => (det_loadA ty30 rfl (List.Mem.tail _ (List.Mem.head _)) rfl)) ?_
    refine HeadR.yes rfl rfl (fun _ _ => rfl) (fun β hβ => ((det_eql30 (a := psum []) (b := (0, 0)) rfl rfl).to (congrArg Value.bool (yb hr.r8)))) ?_
    refine HeadR.det rfl (fun β hβ => (det_pick rfl rfl)) ?_
    refine HeadR.det rfl (fun β hβ => (det_move rfl)) ?_
    refine HeadR.yes rfl rfl (fun _ _ => rfl) (fun β hβ => (det_loadA ty30 rfl (List.Mem.tail _ (List.Mem.head _)) rfl)) ?_
    refine HeadR.yes rfl rfl (fun _ _ => rfl) (fun β hβ => (det_call en22 rfl (fun w hb ho => PNeg_ok (fun p hp => ho.look (List.mem_append_right _ hp))))) ?_
    refine HeadR.yes rfl rfl (fun _ _ => rfl) (fun β hβ => (det_loadA ty30 rfl (List.Mem.tail _ (List.Mem.head _)) rfl)) ?_
    refine HeadR.yes rfl rfl (fun _ _ => rfl) (fun β hβ => ((det_eql30 (a := pneg (0, 0)) (b := (0, 0)) rfl rfl).to (congrArg Value.bool (yb hr.r9)))) ?_
    refine HeadR.det rfl (fun β hβ => (det_pick rfl rfl)) ?_
    refine HeadR.det rfl (fun β hβ => (det_move rfl)) ?_
    refine HeadR.yes rfl rfl (fun _ _ => rfl) (fun β hβ => (det_loadA ty30 rfl (List.Mem.tail _ (List.Mem.head _)) rfl)) ?_
    refine HeadR.yes rfl rfl (fun _ _ => rfl) (fun β hβ => ((det_call en23 rfl (fun w hb ho => POn_ok (p := (0, 0)) (fun p hp => ho.look (List.mem_append_right _ hp)))).to (congrArg Value.bool (hr.r10)))) ?_
    refine HeadR.det rfl (fun β hβ => (det_pick rfl rfl)) ?_
    refine HeadR.det rfl (fun β hβ => (det_assign rfl)) ?_
    refine HeadR.done ⟨by kernel_rfl, fun β hβ => ?_⟩
    refine OpsW.norm (F' := ((76, _) :: (77, _) :: (78, _) :: (79, _) :: (80, _) :: (81, _) :: (82, _) :: (83, _) :: (84, _) :: (85, _) :: (86, _) :: (87, _) :: (88, _) :: (89, _) :: (90, _) :: (91, _) :: (92, _) :: (93, _) :: (94, _) :: (95, _) :: (96, _) :: (97, _) :: (98, _) :: (99, _) :: (100, _) :: (101, _) :: (102, _) :: (103, _) :: (104, _) :: (105, _) :: (106, _) :: (107, _) :: (6, _) :: (75, _) :: (10, _) :: (8, _) :: (7, _) :: [])) (H' := [(_, _), (_, _), (_, _), (_, _), (_, _)]) rfl rfl ?_
    refine sNext ?_
    refine W.keep (F' := [(6, _)]) ⟨rfl, trivial⟩ ?_
    refine sRet ?_
    exact done1 Tryd.results3 (rv_tmp rfl) rfl

end Go.Cu

/- The first group: its points are a group, what the walks compute is its sums and multiples, and the rules that the laws ask for. -/
namespace Go.Cu
open Go.Ec
open CR
set_option linter.unusedVariables false
set_option linter.unusedSimpArgs false
set_option linter.unusedSectionVars false
set_option linter.constructorNameAsVariable false

instance fqFld : Fld Fq where
  toCR := inferInstance
  finv x := pw x (pp - 2)
  mul_finv a ha := by
    have h := fermat prime_pp ha
    rw [show pp - 1 = (pp - 2) + 1 from rfl, pw, mul_comm] at h
    exact h
  one_ne := one_ne prime_pp
instance frFld : Fld Fs where
  toCR := inferInstance
  finv x := pw x (rr - 2)
  mul_finv a ha := by
    have h := fermat prime_rr ha
    rw [show rr - 1 = (rr - 2) + 1 from rfl, pw, mul_comm] at h
    exact h
  one_ne := one_ne prime_rr
instance fourGood : Gd four where
  two := by decide +kernel
  three := by decide +kernel
  b := by decide +kernel

/-! ### Bytes and bits -/
theorem beN_at {l : List Nat} {j : Nat} (hs : ∀ c ∈ l, c < 256) (h : j < l.length) : beN l / 256 ^ j % 256 = l.getD (l.length - 1 - j) 0 := by
  obtain ⟨k, hk⟩ : ∃ k, k = l.length - 1 - j := ⟨_, rfl⟩
  have hkl : k < l.length := by omega
  rw [← hk]
  have e : l = l.take k ++ ([l[k]] ++ l.drop (k + 1)) := by
    rw [List.singleton_append, ← List.drop_eq_getElem_cons hkl, List.take_append_drop]
  have hd : (l.drop (k + 1)).length = j := by rw [List.length_drop]; omega
  have hb := beN_lt (l := l.drop (k + 1)) fun c hc => hs c (List.mem_of_mem_drop hc)
  have hc : l[k] < 256 := hs _ (List.getElem_mem hkl)
  rw [hd] at hb
  have hN : beN l = (beN (l.take k) * 256 + l[k]) * 256 ^ j + beN (l.drop (k + 1)) := by
    conv => lhs; rw [e]
    rw [beN_app, beN_app, hd, List.length_append, hd, List.length_singleton, show beN [l[k]] = l[k] by simp [beN], Nat.add_comm 1 j, Nat.pow_succ, Nat.add_mul, Nat.mul_assoc, Nat.mul_comm 256, Nat.add_assoc]
  rw [hN, Nat.mul_comm _ (256 ^ j), Nat.mul_add_div (Nat.pow_pos (by decide)), Nat.div_eq_of_lt hb, Nat.add_zero, Nat.mul_add_mod_of_lt hc, List.getD_eq_getElem?_getD, List.getElem?_eq_getElem hkl]
  rfl
theorem bit_low {M t : Nat} (h : t < 8) : M % 256 / 2 ^ t % 2 = M / 2 ^ t % 2 := by
  have : t = 0 ∨ t = 1 ∨ t = 2 ∨ t = 3 ∨ t = 4 ∨ t = 5 ∨ t = 6 ∨ t = 7 := by omega
  rcases this with rfl | rfl | rfl | rfl | rfl | rfl | rfl | rfl <;> omega
theorem bit_eq {l : List Nat} (hs : ∀ c ∈ l, c < 256) (i : Nat) : bitB l i = beN l / 2 ^ i % 2 := by
  unfold bitB
  split
  · rename_i h
    have h1 := beN_lt hs
    have h2 : 256 ^ l.length ≤ 2 ^ i := by
      rw [show 256 = 2 ^ 8 from rfl, ← Nat.pow_mul]
      exact Nat.pow_le_pow_right (by decide) h
    rw [Nat.div_eq_of_lt (by omega)]
  · rename_i h
    rw [← beN_at hs (by omega), bit_low (Nat.mod_lt _ (by decide)), Nat.div_div_eq_div_mul, show 256 = 2 ^ 8 from rfl, ← Nat.pow_mul, ← Nat.pow_add, Nat.div_add_mod]
/-- What the digits from the k-th up are worth. -/
def upv (l : List Nat) (k : Nat) : Nat := beN l / 2 ^ k + ov l k
theorem upv_step {l : List Nat} (hs : ∀ c ∈ l, c < 256) (k : Nat) : (upv l k : Int) = 2 * upv l (k + 1) + dg l k := by
  have h1 : beN l / 2 ^ k = 2 * (beN l / 2 ^ (k + 1)) + bitB l k := by
    rw [bit_eq hs, Nat.pow_succ, ← Nat.div_div_eq_div_mul]; omega
  have h2 := bitB_le l k
  have h3 := ov_le l k
  have h4 := bitB_le l (k + 1)
  unfold upv dg
  rw [h1]
  by_cases hA : bitB l k + ov l k = 1
  · by_cases hB : bitB l (k + 1) = 1
    · rw [if_pos hA, if_pos hB, ov, if_pos ⟨hA, hB⟩]; omega
    · rw [if_pos hA, if_neg hB, ov, if_neg (fun h => hB h.2)]; omega
  · rw [if_neg hA, ov, if_neg (fun h => hA h.1)]; omega
theorem upv_top {l : List Nat} (hs : ∀ c ∈ l, c < 256) : upv l (8 * l.length + 1) = 0 := by
  have h1 := beN_lt hs
  have h2 : 256 ^ l.length = 2 ^ (8 * l.length) := by rw [show 256 = 2 ^ 8 from rfl, ← Nat.pow_mul]
  have h3 : beN l / 2 ^ (8 * l.length + 1) = 0 := Nat.div_eq_of_lt (by rw [Nat.pow_succ]; omega)
  have h4 := ov_le l (8 * l.length)
  unfold upv
  rw [h3, ov, bitB_no (Nat.le_refl _), bitB_no (Nat.le_succ _), if_neg (by omega)]
  omega
theorem upv_zero (l : List Nat) : upv l 0 = beN l := by unfold upv; rw [ov]; simp

/-! ### What the walks compute -/
abbrev G1 := Gp four
theorem pneg_ok (P : G1) : pneg P.1 = (-P).1 := rfl
theorem padd_ok (P Q : G1) : padd P.1 Q.1 = (P + Q).1 := by
  have h := (gadd_ok (JOk.toj P.2) Q.2).1
  rw [gpt_toj] at h
  exact h
theorem stp_ok {j : Jac} {x : G1} (P : G1) (d : Int) (hj : JOk four j) (h : gpt j = x.1) (hd : d = 0 ∨ d = 1 ∨ d = -1) {v : Nat} (hx : x = nmul (2 * v) P) {u : Nat} (hu : (u : Int) = 2 * v + d) :
    JOk four (stp P.1 d j) ∧ gpt (stp P.1 d j) = (nmul u P).1 := by
  rcases hd with rfl | rfl | rfl
  · have e : u = 2 * v := by omega
    rw [e, ← hx]
    exact ⟨hj, h⟩
  · have e : u = 2 * v + 1 := by omega
    rw [e, nmul, ← hx]
    exact step_add P hj h
  · have e : 2 * v = u + 1 := by omega
    have h1 := step_add (-P) hj h
    have e2 : x + -P = nmul u P := by rw [hx, e, nmul, AG.aassoc, a_neg, a_zero]
    rw [e2] at h1
    exact h1
theorem dg_cases (l : List Nat) (i : Nat) : dg l i = 0 ∨ dg l i = 1 ∨ dg l i = -1 := by
  unfold dg; split
  · split <;> simp
  · simp
theorem jl_ok {l : List Nat} (hs : ∀ c ∈ l, c < 256) (P : G1) : ∀ m, m ≤ 8 * l.length + 1 → JOk four (jl l P.1 m) ∧ gpt (jl l P.1 m) = (nmul (upv l (8 * l.length + 1 - m)) P).1
  | 0, _ => by
    rw [Nat.sub_zero, upv_top hs]
    exact jzero_ok
  | m + 1, h => by
    obtain ⟨h1, h2⟩ := jl_ok hs P m (by omega)
    obtain ⟨h3, h4⟩ := step_dbl h1 h2
    have hk := upv_step hs (8 * l.length - m)
    rw [show 8 * l.length - m + 1 = 8 * l.length + 1 - m by omega] at hk
    have := stp_ok P (dg l (8 * l.length - m)) h3 h4 (dg_cases _ _) (v := upv l (8 * l.length + 1 - m)) (by rw [Nat.mul_comm 2, nmul_mul, nmul_two]) hk
    rw [show 8 * l.length + 1 - (m + 1) = 8 * l.length - m by omega]
    exact this
theorem times_ok {l : List Nat} (hs : ∀ c ∈ l, c < 256) (P : G1) : times l P.1 = (nmul (beN l) P).1 := by
  have h := (jl_ok hs P (8 * l.length + 1) (Nat.le_refl _)).2
  rw [Nat.sub_self, upv_zero] at h
  exact h
theorem beN_cons (c : Nat) (l : List Nat) : beN (c :: l) = c * 256 ^ l.length + beN l := by
  show List.foldl (fun x c => x * 256 + c) (0 * 256 + c) l = _
  rw [beN_from, Nat.zero_mul, Nat.zero_add]
theorem beN_bytes (v : Nat) : ∀ n, beN ((List.range n).map fun i => v / 256 ^ (n - 1 - i) % 256) = v % 256 ^ n
  | 0 => by simp [beN, Nat.mod_one]
  | n + 1 => by
    rw [List.range_succ_eq_map, List.map_cons, List.map_map, beN_cons]
    have e : ((fun i => v / 256 ^ (n + 1 - 1 - i) % 256) ∘ Nat.succ) = fun i => v / 256 ^ (n - 1 - i) % 256 := by
      funext i
      simp only [Function.comp]
      rw [show n + 1 - 1 - i.succ = n - 1 - i by omega]
    rw [e, beN_bytes v n, List.length_map, List.length_range, show n + 1 - 1 - 0 = n by omega, Nat.pow_succ, Nat.mod_mul]
    rw [Nat.mul_comm, Nat.add_comm]
theorem blist_val (x : Fs) : beN (blist x) = x.val := by
  have h := beN_bytes x.val 32
  have h2 : x.val < 256 ^ 32 := Nat.lt_trans x.lt (by decide)
  rw [Nat.mod_eq_of_lt h2] at h
  exact h
theorem pmul_ok (P : G1) (x : Fs) : pmul P.1 x = (nmul x.val P).1 := by
  unfold pmul
  rw [times_ok (blist_small x), blist_val]
theorem psum_ok (l : List G1) : psum (l.map (·.1)) = (l.foldl (· + ·) 0).1 := (step_sums l jzero_ok.1 jzero_ok.2).2
theorem onB_ok {p : Pt} (h : On four p) : onB p = true := by
  unfold onB
  rcases h with h | h
  · rw [decide_eq_true h]; rfl
  · rw [decide_eq_true (show p.2 * p.2 = p.1 * p.1 * p.1 + four from h), Bool.or_true]
theorem on_of {p : Pt} (h : onB p = true) : On four p := by
  unfold onB at h
  rcases Bool.or_eq_true_iff.1 h with h | h
  · exact .inl (of_decide_eq_true h)
  · exact .inr (show p.2 * p.2 = p.1 * p.1 * p.1 + four from of_decide_eq_true h)

/-! ### The generator -/
theorem gen_on : onB gen = true := by decide +kernel
/-- The generator, as an element of the curve's group. -/
def gG : G1 := ⟨gen, on_of gen_on⟩
theorem gG_order : nmul rr gG = 0 := nmul_zero_of (f := 256) (by decide) (by decide +kernel)
theorem gp_ok (l : List Nat) : gp l = (nmul (wide l).val gG).1 := pmul_ok gG (wide l)
theorem gen_ne : gen ≠ (0, 0) := by decide +kernel
theorem gen_two : gen ≠ pneg gen := by decide +kernel
theorem headOk : HeadOk where
  h1 := gen_on
  h2 := onB_ok (by rw [show gen = gG.1 from rfl, padd_ok]; exact (gG + gG).2)
  h3 := by
    rw [show gen = gG.1 from rfl, padd_ok]
    refine Bool.not_eq_true' _ ▸ decide_eq_false fun h => gen_ne ?_
    have h1 : gG + gG = gG + 0 := by rw [a_zero]; exact Gp.ext h
    exact congrArg (fun x : G1 => x.1) (a_cancel h1)
  h4 := by
    rw [show gen = gG.1 from rfl, padd_ok]
    refine Bool.not_eq_true' _ ▸ decide_eq_false fun h => gen_two ?_
    have h1 : gG + gG = 0 := Gp.ext h
    exact congrArg (fun x : G1 => x.1) (a_neg_eq h1)
  h5 := decide_eq_true (by
    rw [show gen = gG.1 from rfl, times_ok two_small, padd_ok, show beN [2] = 2 from rfl, nmul_two])
  h6 := decide_eq_true (by
    rw [show gen = gG.1 from rfl, pneg_ok, padd_ok, a_neg]; rfl)
  h7 := by decide +kernel
theorem rulesOk (P Q R : G1) : RulesOk P.1 Q.1 R.1 where
  r1 := by rw [padd_ok, padd_ok, padd_ok, padd_ok, AG.aassoc]
  r2 := by
    rw [padd_ok, padd_ok]
    have := psum_ok [P, Q, R]
    simp only [List.map_cons, List.map_nil, List.foldl_cons, List.foldl_nil, AG.zero_a] at this
    exact this
  r3 := by have := padd_ok P 0; rw [a_zero] at this; exact this
  r4 := by have := padd_ok 0 P; rw [AG.zero_a] at this; exact this
  r5 := by rw [pneg_ok, padd_ok, a_neg]; rfl
  r6 := by rw [pneg_ok, pneg_ok, a_neg_neg]
  r7 := by rw [pneg_ok, pneg_ok, padd_ok, padd_ok, pneg_ok, a_neg_add]
  r8 := psum_ok []
  r9 := rfl
  r10 := by decide +kernel
theorem rulesOk_gp (a b c : List Nat) : RulesOk (gp a) (gp b) (gp c) := by
  rw [gp_ok, gp_ok, gp_ok]; exact rulesOk _ _ _
end Go.Cu

/- What the rows of the curves' laws give their walks: the listed variables, slices of bytes; and a world for their witnesses. -/
namespace Go.Cu
open Go Go.Vm Go.RowKit Go.Proofs Go.Proofs.YtbchpfmfiokbgaaDoor Go.ChangeShapes Go.WideShapes
set_option linter.unusedVariables false
set_option linter.unusedSimpArgs false
set_option linter.unusedSectionVars false
set_option linter.constructorNameAsVariable false

theorem laid_all {W : World} (h : laidMetH Tryd.prog Rows.g1RulesRow.laid W) : ∃ T, Blocks (GH T) W := by
  have h : laidMet Tryd.prog [(_, Lib.tabData .u64 [13402431016077863595, 2210141511517208575, 7435674573564081700, 7239337960414712511, 5412103778470702295, 1873798617647539866]), (_, Lib.tabData .u64 [17644856173732828998, 754043588434789617, 10224657059481499349, 7488229067341005760, 11130996698012816685, 1267921511277847466]), (_, Lib.tabData .u64 [18446744069414584321, 6034159408538082302, 3691218898639771653, 8353516859464449352]), (_, Lib.tabData .u64 [14526898881837571181, 3129137299524312099, 419701826671360399, 524908885293268753])] W := h
  obtain ⟨t2, h2⟩ := laid_block (g := 2) (t := 26) (e := 25) (n := 6) (by kernel_rfl) (by kernel_rfl) (by kernel_rfl) (by kernel_rfl) (by kernel_rfl) (by kernel_rfl) h
  obtain ⟨t1, h1⟩ := laid_block (g := 1) (t := 26) (e := 25) (n := 6) (by kernel_rfl) (by kernel_rfl) (by kernel_rfl) (by kernel_rfl) (by kernel_rfl) (by kernel_rfl) (laid_tail h)
  obtain ⟨t3, h3⟩ := laid_block (g := 3) (t := 33) (e := 25) (n := 4) (by kernel_rfl) (by kernel_rfl) (by kernel_rfl) (by kernel_rfl) (by kernel_rfl) (by kernel_rfl) (laid_tail (laid_tail h))
  obtain ⟨t0, h0⟩ := laid_block (g := 0) (t := 33) (e := 25) (n := 4) (by kernel_rfl) (by kernel_rfl) (by kernel_rfl) (by kernel_rfl) (by kernel_rfl) (by kernel_rfl) (laid_tail (laid_tail (laid_tail h)))
  refine ⟨fun i => match i with | 0 => t0 | 1 => t1 | 2 => t2 | _ => t3, fun p hp => ?_⟩
  simp only [GH, List.mem_cons, List.not_mem_nil, or_false] at hp
  rcases hp with rfl | rfl | rfl | rfl
  · exact h0
  · exact h1
  · exact h2
  · exact h3
theorem cells5 : Tryd.prog.cellsOf 5 = 1 := by kernel_rfl
set_option maxRecDepth 100000 in
/-- A slice of bytes among the arguments. -/
theorem open_Bs {H : Type} {enc : TypeId × Value → H} {W : World} {base : Nat} {v : Value} {d : DataW H} {ps : List MemPlace} (hval : Value.okWide Tryd.prog W .any base 22 v) (h : DataW.Trod enc Tryd.prog W 0 (fun _ => true) true 22 v d ps) :
    ∃ G' l, Bs G' v l ∧ Blocks G' W := by
  rcases open_u8s (P := Tryd.prog) (t := 22) (e := 5) Tryd.underlying22 Tryd.underlying5 cells5 hval h with rfl | ⟨b, o, len, cap, cs, T, fr, zs, rfl, hb, rfl, hlc, hcm, hz, hcell⟩
  · exact ⟨[], [], ⟨⟨none, 0, rfl⟩, fun c hc => (by cases hc), fun hc => (by cases hc)⟩, fun p hp => (by cases hp)⟩
  · refine ⟨[(b, .cells cs.toArray T fr)], zs, ⟨⟨_, _, rfl⟩, hz, fun _ => ⟨b, o, cap, cs, T, fr, rfl, List.mem_singleton.2 rfl, hlc, fun i h => ?_⟩⟩, fun p hp => ?_⟩
    · rw [hcell i zs[i] (List.getElem?_eq_getElem h)]; rfl
    · rw [List.mem_singleton.1 hp]; exact hb
theorem fit_u8 {a : Int} (h : (Lit.int .u8 a).wf = true) : ∃ n : Nat, a = (n : Int) ∧ n < 256 := by
  unfold Lit.wf at h
  simp only [Bool.and_eq_true, decide_eq_true_eq] at h
  have h : 0 ≤ a ∧ a ≤ 255 := h
  exact ⟨a.toNat, by omega, by omega⟩
theorem fit_u16 {a : Int} (h : (Lit.int .u16 a).wf = true) : ∃ n : Nat, a = (n : Int) ∧ n < 65536 := by
  unfold Lit.wf at h
  simp only [Bool.and_eq_true, decide_eq_true_eq] at h
  have h : 0 ≤ a ∧ a ≤ 65535 := h
  exact ⟨a.toNat, by omega, by omega⟩
/-- A world for the witnesses. -/
noncomputable def laidWorld (os : Os) : World :=
  { World.holding Tryd.prog os ⟨#[], #[], []⟩ with heap := (((((World.holding Tryd.prog os ⟨#[], #[], []⟩).heap.modify 0 fun
      | .cells _ t frozen => .cells glo0.toArray t frozen
      | o => o).modify 1 fun
      | .cells _ t frozen => .cells glo1.toArray t frozen
      | o => o).modify 2 fun
      | .cells _ t frozen => .cells glo2.toArray t frozen
      | o => o).modify 3 fun
      | .cells _ t frozen => .cells glo3.toArray t frozen
      | o => o) }
/-- What the rows' readings ask of the program's types. -/
theorem laidOut : laidOutB Tryd.prog = true := by kernel_rfl
theorem own : ownKnob Tryd.prog.godebug = none := by kernel_rfl
end Go.Cu

/- The field with i: numbers a + b i, their sums and products, inverses; how Go lays them, and when two of them are equal in Go. -/
namespace Go.Cu
open Go Go.Ec Go.Vm Go.RowKit Go.Proofs
set_option linter.unusedVariables false
set_option linter.unusedSimpArgs false
set_option linter.unusedSectionVars false
attribute [local irreducible] W OpsW Det Fresh New Writes Vm.Pure Makes Changes ExternTo BuildTo ZeroTo FieldTo IndexTo BinTo SliceTo Vm.Enters
open CR

/-- a + b i, where i i = -1. -/
structure Fq2 where
  a : Fq
  b : Fq
theorem Fq2.ext : ∀ {x y : Fq2}, x.a = y.a → x.b = y.b → x = y
  | ⟨_, _⟩, ⟨_, _⟩, rfl, rfl => rfl
theorem Fq2.ext_iff {x y : Fq2} : x = y ↔ x.a = y.a ∧ x.b = y.b := ⟨fun h => by rw [h]; exact ⟨rfl, rfl⟩, fun h => Fq2.ext h.1 h.2⟩
instance : DecidableEq Fq2 := fun x y => decidable_of_iff (x.a = y.a ∧ x.b = y.b) Fq2.ext_iff.symm
instance : CR Fq2 where
  add x y := ⟨x.a + y.a, x.b + y.b⟩
  mul x y := ⟨x.a * y.a - x.b * y.b, (x.a + x.b) * (y.a + y.b) - x.a * y.a - x.b * y.b⟩
  neg x := ⟨-x.a, -x.b⟩
  sub x y := ⟨x.a - y.a, x.b - y.b⟩
  zero := ⟨0, 0⟩
  one := ⟨1, 0⟩
  add_comm u v := Fq2.ext (add_comm _ _) (add_comm _ _)
  add_assoc u v w := Fq2.ext (add_assoc _ _ _) (add_assoc _ _ _)
  zero_add u := Fq2.ext (zero_add _) (zero_add _)
  neg_add u := Fq2.ext (neg_add _) (neg_add _)
  sub_eq u v := Fq2.ext (sub_eq _ _) (sub_eq _ _)
  mul_comm u v := Fq2.ext (show ((u.a * v.a) - (u.b * v.b)) = ((v.a * u.a) - (v.b * u.b)) from ring_id (fun vi_ => vget vi_ [u.a, u.b, v.a, v.b]) (.sub (.mul (.var 0) (.var 2)) (.mul (.var 1) (.var 3))) (.sub (.mul (.var 2) (.var 0)) (.mul (.var 3) (.var 1))) (by kernel_rfl)) (show ((((u.a + u.b) * (v.a + v.b)) - (u.a * v.a)) - (u.b * v.b)) = ((((v.a + v.b) * (u.a + u.b)) - (v.a * u.a)) - (v.b * u.b)) from ring_id (fun vi_ => vget vi_ [u.a, u.b, v.a, v.b]) (.sub (.sub (.mul (.add (.var 0) (.var 1)) (.add (.var 2) (.var 3))) (.mul (.var 0) (.var 2))) (.mul (.var 1) (.var 3))) (.sub (.sub (.mul (.add (.var 2) (.var 3)) (.add (.var 0) (.var 1))) (.mul (.var 2) (.var 0))) (.mul (.var 3) (.var 1))) (by kernel_rfl))
  mul_assoc u v w := Fq2.ext (show ((((u.a * v.a) - (u.b * v.b)) * w.a) - (((((u.a + u.b) * (v.a + v.b)) - (u.a * v.a)) - (u.b * v.b)) * w.b)) = ((u.a * ((v.a * w.a) - (v.b * w.b))) - (u.b * ((((v.a + v.b) * (w.a + w.b)) - (v.a * w.a)) - (v.b * w.b)))) from ring_id (fun vi_ => vget vi_ [u.a, u.b, v.a, v.b, w.a, w.b]) (.sub (.mul (.sub (.mul (.var 0) (.var 2)) (.mul (.var 1) (.var 3))) (.var 4)) (.mul (.sub (.sub (.mul (.add (.var 0) (.var 1)) (.add (.var 2) (.var 3))) (.mul (.var 0) (.var 2))) (.mul (.var 1) (.var 3))) (.var 5))) (.sub (.mul (.var 0) (.sub (.mul (.var 2) (.var 4)) (.mul (.var 3) (.var 5)))) (.mul (.var 1) (.sub (.sub (.mul (.add (.var 2) (.var 3)) (.add (.var 4) (.var 5))) (.mul (.var 2) (.var 4))) (.mul (.var 3) (.var 5))))) (by kernel_rfl))
    (show ((((((u.a * v.a) - (u.b * v.b)) + ((((u.a + u.b) * (v.a + v.b)) - (u.a * v.a)) - (u.b * v.b))) * (w.a + w.b)) - (((u.a * v.a) - (u.b * v.b)) * w.a)) - (((((u.a + u.b) * (v.a + v.b)) - (u.a * v.a)) - (u.b * v.b)) * w.b)) = ((((u.a + u.b) * (((v.a * w.a) - (v.b * w.b)) + ((((v.a + v.b) * (w.a + w.b)) - (v.a * w.a)) - (v.b * w.b)))) - (u.a * ((v.a * w.a) - (v.b * w.b)))) - (u.b * ((((v.a + v.b) * (w.a + w.b)) - (v.a * w.a)) - (v.b * w.b)))) from ring_id (fun vi_ => vget vi_ [u.a, u.b, v.a, v.b, w.a, w.b]) (.sub (.sub (.mul (.add (.sub (.mul (.var 0) (.var 2)) (.mul (.var 1) (.var 3))) (.sub (.sub (.mul (.add (.var 0) (.var 1)) (.add (.var 2) (.var 3))) (.mul (.var 0) (.var 2))) (.mul (.var 1) (.var 3)))) (.add (.var 4) (.var 5))) (.mul (.sub (.mul (.var 0) (.var 2)) (.mul (.var 1) (.var 3))) (.var 4))) (.mul (.sub (.sub (.mul (.add (.var 0) (.var 1)) (.add (.var 2) (.var 3))) (.mul (.var 0) (.var 2))) (.mul (.var 1) (.var 3))) (.var 5))) (.sub (.sub (.mul (.add (.var 0) (.var 1)) (.add (.sub (.mul (.var 2) (.var 4)) (.mul (.var 3) (.var 5))) (.sub (.sub (.mul (.add (.var 2) (.var 3)) (.add (.var 4) (.var 5))) (.mul (.var 2) (.var 4))) (.mul (.var 3) (.var 5))))) (.mul (.var 0) (.sub (.mul (.var 2) (.var 4)) (.mul (.var 3) (.var 5))))) (.mul (.var 1) (.sub (.sub (.mul (.add (.var 2) (.var 3)) (.add (.var 4) (.var 5))) (.mul (.var 2) (.var 4))) (.mul (.var 3) (.var 5))))) (by kernel_rfl))
  one_mul u := Fq2.ext (show ((1 * u.a) - (0 * u.b)) = u.a from ring_id (fun vi_ => vget vi_ [u.a, u.b]) (.sub (.mul .one (.var 0)) (.mul .zero (.var 1))) (.var 0) (by kernel_rfl)) (show ((((1 + 0) * (u.a + u.b)) - (1 * u.a)) - (0 * u.b)) = u.b from ring_id (fun vi_ => vget vi_ [u.a, u.b]) (.sub (.sub (.mul (.add .one .zero) (.add (.var 0) (.var 1))) (.mul .one (.var 0))) (.mul .zero (.var 1))) (.var 1) (by kernel_rfl))
  mul_add u v w := Fq2.ext (show ((u.a * (v.a + w.a)) - (u.b * (v.b + w.b))) = (((u.a * v.a) - (u.b * v.b)) + ((u.a * w.a) - (u.b * w.b))) from ring_id (fun vi_ => vget vi_ [u.a, u.b, v.a, v.b, w.a, w.b]) (.sub (.mul (.var 0) (.add (.var 2) (.var 4))) (.mul (.var 1) (.add (.var 3) (.var 5)))) (.add (.sub (.mul (.var 0) (.var 2)) (.mul (.var 1) (.var 3))) (.sub (.mul (.var 0) (.var 4)) (.mul (.var 1) (.var 5)))) (by kernel_rfl))
    (show ((((u.a + u.b) * ((v.a + w.a) + (v.b + w.b))) - (u.a * (v.a + w.a))) - (u.b * (v.b + w.b))) = (((((u.a + u.b) * (v.a + v.b)) - (u.a * v.a)) - (u.b * v.b)) + ((((u.a + u.b) * (w.a + w.b)) - (u.a * w.a)) - (u.b * w.b))) from ring_id (fun vi_ => vget vi_ [u.a, u.b, v.a, v.b, w.a, w.b]) (.sub (.sub (.mul (.add (.var 0) (.var 1)) (.add (.add (.var 2) (.var 4)) (.add (.var 3) (.var 5)))) (.mul (.var 0) (.add (.var 2) (.var 4)))) (.mul (.var 1) (.add (.var 3) (.var 5)))) (.add (.sub (.sub (.mul (.add (.var 0) (.var 1)) (.add (.var 2) (.var 3))) (.mul (.var 0) (.var 2))) (.mul (.var 1) (.var 3))) (.sub (.sub (.mul (.add (.var 0) (.var 1)) (.add (.var 4) (.var 5))) (.mul (.var 0) (.var 4))) (.mul (.var 1) (.var 5)))) (by kernel_rfl))
def norm2 (x : Fq2) : Fq := x.a * x.a + x.b * x.b
def conj2 (x : Fq2) : Fq2 := ⟨x.a, 0 - x.b⟩
def scale2 (x : Fq2) (k : Fq) : Fq2 := ⟨x.a * k, x.b * k⟩
def inv2 (x : Fq2) : Fq2 := scale2 (conj2 x) (inv (norm2 x))
def small (a b : Nat) : Fq2 := ⟨Zp.of a, Zp.of b⟩
theorem sq_no_neg (x : Fq) : x * x + 1 ≠ 0 := by
  intro h
  have hx : x ≠ 0 := by
    rintro rfl
    rw [mul_zero', zero_add] at h
    exact one_ne prime_pp h
  have h1 := fermat prime_pp hx
  have h2 : x * x = -1 := (eq_of_sub (Eq.trans (show ((x * x) - (-1)) = (1 * (((x * x) + 1) - 0)) from ring_id (fun vi_ => vget vi_ [x]) (.sub (.mul (.var 0) (.var 0)) (.neg .one)) (.mul .one (.sub (.add (.mul (.var 0) (.var 0)) .one) .zero)) (by kernel_rfl)) (lz h)))
  obtain ⟨k, hk⟩ : ∃ k, pp - 1 = 2 * (2 * k + 1) := ⟨(pp - 3) / 4, by decide +kernel⟩
  rw [hk, pw_mul, show pw x 2 = x * x by rw [pw, pw, pw, one_mul], h2, pw, pw_mul, show pw (-1 : Fq) 2 = 1 from by decide +kernel, one_pw, one_mul] at h1
  exact absurd h1 (by decide +kernel)
theorem norm2_ne {x : Fq2} (hx : x ≠ 0) : norm2 x ≠ 0 := by
  intro h
  have h : x.a * x.a + x.b * x.b = 0 := h
  by_cases hb : x.b = 0
  · rw [hb, mul_zero', add_zero'] at h
    have ha : x.a = 0 := Classical.byContradiction fun ha => Fld.mul_ne ha ha h
    exact hx (Fq2.ext ha hb)
  · have hi := Fld.mul_finv x.b hb
    generalize Fld.finv x.b = v at hi
    refine sq_no_neg (x.a * v) ?_
    exact (eq_of_sub (Eq.trans (show ((((x.a * v) * (x.a * v)) + 1) - 0) = (((v * v) * (((x.a * x.a) + (x.b * x.b)) - 0)) + ((-((x.b * v) + 1)) * ((x.b * v) - 1))) from ring_id (fun vi_ => vget vi_ [x.a, x.b, v]) (.sub (.add (.mul (.mul (.var 0) (.var 2)) (.mul (.var 0) (.var 2))) .one) .zero) (.add (.mul (.mul (.var 2) (.var 2)) (.sub (.add (.mul (.var 0) (.var 0)) (.mul (.var 1) (.var 1))) .zero)) (.mul (.neg (.add (.mul (.var 1) (.var 2)) .one)) (.sub (.mul (.var 1) (.var 2)) .one))) (by kernel_rfl)) (lz2 (lz h) (lz hi))))
instance fq2Fld : Fld Fq2 where
  toCR := inferInstance
  finv := inv2
  mul_finv x hx := by
    have hi := Fld.mul_finv (norm2 x) (norm2_ne hx)
    have hi : (x.a * x.a + x.b * x.b) * inv (norm2 x) = 1 := hi
    show (⟨x.a * (x.a * inv (norm2 x)) - x.b * ((0 - x.b) * inv (norm2 x)), (x.a + x.b) * (x.a * inv (norm2 x) + (0 - x.b) * inv (norm2 x)) - x.a * (x.a * inv (norm2 x)) - x.b * ((0 - x.b) * inv (norm2 x))⟩ : Fq2) = ⟨1, 0⟩
    generalize inv (norm2 x) = n at hi
    refine Fq2.ext ?_ ?_
    · exact (eq_of_sub (Eq.trans (show (((x.a * (x.a * n)) - (x.b * ((0 - x.b) * n))) - 1) = (1 * ((((x.a * x.a) + (x.b * x.b)) * n) - 1)) from ring_id (fun vi_ => vget vi_ [x.a, x.b, n]) (.sub (.sub (.mul (.var 0) (.mul (.var 0) (.var 2))) (.mul (.var 1) (.mul (.sub .zero (.var 1)) (.var 2)))) .one) (.mul .one (.sub (.mul (.add (.mul (.var 0) (.var 0)) (.mul (.var 1) (.var 1))) (.var 2)) .one)) (by kernel_rfl)) (lz hi)))
    · exact (show ((((x.a + x.b) * ((x.a * n) + ((0 - x.b) * n))) - (x.a * (x.a * n))) - (x.b * ((0 - x.b) * n))) = 0 from ring_id (fun vi_ => vget vi_ [x.a, x.b, n]) (.sub (.sub (.mul (.add (.var 0) (.var 1)) (.add (.mul (.var 0) (.var 2)) (.mul (.sub .zero (.var 1)) (.var 2)))) (.mul (.var 0) (.mul (.var 0) (.var 2)))) (.mul (.var 1) (.mul (.sub .zero (.var 1)) (.var 2)))) .zero (by kernel_rfl))
  one_ne h := one_ne prime_pp (congrArg Fq2.a h)
theorem sq2 (x : Fq2) : (⟨(x.a + x.b) * (x.a - x.b), x.a * x.b + x.a * x.b⟩ : Fq2) = x * x :=
  Fq2.ext (show ((x.a + x.b) * (x.a - x.b)) = ((x.a * x.a) - (x.b * x.b)) from ring_id (fun vi_ => vget vi_ [x.a, x.b]) (.mul (.add (.var 0) (.var 1)) (.sub (.var 0) (.var 1))) (.sub (.mul (.var 0) (.var 0)) (.mul (.var 1) (.var 1))) (by kernel_rfl)) (show ((x.a * x.b) + (x.a * x.b)) = ((((x.a + x.b) * (x.a + x.b)) - (x.a * x.a)) - (x.b * x.b)) from ring_id (fun vi_ => vget vi_ [x.a, x.b]) (.add (.mul (.var 0) (.var 1)) (.mul (.var 0) (.var 1))) (.sub (.sub (.mul (.add (.var 0) (.var 1)) (.add (.var 0) (.var 1))) (.mul (.var 0) (.var 0))) (.mul (.var 1) (.var 1))) (by kernel_rfl))
end Go.Cu
namespace Go.Cw
open Go Go.Cu Go.Ec Go.Vm Go.RowKit Go.Proofs
attribute [local irreducible] W OpsW Det Fresh New Writes Vm.Pure Makes Changes ExternTo BuildTo ZeroTo FieldTo IndexTo BinTo SliceTo Vm.Enters
def cellsF (x : Fq2) : List Value := Cu.cellsF x.a ++ Cu.cellsF x.b
def encF (x : Fq2) : Value := .agg (cellsF x).toArray
abbrev Pt := Fq2 × Fq2
abbrev Jac := Fq2 × Fq2 × Fq2
def encP (p : Pt) : Value := .agg (cellsF p.1 ++ cellsF p.2).toArray
def encJ (p : Jac) : Value := .agg (cellsF p.1 ++ cellsF p.2.1 ++ cellsF p.2.2).toArray
def cellsJ (j : Jac) : List Value := cellsF j.1 ++ cellsF j.2.1 ++ cellsF j.2.2
def cellsP (p : Pt) : List Value := cellsF p.1 ++ cellsF p.2
theorem eqTo57 (d : Nat) (x y : Fq2) : EqTo Tryd.prog (d + 4) 57 (encF x) (encF y) (decide (x = y)) := by
  have h := eq_two (P := Tryd.prog) (d := d + 3) (t := 57) (xs := (Cu.cellsF x.a ++ Cu.cellsF x.b).toArray) (ys := (Cu.cellsF y.a ++ Cu.cellsF y.b).toArray) (by kernel_rfl) (by kernel_rfl) (nm := "A") (ft := 28) (off := 0) (nm' := "B") (ft' := 28) (off' := 6) (by kernel_rfl) (by decide) (by decide)
    (fun w => by kernel_rfl) (fun w => by kernel_rfl) (eqTo28 d x.a y.a) (fun w => by kernel_rfl) (fun w => by kernel_rfl) (eqTo28 d x.b y.b)
  have hb : (decide (x.a = y.a) && decide (x.b = y.b)) = decide (x = y) := by
    rw [Bool.eq_iff_iff]; simp [Fq2.ext_iff]
  rw [hb] at h
  exact h
theorem eqTo59 (d : Nat) (p q : Pt) : EqTo Tryd.prog (d + 5) 59 (encP p) (encP q) (decide (p = q)) := by
  have h := eq_two (P := Tryd.prog) (d := d + 4) (t := 59) (xs := (cellsF p.1 ++ cellsF p.2).toArray) (ys := (cellsF q.1 ++ cellsF q.2).toArray) (by kernel_rfl) (by kernel_rfl) (nm := "X") (ft := 57) (off := 0) (nm' := "Y") (ft' := 57) (off' := 12) (by kernel_rfl) (by decide) (by decide)
    (fun w => by kernel_rfl) (fun w => by kernel_rfl) (eqTo57 d p.1 q.1) (fun w => by kernel_rfl) (fun w => by kernel_rfl) (eqTo57 d p.2 q.2)
  have hb : (decide (p.1 = q.1) && decide (p.2 = q.2)) = decide (p = q) := by
    rw [Bool.eq_iff_iff]; simp [Prod.ext_iff]
  rw [hb] at h
  exact h
theorem eq57 {x y : Operand} {a b : Fq2} : BinTo Tryd.prog .eql 57 x y (encF a) (encF b) (.bool (decide (a = b))) := bin_of_eq (by kernel_rfl) (eqTo57 9996 a b)
theorem ne57 {x y : Operand} {a b : Fq2} : BinTo Tryd.prog .neq 57 x y (encF a) (encF b) (.bool (!decide (a = b))) := bin_of_ne (by kernel_rfl) (eqTo57 9996 a b)
theorem eq59 {x y : Operand} {a b : Pt} : BinTo Tryd.prog .eql 59 x y (encP a) (encP b) (.bool (decide (a = b))) := bin_of_eq (by kernel_rfl) (eqTo59 9995 a b)
theorem ne59 {x y : Operand} {a b : Pt} : BinTo Tryd.prog .neq 59 x y (encP a) (encP b) (.bool (!decide (a = b))) := bin_of_ne (by kernel_rfl) (eqTo59 9995 a b)
section
variable {K : List Nat} {G : Hp} {w0 : World} {d : Option Tmp} {ty xt yt : TypeId} {pos : String} {after : Array Edge} {g : Option (Nat × Bool)} {F : Fr} {H : Hp} {x y : Operand}
theorem det_eql57 {a b : Fq2} (hx : ev F x = some (encF a)) (hy : ev F y = some (encF b)) : Det Tryd.prog K G w0 ⟨d, .binOp .eql 57 x y yt, ty, pos, after, g⟩ F H (.bool (decide (a = b))) := det_binTo hx hy eq57
theorem det_neq57 {a b : Fq2} (hx : ev F x = some (encF a)) (hy : ev F y = some (encF b)) : Det Tryd.prog K G w0 ⟨d, .binOp .neq 57 x y yt, ty, pos, after, g⟩ F H (.bool (!decide (a = b))) := det_binTo hx hy ne57
theorem det_eql59 {a b : Pt} (hx : ev F x = some (encP a)) (hy : ev F y = some (encP b)) : Det Tryd.prog K G w0 ⟨d, .binOp .eql 59 x y yt, ty, pos, after, g⟩ F H (.bool (decide (a = b))) := det_binTo hx hy eq59
theorem det_neq59 {a b : Pt} (hx : ev F x = some (encP a)) (hy : ev F y = some (encP b)) : Det Tryd.prog K G w0 ⟨d, .binOp .neq 59 x y yt, ty, pos, after, g⟩ F H (.bool (!decide (a = b))) := det_binTo hx hy ne59
theorem z57r : TyZ Tryd.prog 57 (encF 0) (cellsF 0) := ⟨fun _ => by kernel_rfl, rfl⟩
theorem tyW57 : TyA Tryd.prog 57 12 := ⟨by kernel_rfl, by kernel_rfl⟩
theorem szW57 : sizeIn Tryd.prog 57 = some 12 := by kernel_rfl
theorem det_loadW57 {p : Fq2} {b e : Nat} {fr : Nat × Nat} (hx : ev F x = some (.pointer (some ⟨b, 0, none⟩))) (hm : (b, Obj.cells (cellsF p).toArray e fr) ∈ H) : Det Tryd.prog K G w0 ⟨d, .load 57 x, ty, pos, after, g⟩ F H (encF p) := det_loadW tyW57 rfl hx hm
theorem fr_boxW57 {p : Fq2} (hx : ev F x = some (encF p)) : Fresh Tryd.prog K G w0 ⟨d, .box 57 x, ty, pos, after, g⟩ F (fun b => .pointer (some ⟨b, 0, none⟩)) (blk (cellsF p) 57) := fr_box hx rfl
theorem OpsW.storeW57 {n : Nat} {ops : Array Oper} {rest : List Oper} {R : Fr → Hp → Prop} {H' : Hp} {p q : Fq2} {b e : Nat} (hx : ev F x = some (.pointer (some ⟨b, 0, none⟩))) (hy : ev F y = some (encF p)) (hu : Upd H b (blk (cellsF q) e) (blk (cellsF p) e) H') (h : OpsW Tryd.prog n K G w0 ops rest R F H') :
    OpsW Tryd.prog n K G w0 ops (⟨none, .store 57 x y, ty, pos, after, none⟩ :: rest) R F H := Vm.OpsW.storeW szW57 rfl rfl rfl hx hy hu h
theorem z59r : TyZ Tryd.prog 59 (encP (0, 0)) (cellsP (0, 0)) := ⟨fun _ => by kernel_rfl, rfl⟩
theorem tyW59 : TyA Tryd.prog 59 24 := ⟨by kernel_rfl, by kernel_rfl⟩
theorem szW59 : sizeIn Tryd.prog 59 = some 24 := by kernel_rfl
theorem det_loadW59 {p : Pt} {b e : Nat} {fr : Nat × Nat} (hx : ev F x = some (.pointer (some ⟨b, 0, none⟩))) (hm : (b, Obj.cells (cellsP p).toArray e fr) ∈ H) : Det Tryd.prog K G w0 ⟨d, .load 59 x, ty, pos, after, g⟩ F H (encP p) := det_loadW tyW59 rfl hx hm
theorem fr_boxW59 {p : Pt} (hx : ev F x = some (encP p)) : Fresh Tryd.prog K G w0 ⟨d, .box 59 x, ty, pos, after, g⟩ F (fun b => .pointer (some ⟨b, 0, none⟩)) (blk (cellsP p) 59) := fr_box hx rfl
theorem OpsW.storeW59 {n : Nat} {ops : Array Oper} {rest : List Oper} {R : Fr → Hp → Prop} {H' : Hp} {p q : Pt} {b e : Nat} (hx : ev F x = some (.pointer (some ⟨b, 0, none⟩))) (hy : ev F y = some (encP p)) (hu : Upd H b (blk (cellsP q) e) (blk (cellsP p) e) H') (h : OpsW Tryd.prog n K G w0 ops rest R F H') :
    OpsW Tryd.prog n K G w0 ops (⟨none, .store 59 x y, ty, pos, after, none⟩ :: rest) R F H := Vm.OpsW.storeW szW59 rfl rfl rfl hx hy hu h
theorem z94r : TyZ Tryd.prog 94 (encJ (0, 0, 0)) (cellsJ (0, 0, 0)) := ⟨fun _ => by kernel_rfl, rfl⟩
theorem tyW94 : TyA Tryd.prog 94 36 := ⟨by kernel_rfl, by kernel_rfl⟩
theorem szW94 : sizeIn Tryd.prog 94 = some 36 := by kernel_rfl
theorem det_loadW94 {p : Jac} {b e : Nat} {fr : Nat × Nat} (hx : ev F x = some (.pointer (some ⟨b, 0, none⟩))) (hm : (b, Obj.cells (cellsJ p).toArray e fr) ∈ H) : Det Tryd.prog K G w0 ⟨d, .load 94 x, ty, pos, after, g⟩ F H (encJ p) := det_loadW tyW94 rfl hx hm
theorem fr_boxW94 {p : Jac} (hx : ev F x = some (encJ p)) : Fresh Tryd.prog K G w0 ⟨d, .box 94 x, ty, pos, after, g⟩ F (fun b => .pointer (some ⟨b, 0, none⟩)) (blk (cellsJ p) 94) := fr_box hx rfl
theorem OpsW.storeW94 {n : Nat} {ops : Array Oper} {rest : List Oper} {R : Fr → Hp → Prop} {H' : Hp} {p q : Jac} {b e : Nat} (hx : ev F x = some (.pointer (some ⟨b, 0, none⟩))) (hy : ev F y = some (encJ p)) (hu : Upd H b (blk (cellsJ q) e) (blk (cellsJ p) e) H') (h : OpsW Tryd.prog n K G w0 ops rest R F H') :
    OpsW Tryd.prog n K G w0 ops (⟨none, .store 94 x y, ty, pos, after, none⟩ :: rest) R F H := Vm.OpsW.storeW szW94 rfl rfl rfl hx hy hu h
def cellsR (x : Fs) : List Value := w4 (lim (montr x))
theorem z35r : TyZ Tryd.prog 35 (encR 0) (cellsR 0) := ⟨fun _ => by kernel_rfl, rfl⟩
theorem tyW35 : TyA Tryd.prog 35 4 := ⟨by kernel_rfl, by kernel_rfl⟩
theorem szW35 : sizeIn Tryd.prog 35 = some 4 := by kernel_rfl
theorem det_loadW35 {p : Fs} {b e : Nat} {fr : Nat × Nat} (hx : ev F x = some (.pointer (some ⟨b, 0, none⟩))) (hm : (b, Obj.cells (cellsR p).toArray e fr) ∈ H) : Det Tryd.prog K G w0 ⟨d, .load 35 x, ty, pos, after, g⟩ F H (encR p) := det_loadW tyW35 rfl hx hm
theorem fr_boxW35 {p : Fs} (hx : ev F x = some (encR p)) : Fresh Tryd.prog K G w0 ⟨d, .box 35 x, ty, pos, after, g⟩ F (fun b => .pointer (some ⟨b, 0, none⟩)) (blk (cellsR p) 35) := fr_box hx rfl
theorem OpsW.storeW35 {n : Nat} {ops : Array Oper} {rest : List Oper} {R : Fr → Hp → Prop} {H' : Hp} {p q : Fs} {b e : Nat} (hx : ev F x = some (.pointer (some ⟨b, 0, none⟩))) (hy : ev F y = some (encR p)) (hu : Upd H b (blk (cellsR q) e) (blk (cellsR p) e) H') (h : OpsW Tryd.prog n K G w0 ops rest R F H') :
    OpsW Tryd.prog n K G w0 ops (⟨none, .store 35 x y, ty, pos, after, none⟩ :: rest) R F H := Vm.OpsW.storeW szW35 rfl rfl rfl hx hy hu h
end
end Go.Cw

/- The field with i: what its functions compute: the walks. Conditions: none. -/
namespace Go.Cw
open Go Go.Vm Go.RowKit Go.Proofs Go.Cu
attribute [local irreducible] W OpsW Det Fresh New Writes Vm.Pure Makes Changes ExternTo BuildTo ZeroTo FieldTo IndexTo BinTo SliceTo Vm.Enters
set_option linter.unusedVariables false
set_option linter.unusedSimpArgs false
variable {T : Nat → TypeId × Nat × Nat}

theorem bld57 {a b : Fq} : BuildTo Tryd.prog 57 [(0, Cu.encF a), (1, Cu.encF b)] (encF ⟨a, b⟩) := BuildTo.of fun _ => by kernel_rfl
theorem bz57 : ZeroTo Tryd.prog 57 (encF 0) := ZeroTo.of fun _ => by kernel_rfl
theorem en101 : Vm.Enters Tryd.prog 101 := Vm.Enters.of fun _ _ => by kernel_rfl
theorem en102 : Vm.Enters Tryd.prog 102 := Vm.Enters.of fun _ _ => by kernel_rfl
theorem en103 : Vm.Enters Tryd.prog 103 := Vm.Enters.of fun _ _ => by kernel_rfl
theorem en84 : Vm.Enters Tryd.prog 84 := Vm.Enters.of fun _ _ => by kernel_rfl
theorem fl57_0 : TyF Tryd.prog 57 0 0 6 := ⟨⟨28, by kernel_rfl, by kernel_rfl⟩, by decide⟩
theorem fl57_1 : TyF Tryd.prog 57 1 6 6 := ⟨⟨28, by kernel_rfl, by kernel_rfl⟩, by decide⟩
theorem sz57 : sizeIn Tryd.prog 57 = some 12 := by kernel_rfl
theorem ty57 : TyA Tryd.prog 57 12 := ⟨by kernel_rfl, by kernel_rfl⟩
theorem Add_ok {x y : Fq2} {w : World} (hG : Blocks (GH T) w)  : Vm.Pure Tryd.prog 47 #[encF x, encF y] w (encF (x + y)) := by
  refine pure_of_W (n := 16) (args := [encF x, encF y]) Tryd.func47 rfl Tryd.ntmps47 (Nat.le_of_ble_eq_true rfl) hG ?_
  refine sStart ?_
  refine sSeq ?_
  refine W.region ?_
  refine OpsW.fresh (fr_boxW57 rfl) rfl fun b2 => ?_
  refine OpsW.fresh (fr_boxW57 rfl) rfl fun b3 => ?_
  refine OpsW.fresh (fr_alloc z57r) rfl fun b4 => ?_
  refine sNext ?_
  refine W.keep (F' := [(4, _), (3, _), (2, _)]) ⟨rfl, rfl, rfl, trivial⟩ ?_
  refine sSeq ?_
  refine W.draw mixed 11 [[], [0], [], [2], [0, 1, 2, 3], [], [5], [], [7], [0, 1, 2, 3, 4, 5, 6, 7, 8], [0, 1, 2, 3, 4, 5, 6, 7, 8, 9], [0, 1, 2, 3, 4, 5, 6, 7, 8, 9, 10]] (cl_lt (by decide)) ?_
  refine HeadR.start (cl_lt (by decide)) ?_
  refine HeadR.det rfl (fun β hβ => (det_fieldAddr fl57_0 rfl)) ?_
  refine HeadR.det rfl (fun β hβ => (det_loadA ty28 rfl (List.Mem.tail _ (List.Mem.tail _ (List.Mem.head _))) rfl)) ?_
  refine HeadR.det rfl (fun β hβ => (det_fieldAddr fl57_0 rfl)) ?_
  refine HeadR.det rfl (fun β hβ => (det_loadA ty28 rfl (List.Mem.tail _ (List.Mem.head _)) rfl)) ?_
  refine HeadR.det rfl (fun β hβ => (det_call en33 rfl (fun w hb ho => Cu.Add_ok ho.blocks))) ?_
  refine HeadR.det rfl (fun β hβ => (det_fieldAddr fl57_1 rfl)) ?_
  refine HeadR.det rfl (fun β hβ => (det_loadA ty28 rfl (List.Mem.tail _ (List.Mem.tail _ (List.Mem.head _))) rfl)) ?_
  refine HeadR.det rfl (fun β hβ => (det_fieldAddr fl57_1 rfl)) ?_
  refine HeadR.det rfl (fun β hβ => (det_loadA ty28 rfl (List.Mem.tail _ (List.Mem.head _)) rfl)) ?_
  refine HeadR.det rfl (fun β hβ => (det_call en33 rfl (fun w hb ho => Cu.Add_ok ho.blocks))) ?_
  refine HeadR.det rfl (fun β hβ => (det_build rfl bld57)) ?_
  refine HeadR.done ⟨by kernel_rfl, fun β hβ => ?_⟩
  refine OpsW.norm (F' := [(5, _), (6, _), (7, _), (8, _), (9, _), (10, _), (11, _), (12, _), (13, _), (14, _), (15, _), (4, _), (3, _), (2, _)]) (H' := [(_, _), (_, _), (_, _)]) rfl rfl ?_
  refine OpsW.storeW57 rfl rfl (Upd.here) ?_
  refine sNext ?_
  refine W.keep (F' := [(4, _)]) ⟨rfl, trivial⟩ ?_
  refine sRet ?_
  exact done1 Tryd.results47 (rv_cellA ty57 rfl (List.Mem.head _) rfl) rfl
theorem Sub_ok {x y : Fq2} {w : World} (hG : Blocks (GH T) w)  : Vm.Pure Tryd.prog 89 #[encF x, encF y] w (encF (x - y)) := by
  refine pure_of_W (n := 16) (args := [encF x, encF y]) Tryd.func89 rfl Tryd.ntmps89 (Nat.le_of_ble_eq_true rfl) hG ?_
  refine sStart ?_
  refine sSeq ?_
  refine W.region ?_
  refine OpsW.fresh (fr_boxW57 rfl) rfl fun b2 => ?_
  refine OpsW.fresh (fr_boxW57 rfl) rfl fun b3 => ?_
  refine OpsW.fresh (fr_alloc z57r) rfl fun b4 => ?_
  refine sNext ?_
  refine W.keep (F' := [(4, _), (3, _), (2, _)]) ⟨rfl, rfl, rfl, trivial⟩ ?_
  refine sSeq ?_
  refine W.draw mixed 11 [[], [0], [], [2], [0, 1, 2, 3], [], [5], [], [7], [0, 1, 2, 3, 4, 5, 6, 7, 8], [0, 1, 2, 3, 4, 5, 6, 7, 8, 9], [0, 1, 2, 3, 4, 5, 6, 7, 8, 9, 10]] (cl_lt (by decide)) ?_
  refine HeadR.start (cl_lt (by decide)) ?_
  refine HeadR.det rfl (fun β hβ => (det_fieldAddr fl57_0 rfl)) ?_
  refine HeadR.det rfl (fun β hβ => (det_loadA ty28 rfl (List.Mem.tail _ (List.Mem.tail _ (List.Mem.head _))) rfl)) ?_
  refine HeadR.det rfl (fun β hβ => (det_fieldAddr fl57_0 rfl)) ?_
  refine HeadR.det rfl (fun β hβ => (det_loadA ty28 rfl (List.Mem.tail _ (List.Mem.head _)) rfl)) ?_
  refine HeadR.det rfl (fun β hβ => (det_call en67 rfl (fun w hb ho => Cu.Sub_ok ho.blocks))) ?_
  refine HeadR.det rfl (fun β hβ => (det_fieldAddr fl57_1 rfl)) ?_
  refine HeadR.det rfl (fun β hβ => (det_loadA ty28 rfl (List.Mem.tail _ (List.Mem.tail _ (List.Mem.head _))) rfl)) ?_
  refine HeadR.det rfl (fun β hβ => (det_fieldAddr fl57_1 rfl)) ?_
  refine HeadR.det rfl (fun β hβ => (det_loadA ty28 rfl (List.Mem.tail _ (List.Mem.head _)) rfl)) ?_
  refine HeadR.det rfl (fun β hβ => (det_call en67 rfl (fun w hb ho => Cu.Sub_ok ho.blocks))) ?_
  refine HeadR.det rfl (fun β hβ => (det_build rfl bld57)) ?_
  refine HeadR.done ⟨by kernel_rfl, fun β hβ => ?_⟩
  refine OpsW.norm (F' := [(5, _), (6, _), (7, _), (8, _), (9, _), (10, _), (11, _), (12, _), (13, _), (14, _), (15, _), (4, _), (3, _), (2, _)]) (H' := [(_, _), (_, _), (_, _)]) rfl rfl ?_
  refine OpsW.storeW57 rfl rfl (Upd.here) ?_
  refine sNext ?_
  refine W.keep (F' := [(4, _)]) ⟨rfl, trivial⟩ ?_
  refine sRet ?_
  exact done1 Tryd.results89 (rv_cellA ty57 rfl (List.Mem.head _) rfl) rfl
theorem Mul_ok {x y : Fq2} {w : World} (hG : Blocks (GH T) w)  : Vm.Pure Tryd.prog 81 #[encF x, encF y] w (encF (x * y)) := by
  refine pure_of_W (n := 38) (args := [encF x, encF y]) Tryd.func81 rfl Tryd.ntmps81 (Nat.le_of_ble_eq_true rfl) hG ?_
  refine sStart ?_
  refine sSeq ?_
  refine W.region ?_
  refine OpsW.fresh (fr_boxW57 rfl) rfl fun b2 => ?_
  refine OpsW.fresh (fr_boxW57 rfl) rfl fun b3 => ?_
  refine OpsW.fresh (fr_alloc z57r) rfl fun b4 => ?_
  refine sNext ?_
  refine W.keep (F' := [(4, _), (3, _), (2, _)]) ⟨rfl, rfl, rfl, trivial⟩ ?_
  refine sSeq ?_
  refine W.draw mixed 12 [[], [0], [], [2], [0, 1, 2, 3], [], [5], [], [7], [0, 1, 2, 3, 4, 5, 6, 7, 8], [], [], [0, 1, 2, 3, 4, 5, 6, 7, 8, 9, 10, 11], [0, 1, 2, 3, 4, 5, 6, 7, 8, 9, 10, 11, 12]] (cl_lt (by decide)) ?_
  refine HeadR.start (cl_lt (by decide)) ?_
  refine HeadR.det rfl (fun β hβ => (det_fieldAddr fl57_0 rfl)) ?_
  refine HeadR.det rfl (fun β hβ => (det_loadA ty28 rfl (List.Mem.tail _ (List.Mem.tail _ (List.Mem.head _))) rfl)) ?_
  refine HeadR.det rfl (fun β hβ => (det_fieldAddr fl57_0 rfl)) ?_
  refine HeadR.det rfl (fun β hβ => (det_loadA ty28 rfl (List.Mem.tail _ (List.Mem.head _)) rfl)) ?_
  refine HeadR.det rfl (fun β hβ => (det_call en57 rfl (fun w hb ho => Cu.Mul_ok ho.blocks))) ?_
  refine HeadR.det rfl (fun β hβ => (det_fieldAddr fl57_1 rfl)) ?_
  refine HeadR.det rfl (fun β hβ => (det_loadA ty28 rfl (List.Mem.tail _ (List.Mem.tail _ (List.Mem.head _))) rfl)) ?_
  refine HeadR.det rfl (fun β hβ => (det_fieldAddr fl57_1 rfl)) ?_
  refine HeadR.det rfl (fun β hβ => (det_loadA ty28 rfl (List.Mem.tail _ (List.Mem.head _)) rfl)) ?_
  refine HeadR.det rfl (fun β hβ => (det_call en57 rfl (fun w hb ho => Cu.Mul_ok ho.blocks))) ?_
  refine HeadR.fresh rfl (fun β hβ => (fr_alloc z28).new) ?_
  refine HeadR.fresh rfl (fun β hβ => (fr_alloc z28).new) ?_
  refine HeadR.done ⟨by kernel_rfl, fun β hβ => ?_⟩
  refine OpsW.norm (F' := [(8, _), (9, _), (10, _), (11, _), (12, _), (13, _), (14, _), (15, _), (16, _), (17, _), (5, .pointer (some ⟨(β 5).1, 0, none⟩)), (6, .pointer (some ⟨(β 6).1, 0, none⟩)), (4, _), (3, _), (2, _)]) (H' := [(_, _), (_, _), (_, _), (_, _), (_, _)]) rfl rfl ?_
  generalize (β 5).1 = b5
  generalize (β 6).1 = b6
  refine OpsW.store sz28 rfl rfl rfl rfl rfl (Upd.here) rfl ?_
  refine OpsW.store sz28 rfl rfl rfl rfl rfl (Upd.there (Upd.here)) rfl ?_
  refine sNext ?_
  refine W.keep (F' := [(5, _), (6, _), (4, _), (3, _), (2, _)]) ⟨rfl, rfl, rfl, rfl, rfl, trivial⟩ ?_
  refine sSeq ?_
  refine W.draw mixed 12 [[], [0], [], [2], [0, 1, 2, 3], [], [5], [], [7], [0, 1, 2, 3, 4, 5, 6, 7, 8], [0, 1, 2, 3, 4, 5, 6, 7, 8, 9], [], [0, 1, 2, 3, 4, 5, 6, 7, 8, 9, 10, 11]] (cl_lt (by decide)) ?_
  refine HeadR.start (cl_lt (by decide)) ?_
  refine HeadR.det rfl (fun β hβ => (det_fieldAddr fl57_0 rfl)) ?_
  refine HeadR.det rfl (fun β hβ => (det_loadA ty28 rfl (List.Mem.tail _ (List.Mem.tail _ (List.Mem.tail _ (List.Mem.tail _ (List.Mem.head _))))) rfl)) ?_
  refine HeadR.det rfl (fun β hβ => (det_fieldAddr fl57_1 rfl)) ?_
  refine HeadR.det rfl (fun β hβ => (det_loadA ty28 rfl (List.Mem.tail _ (List.Mem.tail _ (List.Mem.tail _ (List.Mem.tail _ (List.Mem.head _))))) rfl)) ?_
  refine HeadR.det rfl (fun β hβ => (det_call en33 rfl (fun w hb ho => Cu.Add_ok ho.blocks))) ?_
  refine HeadR.det rfl (fun β hβ => (det_fieldAddr fl57_0 rfl)) ?_
  refine HeadR.det rfl (fun β hβ => (det_loadA ty28 rfl (List.Mem.tail _ (List.Mem.tail _ (List.Mem.tail _ (List.Mem.head _)))) rfl)) ?_
  refine HeadR.det rfl (fun β hβ => (det_fieldAddr fl57_1 rfl)) ?_
  refine HeadR.det rfl (fun β hβ => (det_loadA ty28 rfl (List.Mem.tail _ (List.Mem.tail _ (List.Mem.tail _ (List.Mem.head _)))) rfl)) ?_
  refine HeadR.det rfl (fun β hβ => (det_call en33 rfl (fun w hb ho => Cu.Add_ok ho.blocks))) ?_
  refine HeadR.det rfl (fun β hβ => (det_call en57 rfl (fun w hb ho => Cu.Mul_ok ho.blocks))) ?_
  refine HeadR.fresh rfl (fun β hβ => (fr_alloc z28).new) ?_
  refine HeadR.done ⟨by kernel_rfl, fun β hβ => ?_⟩
  refine OpsW.norm (F' := [(18, _), (19, _), (20, _), (21, _), (22, _), (23, _), (24, _), (25, _), (26, _), (27, _), (28, _), (7, .pointer (some ⟨(β 7).1, 0, none⟩)), (5, _), (6, _), (4, _), (3, _), (2, _)]) (H' := [(_, _), (_, _), (_, _), (_, _), (_, _), (_, _)]) rfl rfl ?_
  generalize (β 7).1 = b7
  refine OpsW.store sz28 rfl rfl rfl rfl rfl (Upd.here) rfl ?_
  refine sNext ?_
  refine W.keep (F' := [(7, _), (5, _), (6, _), (4, _)]) ⟨rfl, rfl, rfl, rfl, trivial⟩ ?_
  refine sSeq ?_
  refine W.draw mixed 9 [[], [], [0, 1], [], [], [0, 1, 2, 3, 4], [], [0, 1, 2, 3, 4, 5, 6], [0, 1, 2, 3, 4, 5, 6, 7], [0, 1, 2, 3, 4, 5, 6, 7, 8]] (cl_lt (by decide)) ?_
  refine HeadR.start (cl_lt (by decide)) ?_
  refine HeadR.det rfl (fun β hβ => (det_loadA ty28 rfl (List.Mem.tail _ (List.Mem.head _)) rfl)) ?_
  refine HeadR.det rfl (fun β hβ => (det_loadA ty28 rfl (List.Mem.tail _ (List.Mem.tail _ (List.Mem.head _))) rfl)) ?_
  refine HeadR.det rfl (fun β hβ => (det_call en67 rfl (fun w hb ho => Cu.Sub_ok ho.blocks))) ?_
  refine HeadR.det rfl (fun β hβ => (det_loadA ty28 rfl (List.Mem.head _) rfl)) ?_
  refine HeadR.det rfl (fun β hβ => (det_loadA ty28 rfl (List.Mem.tail _ (List.Mem.head _)) rfl)) ?_
  refine HeadR.det rfl (fun β hβ => (det_call en67 rfl (fun w hb ho => Cu.Sub_ok ho.blocks))) ?_
  refine HeadR.det rfl (fun β hβ => (det_loadA ty28 rfl (List.Mem.tail _ (List.Mem.tail _ (List.Mem.head _))) rfl)) ?_
  refine HeadR.det rfl (fun β hβ => (det_call en67 rfl (fun w hb ho => Cu.Sub_ok ho.blocks))) ?_
  refine HeadR.det rfl (fun β hβ => (det_build rfl bld57)) ?_
  refine HeadR.done ⟨by kernel_rfl, fun β hβ => ?_⟩
  refine OpsW.norm (F' := [(29, _), (30, _), (31, _), (32, _), (33, _), (34, _), (35, _), (36, _), (37, _), (7, _), (5, _), (6, _), (4, _)]) (H' := [(_, _), (_, _), (_, _), (_, _), (_, _), (_, _)]) rfl rfl ?_
  refine OpsW.storeW57 rfl rfl (Upd.there (Upd.there (Upd.there (Upd.here)))) ?_
  refine sNext ?_
  refine W.keep (F' := [(4, _)]) ⟨rfl, trivial⟩ ?_
  refine sRet ?_
  exact done1 Tryd.results81 (rv_cellA ty57 rfl (List.Mem.tail _ (List.Mem.tail _ (List.Mem.tail _ (List.Mem.head _)))) rfl) rfl
theorem Neg_ok {x : Fq2} {w : World} (hG : Blocks (GH T) w)  : Vm.Pure Tryd.prog 79 #[encF x] w (encF (0 - x)) := by
  refine pure_of_W (n := 10) (args := [encF x]) Tryd.func79 rfl Tryd.ntmps79 (Nat.le_of_ble_eq_true rfl) hG ?_
  refine sStart ?_
  refine sSeq ?_
  refine W.region ?_
  refine OpsW.fresh (fr_boxW57 rfl) rfl fun b1 => ?_
  refine OpsW.fresh (fr_alloc z57r) rfl fun b2 => ?_
  refine sNext ?_
  refine W.keep (F' := [(2, _), (1, _)]) ⟨rfl, rfl, trivial⟩ ?_
  refine sSeq ?_
  refine W.draw mixed 7 [[], [0], [0, 1], [], [3], [0, 1, 2, 3, 4], [0, 1, 2, 3, 4, 5], [0, 1, 2, 3, 4, 5, 6]] (cl_lt (by decide)) ?_
  refine HeadR.start (cl_lt (by decide)) ?_
  refine HeadR.det rfl (fun β hβ => (det_fieldAddr fl57_0 rfl)) ?_
  refine HeadR.det rfl (fun β hβ => (det_loadA ty28 rfl (List.Mem.tail _ (List.Mem.head _)) rfl)) ?_
  refine HeadR.det rfl (fun β hβ => (det_call en55 rfl (fun w hb ho => Cu.Neg_ok ho.blocks))) ?_
  refine HeadR.det rfl (fun β hβ => (det_fieldAddr fl57_1 rfl)) ?_
  refine HeadR.det rfl (fun β hβ => (det_loadA ty28 rfl (List.Mem.tail _ (List.Mem.head _)) rfl)) ?_
  refine HeadR.det rfl (fun β hβ => (det_call en55 rfl (fun w hb ho => Cu.Neg_ok ho.blocks))) ?_
  refine HeadR.det rfl (fun β hβ => (det_build rfl bld57)) ?_
  refine HeadR.done ⟨by kernel_rfl, fun β hβ => ?_⟩
  refine OpsW.norm (F' := [(3, _), (4, _), (5, _), (6, _), (7, _), (8, _), (9, _), (2, _), (1, _)]) (H' := [(_, _), (_, _)]) rfl rfl ?_
  refine OpsW.storeW57 rfl rfl (Upd.here) ?_
  refine sNext ?_
  refine W.keep (F' := [(2, _)]) ⟨rfl, trivial⟩ ?_
  refine sRet ?_
  exact done1 Tryd.results79 (rv_cellA ty57 rfl (List.Mem.head _) rfl) rfl
theorem Conj_ok {x : Fq2} {w : World} (hG : Blocks (GH T) w)  : Vm.Pure Tryd.prog 101 #[encF x] w (encF (conj2 x)) := by
  refine pure_of_W (n := 9) (args := [encF x]) Tryd.func101 rfl Tryd.ntmps101 (Nat.le_of_ble_eq_true rfl) hG ?_
  refine sStart ?_
  refine sSeq ?_
  refine W.region ?_
  refine OpsW.fresh (fr_boxW57 rfl) rfl fun b1 => ?_
  refine OpsW.fresh (fr_alloc z57r) rfl fun b2 => ?_
  refine sNext ?_
  refine W.keep (F' := [(2, _), (1, _)]) ⟨rfl, rfl, trivial⟩ ?_
  refine sSeq ?_
  refine W.draw mixed 6 [[], [0], [], [2], [2, 3], [0, 1, 2, 3, 4], [0, 1, 2, 3, 4, 5]] (cl_lt (by decide)) ?_
  refine HeadR.start (cl_lt (by decide)) ?_
  refine HeadR.det rfl (fun β hβ => (det_fieldAddr fl57_0 rfl)) ?_
  refine HeadR.det rfl (fun β hβ => (det_loadA ty28 rfl (List.Mem.tail _ (List.Mem.head _)) rfl)) ?_
  refine HeadR.det rfl (fun β hβ => (det_fieldAddr fl57_1 rfl)) ?_
  refine HeadR.det rfl (fun β hβ => (det_loadA ty28 rfl (List.Mem.tail _ (List.Mem.head _)) rfl)) ?_
  refine HeadR.det rfl (fun β hβ => (det_call en55 rfl (fun w hb ho => Cu.Neg_ok ho.blocks))) ?_
  refine HeadR.det rfl (fun β hβ => (det_build rfl bld57)) ?_
  refine HeadR.done ⟨by kernel_rfl, fun β hβ => ?_⟩
  refine OpsW.norm (F' := [(3, _), (4, _), (5, _), (6, _), (7, _), (8, _), (2, _), (1, _)]) (H' := [(_, _), (_, _)]) rfl rfl ?_
  refine OpsW.storeW57 rfl rfl (Upd.here) ?_
  refine sNext ?_
  refine W.keep (F' := [(2, _)]) ⟨rfl, trivial⟩ ?_
  refine sRet ?_
  exact done1 Tryd.results101 (rv_cellA ty57 rfl (List.Mem.head _) rfl) rfl
theorem Square_ok {x : Fq2} {w : World} (hG : Blocks (GH T) w)  : Vm.Pure Tryd.prog 80 #[encF x] w (encF (x * x)) := by
  refine pure_of_W (n := 24) (args := [encF x]) Tryd.func80 rfl Tryd.ntmps80 (Nat.le_of_ble_eq_true rfl) hG ?_
  refine sStart ?_
  refine sSeq ?_
  refine W.region ?_
  refine OpsW.fresh (fr_boxW57 rfl) rfl fun b1 => ?_
  refine OpsW.fresh (fr_alloc z57r) rfl fun b2 => ?_
  refine sNext ?_
  refine W.keep (F' := [(2, _), (1, _)]) ⟨rfl, rfl, trivial⟩ ?_
  refine sSeq ?_
  refine W.region ?_
  refine OpsW.det (det_fieldAddr fl57_0 rfl) rfl ?_
  refine OpsW.det (det_loadA ty28 rfl (List.Mem.tail _ (List.Mem.head _)) rfl) rfl ?_
  refine OpsW.det (det_fieldAddr fl57_1 rfl) rfl ?_
  refine OpsW.det (det_loadA ty28 rfl (List.Mem.tail _ (List.Mem.head _)) rfl) rfl ?_
  refine OpsW.det (det_call en57 rfl (fun w hb ho => Cu.Mul_ok ho.blocks)) rfl ?_
  refine OpsW.fresh (fr_alloc z28) rfl fun b3 => ?_
  refine OpsW.store sz28 rfl rfl rfl rfl rfl (Upd.here) rfl ?_
  refine sNext ?_
  refine W.keep (F' := [(3, _), (2, _), (1, _)]) ⟨rfl, rfl, rfl, trivial⟩ ?_
  refine sSeq ?_
  refine W.draw mixed 15 [[], [0], [], [2], [0, 1, 2, 3], [], [5], [], [7], [0, 1, 2, 3, 4, 5, 6, 7, 8], [0, 1, 2, 3, 4, 5, 6, 7, 8, 9], [], [], [0, 1, 2, 3, 4, 5, 6, 7, 8, 9, 10, 11, 12], [0, 1, 2, 3, 4, 5, 6, 7, 8, 9, 10, 11, 12, 13], [0, 1, 2, 3, 4, 5, 6, 7, 8, 9, 10, 11, 12, 13, 14]] (cl_lt (by decide)) ?_
  refine HeadR.start (cl_lt (by decide)) ?_
  refine HeadR.det rfl (fun β hβ => (det_fieldAddr fl57_0 rfl)) ?_
  refine HeadR.det rfl (fun β hβ => (det_loadA ty28 rfl (List.Mem.tail _ (List.Mem.tail _ (List.Mem.head _))) rfl)) ?_
  refine HeadR.det rfl (fun β hβ => (det_fieldAddr fl57_1 rfl)) ?_
  refine HeadR.det rfl (fun β hβ => (det_loadA ty28 rfl (List.Mem.tail _ (List.Mem.tail _ (List.Mem.head _))) rfl)) ?_
  refine HeadR.det rfl (fun β hβ => (det_call en33 rfl (fun w hb ho => Cu.Add_ok ho.blocks))) ?_
  refine HeadR.det rfl (fun β hβ => (det_fieldAddr fl57_0 rfl)) ?_
  refine HeadR.det rfl (fun β hβ => (det_loadA ty28 rfl (List.Mem.tail _ (List.Mem.tail _ (List.Mem.head _))) rfl)) ?_
  refine HeadR.det rfl (fun β hβ => (det_fieldAddr fl57_1 rfl)) ?_
  refine HeadR.det rfl (fun β hβ => (det_loadA ty28 rfl (List.Mem.tail _ (List.Mem.tail _ (List.Mem.head _))) rfl)) ?_
  refine HeadR.det rfl (fun β hβ => (det_call en67 rfl (fun w hb ho => Cu.Sub_ok ho.blocks))) ?_
  refine HeadR.det rfl (fun β hβ => (det_call en57 rfl (fun w hb ho => Cu.Mul_ok ho.blocks))) ?_
  refine HeadR.det rfl (fun β hβ => (det_loadA ty28 rfl (List.Mem.head _) rfl)) ?_
  refine HeadR.det rfl (fun β hβ => (det_loadA ty28 rfl (List.Mem.head _) rfl)) ?_
  refine HeadR.det rfl (fun β hβ => (det_call en33 rfl (fun w hb ho => Cu.Add_ok ho.blocks))) ?_
  refine HeadR.det rfl (fun β hβ => (det_build rfl bld57)) ?_
  refine HeadR.done ⟨by kernel_rfl, fun β hβ => ?_⟩
  refine OpsW.norm (F' := [(9, _), (10, _), (11, _), (12, _), (13, _), (14, _), (15, _), (16, _), (17, _), (18, _), (19, _), (20, _), (21, _), (22, _), (23, _), (3, _), (2, _), (1, _)]) (H' := [(_, _), (_, _), (_, _)]) rfl rfl ?_
  refine OpsW.storeW57 rfl rfl (Upd.there (Upd.here)) ?_
  refine sNext ?_
  refine W.keep (F' := [(2, _)]) ⟨rfl, trivial⟩ ?_
  refine sRet ?_
  exact done1 Tryd.results80 (rv_cellA ty57 rfl (List.Mem.tail _ (List.Mem.head _)) rfl) (congrArg encF (sq2 x))
theorem Scale_ok {x : Fq2} {k : Fq} {w : World} (hG : Blocks (GH T) w)  : Vm.Pure Tryd.prog 103 #[encF x, Cu.encF k] w (encF (scale2 x k)) := by
  refine pure_of_W (n := 14) (args := [encF x, Cu.encF k]) Tryd.func103 rfl Tryd.ntmps103 (Nat.le_of_ble_eq_true rfl) hG ?_
  refine sStart ?_
  refine sSeq ?_
  refine W.region ?_
  refine OpsW.fresh (fr_boxW57 rfl) rfl fun b2 => ?_
  refine OpsW.fresh (fr_box rfl rfl) rfl fun b3 => ?_
  refine OpsW.fresh (fr_alloc z57r) rfl fun b4 => ?_
  refine sNext ?_
  refine W.keep (F' := [(4, _), (3, _), (2, _)]) ⟨rfl, rfl, rfl, trivial⟩ ?_
  refine sSeq ?_
  refine W.draw mixed 9 [[], [0], [], [0, 1, 2], [], [4], [], [0, 1, 2, 3, 4, 5, 6], [0, 1, 2, 3, 4, 5, 6, 7], [0, 1, 2, 3, 4, 5, 6, 7, 8]] (cl_lt (by decide)) ?_
  refine HeadR.start (cl_lt (by decide)) ?_
  refine HeadR.det rfl (fun β hβ => (det_fieldAddr fl57_0 rfl)) ?_
  refine HeadR.det rfl (fun β hβ => (det_loadA ty28 rfl (List.Mem.tail _ (List.Mem.tail _ (List.Mem.head _))) rfl)) ?_
  refine HeadR.det rfl (fun β hβ => (det_loadA ty28 rfl (List.Mem.tail _ (List.Mem.head _)) rfl)) ?_
  refine HeadR.det rfl (fun β hβ => (det_call en57 rfl (fun w hb ho => Cu.Mul_ok ho.blocks))) ?_
  refine HeadR.det rfl (fun β hβ => (det_fieldAddr fl57_1 rfl)) ?_
  refine HeadR.det rfl (fun β hβ => (det_loadA ty28 rfl (List.Mem.tail _ (List.Mem.tail _ (List.Mem.head _))) rfl)) ?_
  refine HeadR.det rfl (fun β hβ => (det_loadA ty28 rfl (List.Mem.tail _ (List.Mem.head _)) rfl)) ?_
  refine HeadR.det rfl (fun β hβ => (det_call en57 rfl (fun w hb ho => Cu.Mul_ok ho.blocks))) ?_
  refine HeadR.det rfl (fun β hβ => (det_build rfl bld57)) ?_
  refine HeadR.done ⟨by kernel_rfl, fun β hβ => ?_⟩
  refine OpsW.norm (F' := [(5, _), (6, _), (7, _), (8, _), (9, _), (10, _), (11, _), (12, _), (13, _), (4, _), (3, _), (2, _)]) (H' := [(_, _), (_, _), (_, _)]) rfl rfl ?_
  refine OpsW.storeW57 rfl rfl (Upd.here) ?_
  refine sNext ?_
  refine W.keep (F' := [(4, _)]) ⟨rfl, trivial⟩ ?_
  refine sRet ?_
  exact done1 Tryd.results103 (rv_cellA ty57 rfl (List.Mem.head _) rfl) rfl
theorem Norm_ok {x : Fq2} {w : World} (hG : Blocks (GH T) w)  : Vm.Pure Tryd.prog 102 #[encF x] w (Cu.encF (norm2 x)) := by
  refine pure_of_W (n := 10) (args := [encF x]) Tryd.func102 rfl Tryd.ntmps102 (Nat.le_of_ble_eq_true rfl) hG ?_
  refine sStart ?_
  refine sSeq ?_
  refine W.region ?_
  refine OpsW.fresh (fr_boxW57 rfl) rfl fun b1 => ?_
  refine OpsW.fresh (fr_alloc z28) rfl fun b2 => ?_
  refine sNext ?_
  refine W.keep (F' := [(2, _), (1, _)]) ⟨rfl, rfl, trivial⟩ ?_
  refine sSeq ?_
  refine W.draw mixed 7 [[], [0], [0, 1], [], [3], [0, 1, 2, 3, 4], [0, 1, 2, 3, 4, 5], [0, 1, 2, 3, 4, 5, 6]] (cl_lt (by decide)) ?_
  refine HeadR.start (cl_lt (by decide)) ?_
  refine HeadR.det rfl (fun β hβ => (det_fieldAddr fl57_0 rfl)) ?_
  refine HeadR.det rfl (fun β hβ => (det_loadA ty28 rfl (List.Mem.tail _ (List.Mem.head _)) rfl)) ?_
  refine HeadR.det rfl (fun β hβ => (det_call en56 rfl (fun w hb ho => Cu.Square_ok ho.blocks))) ?_
  refine HeadR.det rfl (fun β hβ => (det_fieldAddr fl57_1 rfl)) ?_
  refine HeadR.det rfl (fun β hβ => (det_loadA ty28 rfl (List.Mem.tail _ (List.Mem.head _)) rfl)) ?_
  refine HeadR.det rfl (fun β hβ => (det_call en56 rfl (fun w hb ho => Cu.Square_ok ho.blocks))) ?_
  refine HeadR.det rfl (fun β hβ => (det_call en33 rfl (fun w hb ho => Cu.Add_ok ho.blocks))) ?_
  refine HeadR.done ⟨by kernel_rfl, fun β hβ => ?_⟩
  refine OpsW.norm (F' := [(3, _), (4, _), (5, _), (6, _), (7, _), (8, _), (9, _), (2, _), (1, _)]) (H' := [(_, _), (_, _)]) rfl rfl ?_
  refine OpsW.store sz28 rfl rfl rfl rfl rfl (Upd.here) rfl ?_
  refine sNext ?_
  refine W.keep (F' := [(2, _)]) ⟨rfl, trivial⟩ ?_
  refine sRet ?_
  exact done1 Tryd.results102 (rv_cellA ty28 rfl (List.Mem.head _) rfl) rfl
theorem Inv_ok {x : Fq2} {w : World} (hG : Blocks (GH T) w)  : Vm.Pure Tryd.prog 100 #[encF x] w (encF (inv2 x)) := by
  refine pure_of_W (n := 9) (args := [encF x]) Tryd.func100 rfl Tryd.ntmps100 (Nat.le_of_ble_eq_true rfl) hG ?_
  refine sStart ?_
  refine sSeq ?_
  refine W.region ?_
  refine OpsW.fresh (fr_boxW57 rfl) rfl fun b1 => ?_
  refine OpsW.fresh (fr_alloc z57r) rfl fun b2 => ?_
  refine sNext ?_
  refine W.keep (F' := [(2, _), (1, _)]) ⟨rfl, rfl, trivial⟩ ?_
  refine sSeq ?_
  refine W.draw mixed 6 [[], [0], [], [0, 1, 2], [0, 1, 2, 3], [0, 1, 2, 3, 4], [0, 1, 2, 3, 4, 5]] (cl_lt (by decide)) ?_
  refine HeadR.start (cl_lt (by decide)) ?_
  refine HeadR.det rfl (fun β hβ => (det_loadW57 rfl (List.Mem.tail _ (List.Mem.head _)))) ?_
  refine HeadR.det rfl (fun β hβ => (det_call en101 rfl (fun w hb ho => Conj_ok ho.blocks))) ?_
  refine HeadR.det rfl (fun β hβ => (det_loadW57 rfl (List.Mem.tail _ (List.Mem.head _)))) ?_
  refine HeadR.det rfl (fun β hβ => (det_call en102 rfl (fun w hb ho => Norm_ok ho.blocks))) ?_
  refine HeadR.det rfl (fun β hβ => (det_call en96 rfl (fun w hb ho => Cu.Inv_ok ho.blocks))) ?_
  refine HeadR.det rfl (fun β hβ => (det_call en103 rfl (fun w hb ho => Scale_ok ho.blocks))) ?_
  refine HeadR.done ⟨by kernel_rfl, fun β hβ => ?_⟩
  refine OpsW.norm (F' := [(3, _), (4, _), (5, _), (6, _), (7, _), (8, _), (2, _), (1, _)]) (H' := [(_, _), (_, _)]) rfl rfl ?_
  refine OpsW.storeW57 rfl rfl (Upd.here) ?_
  refine sNext ?_
  refine W.keep (F' := [(2, _)]) ⟨rfl, trivial⟩ ?_
  refine sRet ?_
  exact done1 Tryd.results100 (rv_cellA ty57 rfl (List.Mem.head _) rfl) rfl
theorem Zero_ok {x : Fq2} {w : World} (hG : Blocks (GH T) w)  : Vm.Pure Tryd.prog 86 #[encF x] w (.bool (decide (x = 0))) := by
  refine pure_of_W (n := 6) (args := [encF x]) Tryd.func86 rfl Tryd.ntmps86 (Nat.le_of_ble_eq_true rfl) hG ?_
  refine sStart ?_
  refine sSeq ?_
  refine W.region ?_
  refine OpsW.fresh (fr_boxW57 rfl) rfl fun b1 => ?_
  refine OpsW.det (det_assign rfl) rfl ?_
  refine sNext ?_
  refine W.keep (F' := [(1, _)]) ⟨rfl, trivial⟩ ?_
  refine sSeq ?_
  refine W.region ?_
  refine OpsW.det (det_loadW57 rfl (List.Mem.head _)) rfl ?_
  refine OpsW.det (det_zero bz57) rfl ?_
  refine OpsW.det (det_eql57 rfl rfl) rfl ?_
  refine OpsW.det (det_assign rfl) rfl ?_
  refine sNext ?_
  refine W.keep (F' := [(2, _)]) ⟨rfl, trivial⟩ ?_
  refine sRet ?_
  exact done1 Tryd.results86 (rv_tmp rfl) rfl
theorem Small_ok {m n : Nat} (hm : m < 18446744073709551616) (hn : n < 18446744073709551616) {w : World} (hG : Blocks (GH T) w)  : Vm.Pure Tryd.prog 84 #[u64 m, u64 n] w (encF (small m n)) := by
  refine pure_of_W (n := 10) (args := [u64 m, u64 n]) Tryd.func84 rfl Tryd.ntmps84 (Nat.le_of_ble_eq_true rfl) hG ?_
  refine sStart ?_
  refine sSeq ?_
  refine W.region ?_
  refine OpsW.fresh (fr_alloc z57r) rfl fun b4 => ?_
  refine sNext ?_
  refine sSeq ?_
  refine W.region ?_
  refine OpsW.det (det_move rfl) rfl ?_
  refine OpsW.det (det_call en59 rfl (fun w hb ho => Cu.Of_ok hm ho.blocks)) rfl ?_
  refine OpsW.det (det_move rfl) rfl ?_
  refine OpsW.det (det_call en59 rfl (fun w hb ho => Cu.Of_ok hn ho.blocks)) rfl ?_
  refine OpsW.det (det_build rfl bld57) rfl ?_
  refine OpsW.storeW57 rfl rfl (Upd.here) ?_
  refine sNext ?_
  refine W.keep (F' := [(4, _)]) ⟨rfl, trivial⟩ ?_
  refine sRet ?_
  exact done1 Tryd.results84 (rv_cellA ty57 rfl (List.Mem.head _) rfl) rfl
theorem four_ok  {w : World} (hG : Blocks (GH T) w)  : Vm.Pure Tryd.prog 82 #[] w (encF (small 4 4)) := by
  refine pure_of_W (n := 2) (args := []) Tryd.func82 rfl Tryd.ntmps82 (Nat.le_of_ble_eq_true rfl) hG ?_
  refine sStart ?_
  refine sSeq ?_
  refine W.region ?_
  refine OpsW.fresh (fr_alloc z57r) rfl fun b0 => ?_
  refine sNext ?_
  refine sSeq ?_
  refine W.region ?_
  refine OpsW.det (det_call en84 rfl (fun w hb ho => Small_ok (m := 4) (n := 4) (by decide) (by decide) ho.blocks)) rfl ?_
  refine OpsW.storeW57 rfl rfl (Upd.here) ?_
  refine sNext ?_
  refine W.keep (F' := [(0, _)]) ⟨rfl, trivial⟩ ?_
  refine sRet ?_
  exact done1 Tryd.results82 (rv_cellA ty57 rfl (List.Mem.head _) rfl) rfl
theorem one_ok  {w : World} (hG : Blocks (GH T) w)  : Vm.Pure Tryd.prog 99 #[] w (encF (small 1 0)) := by
  refine pure_of_W (n := 2) (args := []) Tryd.func99 rfl Tryd.ntmps99 (Nat.le_of_ble_eq_true rfl) hG ?_
  refine sStart ?_
  refine sSeq ?_
  refine W.region ?_
  refine OpsW.fresh (fr_alloc z57r) rfl fun b0 => ?_
  refine sNext ?_
  refine sSeq ?_
  refine W.region ?_
  refine OpsW.det (det_call en84 rfl (fun w hb ho => Small_ok (m := 1) (n := 0) (by decide) (by decide) ho.blocks)) rfl ?_
  refine OpsW.storeW57 rfl rfl (Upd.here) ?_
  refine sNext ?_
  refine W.keep (F' := [(0, _)]) ⟨rfl, trivial⟩ ?_
  refine sRet ?_
  exact done1 Tryd.results99 (rv_cellA ty57 rfl (List.Mem.head _) rfl) rfl

end Go.Cw
