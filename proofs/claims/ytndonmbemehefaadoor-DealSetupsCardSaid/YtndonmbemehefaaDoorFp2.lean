/-
  The first group's field: the product: the walk. Conditions: numbers below the modulus.
-/
import Derived.Test.YtndonmbemehefaaDoorFp1
import Derived.Test.YtndonmbemehefaaDoorMont
namespace Go.Cu
open Go Go.Vm Go.RowKit Go.Proofs 
attribute [local irreducible] W OpsW Det Fresh New Writes Vm.Pure Makes Changes ExternTo BuildTo ZeroTo FieldTo IndexTo BinTo SliceTo Vm.Enters
set_option linter.unusedVariables false
set_option linter.unusedSimpArgs false
variable {T : Nat → TypeId × Nat × Nat}



theorem idx26 {m i : Nat} (h : i < 6) : IndexTo Tryd.prog 27 (.agg #[u64 (lim (m) 0), u64 (lim (m) 1), u64 (lim (m) 2), u64 (lim (m) 3), u64 (lim (m) 4), u64 (lim (m) 5)]) (.int .i64 (i : Nat)) (u64 (lim m i)) := by
  have : i = 0 ∨ i = 1 ∨ i = 2 ∨ i = 3 ∨ i = 4 ∨ i = 5 := by omega
  rcases this with rfl | rfl | rfl | rfl | rfl | rfl <;> exact IndexTo.of fun _ => by kernel_rfl
set_option maxHeartbeats 1000000 in
theorem Mul_w_ok {X Y : Nat} (hX : X < pp) (hY : Y < pp) {w : World} (hG : Blocks (GH T) w)  : Vm.Pure Tryd.prog 17 #[.agg #[u64 (lim (X) 0), u64 (lim (X) 1), u64 (lim (X) 2), u64 (lim (X) 3), u64 (lim (X) 4), u64 (lim (X) 5)], .agg #[u64 (lim (Y) 0), u64 (lim (Y) 1), u64 (lim (Y) 2), u64 (lim (Y) 3), u64 (lim (Y) 4), u64 (lim (Y) 5)]] w (enc6 (X * Y * inv_pp % pp)) := by
  refine pure_of_W (n := 328) (args := [.agg #[u64 (lim (X) 0), u64 (lim (X) 1), u64 (lim (X) 2), u64 (lim (X) 3), u64 (lim (X) 4), u64 (lim (X) 5)], .agg #[u64 (lim (Y) 0), u64 (lim (Y) 1), u64 (lim (Y) 2), u64 (lim (Y) 3), u64 (lim (Y) 4), u64 (lim (Y) 5)]]) Tryd.func17 rfl Tryd.ntmps17 (Nat.le_of_ble_eq_true rfl) hG ?_
  refine sStart ?_
  refine sSeq ?_
  refine W.region ?_
  refine OpsW.fresh (fr_box rfl rfl) rfl fun b2 => ?_
  refine OpsW.fresh (fr_box rfl rfl) rfl fun b3 => ?_
  refine OpsW.fresh (fr_alloc z29) rfl fun b4 => ?_
  refine sNext ?_
  refine W.keep (F' := [(4, _), (3, _), (2, _)]) ⟨rfl, rfl, rfl, trivial⟩ ?_
  refine sSeq ?_
  refine W.region ?_
  refine OpsW.det (det_assign rfl) rfl ?_
  refine OpsW.det (det_assign rfl) rfl ?_
  refine OpsW.det (det_assign rfl) rfl ?_
  refine OpsW.det (det_assign rfl) rfl ?_
  refine OpsW.det (det_assign rfl) rfl ?_
  refine OpsW.det (det_assign rfl) rfl ?_
  refine sNext ?_
  refine sSeq ?_
  refine W.draw mixed 24 [[], [0], [0, 1], [], [3], [3, 4], [], [6], [6, 7], [], [9], [9, 10], [], [12], [12, 13], [], [15], [15, 16], [0, 1, 2], [0, 1, 2, 3, 4, 5, 18], [0, 1, 2, 3, 4, 5, 6, 7, 8, 18, 19], [0, 1, 2, 3, 4, 5, 6, 7, 8, 9, 10, 11, 18, 19, 20], [0, 1, 2, 3, 4, 5, 6, 7, 8, 9, 10, 11, 12, 13, 14, 18, 19, 20, 21], [0, 1, 2, 3, 4, 5, 6, 7, 8, 9, 10, 11, 12, 13, 14, 15, 16, 17, 18, 19, 20, 21, 22]] (cl_lt (by decide)) ?_
  refine HeadR.start (cl_lt (by decide)) ?_
  refine HeadR.det rfl (fun β hβ => (det_fieldAddr fl29_0 rfl)) ?_
  refine HeadR.det rfl (fun β hβ => (det_indexAddr_arr u27 sz26 rfl rfl ⟨by decide, by decide⟩)) ?_
  refine HeadR.det rfl (fun β hβ => (det_loadC ty26 rfl (List.Mem.tail _ (List.Mem.tail _ (List.Mem.head _))) rfl)) ?_
  refine HeadR.det rfl (fun β hβ => (det_fieldAddr fl29_0 rfl)) ?_
  refine HeadR.det rfl (fun β hβ => (det_indexAddr_arr u27 sz26 rfl rfl ⟨by decide, by decide⟩)) ?_
  refine HeadR.det rfl (fun β hβ => (det_loadC ty26 rfl (List.Mem.tail _ (List.Mem.tail _ (List.Mem.head _))) rfl)) ?_
  refine HeadR.det rfl (fun β hβ => (det_fieldAddr fl29_0 rfl)) ?_
  refine HeadR.det rfl (fun β hβ => (det_indexAddr_arr u27 sz26 rfl rfl ⟨by decide, by decide⟩)) ?_
  refine HeadR.det rfl (fun β hβ => (det_loadC ty26 rfl (List.Mem.tail _ (List.Mem.tail _ (List.Mem.head _))) rfl)) ?_
  refine HeadR.det rfl (fun β hβ => (det_fieldAddr fl29_0 rfl)) ?_
  refine HeadR.det rfl (fun β hβ => (det_indexAddr_arr u27 sz26 rfl rfl ⟨by decide, by decide⟩)) ?_
  refine HeadR.det rfl (fun β hβ => (det_loadC ty26 rfl (List.Mem.tail _ (List.Mem.tail _ (List.Mem.head _))) rfl)) ?_
  refine HeadR.det rfl (fun β hβ => (det_fieldAddr fl29_0 rfl)) ?_
  refine HeadR.det rfl (fun β hβ => (det_indexAddr_arr u27 sz26 rfl rfl ⟨by decide, by decide⟩)) ?_
  refine HeadR.det rfl (fun β hβ => (det_loadC ty26 rfl (List.Mem.tail _ (List.Mem.tail _ (List.Mem.head _))) rfl)) ?_
  refine HeadR.det rfl (fun β hβ => (det_fieldAddr fl29_0 rfl)) ?_
  refine HeadR.det rfl (fun β hβ => (det_indexAddr_arr u27 sz26 rfl rfl ⟨by decide, by decide⟩)) ?_
  refine HeadR.det rfl (fun β hβ => (det_loadC ty26 rfl (List.Mem.tail _ (List.Mem.tail _ (List.Mem.head _))) rfl)) ?_
  refine HeadR.det rfl (fun β hβ => (det_assign rfl)) ?_
  refine HeadR.det rfl (fun β hβ => (det_assign rfl)) ?_
  refine HeadR.det rfl (fun β hβ => (det_assign rfl)) ?_
  refine HeadR.det rfl (fun β hβ => (det_assign rfl)) ?_
  refine HeadR.det rfl (fun β hβ => (det_assign rfl)) ?_
  refine HeadR.det rfl (fun β hβ => (det_assign rfl)) ?_
  refine HeadR.done ⟨by kernel_rfl, fun β hβ => ?_⟩
  refine OpsW.norm (F' := ((26, _) :: (27, _) :: (28, _) :: (29, _) :: (30, _) :: (31, _) :: (32, _) :: (33, _) :: (34, _) :: (35, _) :: (36, _) :: (37, _) :: (38, _) :: (39, _) :: (40, _) :: (41, _) :: (42, _) :: (43, _) :: (11, _) :: (12, _) :: (13, _) :: (14, _) :: (15, _) :: (16, _) :: (10, _) :: (9, _) :: (8, _) :: (7, _) :: (6, _) :: (5, _) :: (4, _) :: (3, _) :: (2, _) :: [])) (H' := [(_, _), (_, _), (_, _)]) rfl rfl ?_
  refine sNext ?_
  refine W.keep (F' := [(11, _), (12, _), (13, _), (14, _), (15, _), (16, _), (10, _), (9, _), (8, _), (7, _), (6, _), (5, _), (4, _), (3, _)]) ⟨rfl, rfl, rfl, rfl, rfl, rfl, rfl, rfl, rfl, rfl, rfl, rfl, rfl, rfl, trivial⟩ ?_
  refine sSeq ?_
  refine sSeq ?_
  refine W.region ?_
  refine OpsW.det (det_fieldAddr fl29_0 rfl) rfl ?_
  refine OpsW.det (det_loadA ty27 rfl (List.Mem.tail _ (List.Mem.head _)) rfl) rfl ?_
  refine OpsW.det (det_move rfl) rfl ?_
  refine sNext ?_
  refine W.keep (F' := [(46, _), (45, _), (11, _), (12, _), (13, _), (14, _), (15, _), (16, _), (10, _), (9, _), (8, _), (7, _), (6, _), (5, _), (4, _)]) ⟨rfl, rfl, rfl, rfl, rfl, rfl, rfl, rfl, rfl, rfl, rfl, rfl, rfl, rfl, rfl, trivial⟩ ?_
  refine sBlock ?_
  refine sLoop (σ := Nat × Nat × Nat × Nat × Nat × Nat × Nat) (fun k => [(46, .int .i64 (k.1 : Nat)), (45, .agg #[u64 (lim (Y) 0), u64 (lim (Y) 1), u64 (lim (Y) 2), u64 (lim (Y) 3), u64 (lim (Y) 4), u64 (lim (Y) 5)]), (5, u64 k.2.1), (6, u64 k.2.2.1), (7, u64 k.2.2.2.1), (8, u64 k.2.2.2.2.1), (9, u64 k.2.2.2.2.2.1), (10, u64 k.2.2.2.2.2.2), (11, u64 (lim X 0)), (12, u64 (lim X 1)), (13, u64 (lim X 2)), (14, u64 (lim X 3)), (15, u64 (lim X 4)), (16, u64 (lim X 5)), (4, .pointer (some ⟨b4, 0, none⟩))]) (fun k => [(b4, blk [.int .u64 0, .int .u64 0, .int .u64 0, .int .u64 0, .int .u64 0, .int .u64 0] 29)]) (fun k => k.1 ≤ 6 ∧ k.2.1 < 18446744073709551616 ∧ k.2.2.1 < 18446744073709551616 ∧ k.2.2.2.1 < 18446744073709551616 ∧ k.2.2.2.2.1 < 18446744073709551616 ∧ k.2.2.2.2.2.1 < 18446744073709551616 ∧ k.2.2.2.2.2.2 < 18446744073709551616 ∧ ∃ M, M < 18446744073709551616 ^ k.1 ∧ val6 (k.2.1) (k.2.2.1) (k.2.2.2.1) (k.2.2.2.2.1) (k.2.2.2.2.2.1) (k.2.2.2.2.2.2) * 18446744073709551616 ^ k.1 = X * (Y % 18446744073709551616 ^ k.1) + M * pp) (fun k => 6 - k.1) (0, 0, 0, 0, 0, 0, 0) ⟨by decide, by decide, by decide, by decide, by decide, by decide, by decide, 0, by decide, by simp [val6, Nat.mod_one]⟩ ⟨rfl, rfl, rfl, rfl, rfl, rfl, rfl, rfl, rfl, rfl, rfl, rfl, rfl, rfl, rfl, trivial⟩ (List.Sublist.cons_cons _ (List.nil_sublist _)) ?_
  rintro ⟨i, t0, t1, t2, t3, t4, t5⟩ ⟨hi, ht0, ht1, ht2, ht3, ht4, ht5, M, hM, hI⟩
  refine W.norm (F' := [(46, .int .i64 (i : Nat)), (45, .agg #[u64 (lim (Y) 0), u64 (lim (Y) 1), u64 (lim (Y) 2), u64 (lim (Y) 3), u64 (lim (Y) 4), u64 (lim (Y) 5)]), (5, u64 t0), (6, u64 t1), (7, u64 t2), (8, u64 t3), (9, u64 t4), (10, u64 t5), (11, u64 (lim X 0)), (12, u64 (lim X 1)), (13, u64 (lim X 2)), (14, u64 (lim X 3)), (15, u64 (lim X 4)), (16, u64 (lim X 5)), (4, .pointer (some ⟨b4, 0, none⟩))]) (H' := [(b4, blk [.int .u64 0, .int .u64 0, .int .u64 0, .int .u64 0, .int .u64 0, .int .u64 0] 29)]) rfl rfl ?_
  have hT : val6 t0 t1 t2 t3 t4 t5 < 2 * pp := inv_top hI hM hX
  have hXv : val6 (lim X 0) (lim X 1) (lim X 2) (lim X 3) (lim X 4) (lim X 5) < pp := by rw [val_lim6 (m := X) (Nat.lt_trans hX (by decide))]; exact hX
  have hy := lim_lt Y i
  refine sSeq ?_
  refine W.region ?_
  refine OpsW.det (det_lss rfl rfl) rfl ?_
  refine sNext ?_
  refine sSeq ?_
  refine W.cond rfl (fun hc47 => ?_) (fun hc47 => ?_)
  · skip
    have hlt : i < 6 := by simp only [decide_eq_true_eq] at hc47; omega
    refine sSkip ?_
    refine sSeq ?_
    refine sBlock ?_
    refine sSeq ?_
    refine W.region ?_
    refine OpsW.det (det_index rfl rfl (idx26 hlt)) rfl ?_
    refine OpsW.det (det_assign rfl) rfl ?_
    refine sNext ?_
    refine W.keep (F' := [(18, _), (46, _), (45, _), (5, _), (6, _), (7, _), (8, _), (9, _), (10, _), (11, _), (12, _), (13, _), (14, _), (15, _), (16, _), (4, _)]) ⟨rfl, rfl, rfl, rfl, rfl, rfl, rfl, rfl, rfl, rfl, rfl, rfl, rfl, rfl, rfl, rfl, trivial⟩ ?_
    refine sSeq ?_
    refine W.region ?_
    refine OpsW.det (det_move rfl) rfl ?_
    refine OpsW.det (det_move rfl) rfl ?_
    refine OpsW.mul64 rfl rfl (by first | assumption | exact lim_lt _ _ | decide) (by first | assumption | exact lim_lt _ _ | decide) rfl fun hi52 lo52 he52 hs52 hk52 => ?_
    refine OpsW.det (det_move rfl) rfl ?_
    refine OpsW.det (det_extract rfl rfl) rfl ?_
    refine OpsW.det (det_extract rfl rfl) rfl ?_
    refine OpsW.det (det_assign rfl) rfl ?_
    refine OpsW.det (det_assign rfl) rfl ?_
    refine sNext ?_
    refine W.keep (F' := [(20, _), (19, _), (18, _), (46, _), (45, _), (5, _), (6, _), (7, _), (8, _), (9, _), (10, _), (11, _), (12, _), (13, _), (14, _), (15, _), (16, _), (4, _)]) ⟨rfl, rfl, rfl, rfl, rfl, rfl, rfl, rfl, rfl, rfl, rfl, rfl, rfl, rfl, rfl, rfl, rfl, rfl, trivial⟩ ?_
    refine sSeq ?_
    refine W.region ?_
    refine OpsW.det (det_move rfl) rfl ?_
    refine OpsW.det (det_move rfl) rfl ?_
    refine OpsW.add64 (e := 0) rfl rfl rfl (by first | assumption | exact lim_lt _ _ | decide) (by first | assumption | exact lim_lt _ _ | decide) (by first | assumption | decide) rfl fun s58 c58 he58 hs58 hk58 => ?_
    refine OpsW.det (det_move rfl) rfl ?_
    refine OpsW.det (det_extract rfl rfl) rfl ?_
    refine OpsW.det (det_extract rfl rfl) rfl ?_
    refine OpsW.det (det_assign rfl) rfl ?_
    refine OpsW.det (det_assign rfl) rfl ?_
    refine sNext ?_
    refine W.keep (F' := [(21, _), (20, _), (19, _), (18, _), (46, _), (45, _), (6, _), (7, _), (8, _), (9, _), (10, _), (11, _), (12, _), (13, _), (14, _), (15, _), (16, _), (4, _)]) ⟨rfl, rfl, rfl, rfl, rfl, rfl, rfl, rfl, rfl, rfl, rfl, rfl, rfl, rfl, rfl, rfl, rfl, rfl, trivial⟩ ?_
    refine sSeq ?_
    refine W.region ?_
    refine OpsW.det (det_move rfl) rfl ?_
    refine OpsW.det (det_move rfl) rfl ?_
    refine OpsW.addw rfl rfl (hi_lt hk52 hk58) rfl fun s63 he63 => ?_
    have E0 := col0 he52 he58 he63
    have hG0 := w_lt hk52 hk58 he63
    refine OpsW.det (det_assign rfl) rfl ?_
    refine sNext ?_
    refine W.keep (F' := [(22, _), (20, _), (18, _), (46, _), (45, _), (6, _), (7, _), (8, _), (9, _), (10, _), (11, _), (12, _), (13, _), (14, _), (15, _), (16, _), (4, _)]) ⟨rfl, rfl, rfl, rfl, rfl, rfl, rfl, rfl, rfl, rfl, rfl, rfl, rfl, rfl, rfl, rfl, rfl, trivial⟩ ?_
    refine sSeq ?_
    refine W.region ?_
    refine OpsW.det (det_move rfl) rfl ?_
    refine OpsW.mulw (b := 9940570264628428797) rfl rfl rfl fun s65 he65 hs65 => ?_
    refine OpsW.det (det_assign rfl) rfl ?_
    refine sNext ?_
    refine W.keep (F' := [(23, _), (22, _), (20, _), (18, _), (46, _), (45, _), (6, _), (7, _), (8, _), (9, _), (10, _), (11, _), (12, _), (13, _), (14, _), (15, _), (16, _), (4, _)]) ⟨rfl, rfl, rfl, rfl, rfl, rfl, rfl, rfl, rfl, rfl, rfl, rfl, rfl, rfl, rfl, rfl, rfl, rfl, trivial⟩ ?_
    refine sSeq ?_
    refine W.region ?_
    refine OpsW.det (det_move rfl) rfl ?_
    refine OpsW.mul64 (b := 13402431016077863595) rfl rfl (by first | assumption | exact lim_lt _ _ | decide) (by first | assumption | exact lim_lt _ _ | decide) rfl fun hi68 lo68 he68 hs68 hk68 => ?_
    refine OpsW.det (det_move rfl) rfl ?_
    refine OpsW.det (det_extract rfl rfl) rfl ?_
    refine OpsW.det (det_extract rfl rfl) rfl ?_
    refine OpsW.det (det_assign rfl) rfl ?_
    refine OpsW.det (det_assign rfl) rfl ?_
    refine sNext ?_
    refine W.keep (F' := [(24, _), (19, _), (23, _), (22, _), (20, _), (18, _), (46, _), (45, _), (6, _), (7, _), (8, _), (9, _), (10, _), (11, _), (12, _), (13, _), (14, _), (15, _), (16, _), (4, _)]) ⟨rfl, rfl, rfl, rfl, rfl, rfl, rfl, rfl, rfl, rfl, rfl, rfl, rfl, rfl, rfl, rfl, rfl, rfl, rfl, rfl, trivial⟩ ?_
    refine sSeq ?_
    refine W.region ?_
    refine OpsW.det (det_move rfl) rfl ?_
    refine OpsW.det (det_move rfl) rfl ?_
    refine OpsW.add64 (e := 0) rfl rfl rfl (by first | assumption | exact lim_lt _ _ | decide) (by first | assumption | exact lim_lt _ _ | decide) (by first | assumption | decide) rfl fun s74 c74 he74 hs74 hk74 => ?_
    refine OpsW.det (det_move rfl) rfl ?_
    refine OpsW.det (det_extract rfl rfl) rfl ?_
    refine OpsW.det (det_extract rfl rfl) rfl ?_
    refine OpsW.det (det_assign rfl) rfl ?_
    refine sNext ?_
    refine W.keep (F' := [(21, _), (19, _), (23, _), (22, _), (18, _), (46, _), (45, _), (6, _), (7, _), (8, _), (9, _), (10, _), (11, _), (12, _), (13, _), (14, _), (15, _), (16, _), (4, _)]) ⟨rfl, rfl, rfl, rfl, rfl, rfl, rfl, rfl, rfl, rfl, rfl, rfl, rfl, rfl, rfl, rfl, rfl, rfl, rfl, trivial⟩ ?_
    refine sSeq ?_
    refine W.region ?_
    refine OpsW.det (det_move rfl) rfl ?_
    refine OpsW.det (det_move rfl) rfl ?_
    refine OpsW.addw rfl rfl (hi_lt hk68 hk74) rfl fun s79 he79 => ?_
    have hz := zero_pp he65 he68 he74 hs74
    have F0 := colz he68 he74 he79 hz
    have hF0 := w_lt hk68 hk74 he79
    clear he52 he58 he63 he65 he68 he74 he79 hz
    refine OpsW.det (det_assign rfl) rfl ?_
    refine sNext ?_
    refine W.keep (F' := [(25, _), (23, _), (22, _), (18, _), (46, _), (45, _), (6, _), (7, _), (8, _), (9, _), (10, _), (11, _), (12, _), (13, _), (14, _), (15, _), (16, _), (4, _)]) ⟨rfl, rfl, rfl, rfl, rfl, rfl, rfl, rfl, rfl, rfl, rfl, rfl, rfl, rfl, rfl, rfl, rfl, rfl, trivial⟩ ?_
    refine sSeq ?_
    refine W.region ?_
    refine OpsW.det (det_move rfl) rfl ?_
    refine OpsW.det (det_move rfl) rfl ?_
    refine OpsW.mul64 rfl rfl (by first | assumption | exact lim_lt _ _ | decide) (by first | assumption | exact lim_lt _ _ | decide) rfl fun hi83 lo83 he83 hs83 hk83 => ?_
    refine OpsW.det (det_move rfl) rfl ?_
    refine OpsW.det (det_extract rfl rfl) rfl ?_
    refine OpsW.det (det_extract rfl rfl) rfl ?_
    refine OpsW.det (det_assign rfl) rfl ?_
    refine OpsW.det (det_assign rfl) rfl ?_
    refine sNext ?_
    refine W.keep (F' := [(20, _), (19, _), (25, _), (23, _), (22, _), (18, _), (46, _), (45, _), (6, _), (7, _), (8, _), (9, _), (10, _), (11, _), (12, _), (13, _), (14, _), (15, _), (16, _), (4, _)]) ⟨rfl, rfl, rfl, rfl, rfl, rfl, rfl, rfl, rfl, rfl, rfl, rfl, rfl, rfl, rfl, rfl, rfl, rfl, rfl, rfl, trivial⟩ ?_
    refine sSeq ?_
    refine W.region ?_
    refine OpsW.det (det_move rfl) rfl ?_
    refine OpsW.det (det_move rfl) rfl ?_
    refine OpsW.add64 (e := 0) rfl rfl rfl (by first | assumption | exact lim_lt _ _ | decide) (by first | assumption | exact lim_lt _ _ | decide) (by first | assumption | decide) rfl fun s89 c89 he89 hs89 hk89 => ?_
    refine OpsW.det (det_move rfl) rfl ?_
    refine OpsW.det (det_extract rfl rfl) rfl ?_
    refine OpsW.det (det_extract rfl rfl) rfl ?_
    refine OpsW.det (det_assign rfl) rfl ?_
    refine OpsW.det (det_assign rfl) rfl ?_
    refine sNext ?_
    refine W.keep (F' := [(21, _), (20, _), (19, _), (25, _), (23, _), (18, _), (46, _), (45, _), (6, _), (7, _), (8, _), (9, _), (10, _), (11, _), (12, _), (13, _), (14, _), (15, _), (16, _), (4, _)]) ⟨rfl, rfl, rfl, rfl, rfl, rfl, rfl, rfl, rfl, rfl, rfl, rfl, rfl, rfl, rfl, rfl, rfl, rfl, rfl, rfl, trivial⟩ ?_
    refine sSeq ?_
    refine W.region ?_
    refine OpsW.det (det_move rfl) rfl ?_
    refine OpsW.det (det_move rfl) rfl ?_
    refine OpsW.addw rfl rfl (hi_lt hk83 hk89) rfl fun s94 he94 => ?_
    refine OpsW.det (det_assign rfl) rfl ?_
    refine sNext ?_
    refine W.keep (F' := [(19, _), (20, _), (25, _), (23, _), (18, _), (46, _), (45, _), (6, _), (7, _), (8, _), (9, _), (10, _), (11, _), (12, _), (13, _), (14, _), (15, _), (16, _), (4, _)]) ⟨rfl, rfl, rfl, rfl, rfl, rfl, rfl, rfl, rfl, rfl, rfl, rfl, rfl, rfl, rfl, rfl, rfl, rfl, rfl, trivial⟩ ?_
    refine sSeq ?_
    refine W.region ?_
    refine OpsW.det (det_move rfl) rfl ?_
    refine OpsW.det (det_move rfl) rfl ?_
    refine OpsW.add64 (e := 0) rfl rfl rfl (by first | assumption | exact lim_lt _ _ | decide) (by first | assumption | exact lim_lt _ _ | decide) (by first | assumption | decide) rfl fun s98 c98 he98 hs98 hk98 => ?_
    refine OpsW.det (det_move rfl) rfl ?_
    refine OpsW.det (det_extract rfl rfl) rfl ?_
    refine OpsW.det (det_extract rfl rfl) rfl ?_
    refine OpsW.det (det_assign rfl) rfl ?_
    refine OpsW.det (det_assign rfl) rfl ?_
    refine sNext ?_
    refine W.keep (F' := [(21, _), (20, _), (19, _), (25, _), (23, _), (18, _), (46, _), (45, _), (7, _), (8, _), (9, _), (10, _), (11, _), (12, _), (13, _), (14, _), (15, _), (16, _), (4, _)]) ⟨rfl, rfl, rfl, rfl, rfl, rfl, rfl, rfl, rfl, rfl, rfl, rfl, rfl, rfl, rfl, rfl, rfl, rfl, rfl, trivial⟩ ?_
    refine sSeq ?_
    refine W.region ?_
    refine OpsW.det (det_move rfl) rfl ?_
    refine OpsW.det (det_move rfl) rfl ?_
    refine OpsW.addw rfl rfl (col_lt (lim_lt _ _) hy hG0 ht1 he83 he89 he94 he98) rfl fun s103 he103 => ?_
    have E1 := col he83 he89 he94 he98 he103
    have hG1 : s103 < 18446744073709551616 := by rw [he103]; exact col_lt (lim_lt _ _) hy hG0 ht1 he83 he89 he94 he98
    clear he83 he89 he94 he98 he103
    refine OpsW.det (det_assign rfl) rfl ?_
    refine sNext ?_
    refine W.keep (F' := [(22, _), (20, _), (25, _), (23, _), (18, _), (46, _), (45, _), (7, _), (8, _), (9, _), (10, _), (11, _), (12, _), (13, _), (14, _), (15, _), (16, _), (4, _)]) ⟨rfl, rfl, rfl, rfl, rfl, rfl, rfl, rfl, rfl, rfl, rfl, rfl, rfl, rfl, rfl, rfl, rfl, rfl, trivial⟩ ?_
    refine sSeq ?_
    refine W.region ?_
    refine OpsW.det (det_move rfl) rfl ?_
    refine OpsW.mul64 (b := 2210141511517208575) rfl rfl (by first | assumption | exact lim_lt _ _ | decide) (by first | assumption | exact lim_lt _ _ | decide) rfl fun hi106 lo106 he106 hs106 hk106 => ?_
    refine OpsW.det (det_move rfl) rfl ?_
    refine OpsW.det (det_extract rfl rfl) rfl ?_
    refine OpsW.det (det_extract rfl rfl) rfl ?_
    refine OpsW.det (det_assign rfl) rfl ?_
    refine OpsW.det (det_assign rfl) rfl ?_
    refine sNext ?_
    refine W.keep (F' := [(24, _), (19, _), (22, _), (20, _), (25, _), (23, _), (18, _), (46, _), (45, _), (7, _), (8, _), (9, _), (10, _), (11, _), (12, _), (13, _), (14, _), (15, _), (16, _), (4, _)]) ⟨rfl, rfl, rfl, rfl, rfl, rfl, rfl, rfl, rfl, rfl, rfl, rfl, rfl, rfl, rfl, rfl, rfl, rfl, rfl, rfl, trivial⟩ ?_
    refine sSeq ?_
    refine W.region ?_
    refine OpsW.det (det_move rfl) rfl ?_
    refine OpsW.det (det_move rfl) rfl ?_
    refine OpsW.add64 (e := 0) rfl rfl rfl (by first | assumption | exact lim_lt _ _ | decide) (by first | assumption | exact lim_lt _ _ | decide) (by first | assumption | decide) rfl fun s112 c112 he112 hs112 hk112 => ?_
    refine OpsW.det (det_move rfl) rfl ?_
    refine OpsW.det (det_extract rfl rfl) rfl ?_
    refine OpsW.det (det_extract rfl rfl) rfl ?_
    refine OpsW.det (det_assign rfl) rfl ?_
    refine OpsW.det (det_assign rfl) rfl ?_
    refine sNext ?_
    refine W.keep (F' := [(21, _), (24, _), (19, _), (22, _), (20, _), (23, _), (18, _), (46, _), (45, _), (7, _), (8, _), (9, _), (10, _), (11, _), (12, _), (13, _), (14, _), (15, _), (16, _), (4, _)]) ⟨rfl, rfl, rfl, rfl, rfl, rfl, rfl, rfl, rfl, rfl, rfl, rfl, rfl, rfl, rfl, rfl, rfl, rfl, rfl, rfl, trivial⟩ ?_
    refine sSeq ?_
    refine W.region ?_
    refine OpsW.det (det_move rfl) rfl ?_
    refine OpsW.det (det_move rfl) rfl ?_
    refine OpsW.addw rfl rfl (hi_lt hk106 hk112) rfl fun s117 he117 => ?_
    refine OpsW.det (det_assign rfl) rfl ?_
    refine sNext ?_
    refine W.keep (F' := [(19, _), (24, _), (22, _), (20, _), (23, _), (18, _), (46, _), (45, _), (7, _), (8, _), (9, _), (10, _), (11, _), (12, _), (13, _), (14, _), (15, _), (16, _), (4, _)]) ⟨rfl, rfl, rfl, rfl, rfl, rfl, rfl, rfl, rfl, rfl, rfl, rfl, rfl, rfl, rfl, rfl, rfl, rfl, rfl, trivial⟩ ?_
    refine sSeq ?_
    refine W.region ?_
    refine OpsW.det (det_move rfl) rfl ?_
    refine OpsW.det (det_move rfl) rfl ?_
    refine OpsW.add64 (e := 0) rfl rfl rfl (by first | assumption | exact lim_lt _ _ | decide) (by first | assumption | exact lim_lt _ _ | decide) (by first | assumption | decide) rfl fun s121 c121 he121 hs121 hk121 => ?_
    refine OpsW.det (det_move rfl) rfl ?_
    refine OpsW.det (det_extract rfl rfl) rfl ?_
    refine OpsW.det (det_extract rfl rfl) rfl ?_
    refine OpsW.det (det_assign rfl) rfl ?_
    refine OpsW.det (det_assign rfl) rfl ?_
    refine sNext ?_
    refine W.keep (F' := [(21, _), (5, _), (19, _), (22, _), (23, _), (18, _), (46, _), (45, _), (7, _), (8, _), (9, _), (10, _), (11, _), (12, _), (13, _), (14, _), (15, _), (16, _), (4, _)]) ⟨rfl, rfl, rfl, rfl, rfl, rfl, rfl, rfl, rfl, rfl, rfl, rfl, rfl, rfl, rfl, rfl, rfl, rfl, rfl, trivial⟩ ?_
    refine sSeq ?_
    refine W.region ?_
    refine OpsW.det (det_move rfl) rfl ?_
    refine OpsW.det (det_move rfl) rfl ?_
    refine OpsW.addw rfl rfl (col_lt hs65 (by decide) hF0 hs98 he106 he112 he117 he121) rfl fun s126 he126 => ?_
    have F1 := col he106 he112 he117 he121 he126
    have hF1 : s126 < 18446744073709551616 := by rw [he126]; exact col_lt hs65 (by decide) hF0 hs98 he106 he112 he117 he121
    clear he106 he112 he117 he121 he126
    refine OpsW.det (det_assign rfl) rfl ?_
    refine sNext ?_
    refine W.keep (F' := [(25, _), (5, _), (22, _), (23, _), (18, _), (46, _), (45, _), (7, _), (8, _), (9, _), (10, _), (11, _), (12, _), (13, _), (14, _), (15, _), (16, _), (4, _)]) ⟨rfl, rfl, rfl, rfl, rfl, rfl, rfl, rfl, rfl, rfl, rfl, rfl, rfl, rfl, rfl, rfl, rfl, rfl, trivial⟩ ?_
    refine sSeq ?_
    refine W.region ?_
    refine OpsW.det (det_move rfl) rfl ?_
    refine OpsW.det (det_move rfl) rfl ?_
    refine OpsW.mul64 rfl rfl (by first | assumption | exact lim_lt _ _ | decide) (by first | assumption | exact lim_lt _ _ | decide) rfl fun hi130 lo130 he130 hs130 hk130 => ?_
    refine OpsW.det (det_move rfl) rfl ?_
    refine OpsW.det (det_extract rfl rfl) rfl ?_
    refine OpsW.det (det_extract rfl rfl) rfl ?_
    refine OpsW.det (det_assign rfl) rfl ?_
    refine OpsW.det (det_assign rfl) rfl ?_
    refine sNext ?_
    refine W.keep (F' := [(20, _), (19, _), (25, _), (5, _), (22, _), (23, _), (18, _), (46, _), (45, _), (7, _), (8, _), (9, _), (10, _), (11, _), (12, _), (13, _), (14, _), (15, _), (16, _), (4, _)]) ⟨rfl, rfl, rfl, rfl, rfl, rfl, rfl, rfl, rfl, rfl, rfl, rfl, rfl, rfl, rfl, rfl, rfl, rfl, rfl, rfl, trivial⟩ ?_
    refine sSeq ?_
    refine W.region ?_
    refine OpsW.det (det_move rfl) rfl ?_
    refine OpsW.det (det_move rfl) rfl ?_
    refine OpsW.add64 (e := 0) rfl rfl rfl (by first | assumption | exact lim_lt _ _ | decide) (by first | assumption | exact lim_lt _ _ | decide) (by first | assumption | decide) rfl fun s136 c136 he136 hs136 hk136 => ?_
    refine OpsW.det (det_move rfl) rfl ?_
    refine OpsW.det (det_extract rfl rfl) rfl ?_
    refine OpsW.det (det_extract rfl rfl) rfl ?_
    refine OpsW.det (det_assign rfl) rfl ?_
    refine OpsW.det (det_assign rfl) rfl ?_
    refine sNext ?_
    refine W.keep (F' := [(21, _), (20, _), (19, _), (25, _), (5, _), (23, _), (18, _), (46, _), (45, _), (7, _), (8, _), (9, _), (10, _), (11, _), (12, _), (13, _), (14, _), (15, _), (16, _), (4, _)]) ⟨rfl, rfl, rfl, rfl, rfl, rfl, rfl, rfl, rfl, rfl, rfl, rfl, rfl, rfl, rfl, rfl, rfl, rfl, rfl, rfl, trivial⟩ ?_
    refine sSeq ?_
    refine W.region ?_
    refine OpsW.det (det_move rfl) rfl ?_
    refine OpsW.det (det_move rfl) rfl ?_
    refine OpsW.addw rfl rfl (hi_lt hk130 hk136) rfl fun s141 he141 => ?_
    refine OpsW.det (det_assign rfl) rfl ?_
    refine sNext ?_
    refine W.keep (F' := [(19, _), (20, _), (25, _), (5, _), (23, _), (18, _), (46, _), (45, _), (7, _), (8, _), (9, _), (10, _), (11, _), (12, _), (13, _), (14, _), (15, _), (16, _), (4, _)]) ⟨rfl, rfl, rfl, rfl, rfl, rfl, rfl, rfl, rfl, rfl, rfl, rfl, rfl, rfl, rfl, rfl, rfl, rfl, rfl, trivial⟩ ?_
    refine sSeq ?_
    refine W.region ?_
    refine OpsW.det (det_move rfl) rfl ?_
    refine OpsW.det (det_move rfl) rfl ?_
    refine OpsW.add64 (e := 0) rfl rfl rfl (by first | assumption | exact lim_lt _ _ | decide) (by first | assumption | exact lim_lt _ _ | decide) (by first | assumption | decide) rfl fun s145 c145 he145 hs145 hk145 => ?_
    refine OpsW.det (det_move rfl) rfl ?_
    refine OpsW.det (det_extract rfl rfl) rfl ?_
    refine OpsW.det (det_extract rfl rfl) rfl ?_
    refine OpsW.det (det_assign rfl) rfl ?_
    refine OpsW.det (det_assign rfl) rfl ?_
    refine sNext ?_
    refine W.keep (F' := [(21, _), (20, _), (19, _), (25, _), (5, _), (23, _), (18, _), (46, _), (45, _), (8, _), (9, _), (10, _), (11, _), (12, _), (13, _), (14, _), (15, _), (16, _), (4, _)]) ⟨rfl, rfl, rfl, rfl, rfl, rfl, rfl, rfl, rfl, rfl, rfl, rfl, rfl, rfl, rfl, rfl, rfl, rfl, rfl, trivial⟩ ?_
    refine sSeq ?_
    refine W.region ?_
    refine OpsW.det (det_move rfl) rfl ?_
    refine OpsW.det (det_move rfl) rfl ?_
    refine OpsW.addw rfl rfl (col_lt (lim_lt _ _) hy hG1 ht2 he130 he136 he141 he145) rfl fun s150 he150 => ?_
    have E2 := col he130 he136 he141 he145 he150
    have hG2 : s150 < 18446744073709551616 := by rw [he150]; exact col_lt (lim_lt _ _) hy hG1 ht2 he130 he136 he141 he145
    clear he130 he136 he141 he145 he150
    refine OpsW.det (det_assign rfl) rfl ?_
    refine sNext ?_
    refine W.keep (F' := [(22, _), (20, _), (25, _), (5, _), (23, _), (18, _), (46, _), (45, _), (8, _), (9, _), (10, _), (11, _), (12, _), (13, _), (14, _), (15, _), (16, _), (4, _)]) ⟨rfl, rfl, rfl, rfl, rfl, rfl, rfl, rfl, rfl, rfl, rfl, rfl, rfl, rfl, rfl, rfl, rfl, rfl, trivial⟩ ?_
    refine sSeq ?_
    refine W.region ?_
    refine OpsW.det (det_move rfl) rfl ?_
    refine OpsW.mul64 (b := 7435674573564081700) rfl rfl (by first | assumption | exact lim_lt _ _ | decide) (by first | assumption | exact lim_lt _ _ | decide) rfl fun hi153 lo153 he153 hs153 hk153 => ?_
    refine OpsW.det (det_move rfl) rfl ?_
    refine OpsW.det (det_extract rfl rfl) rfl ?_
    refine OpsW.det (det_extract rfl rfl) rfl ?_
    refine OpsW.det (det_assign rfl) rfl ?_
    refine OpsW.det (det_assign rfl) rfl ?_
    refine sNext ?_
    refine W.keep (F' := [(24, _), (19, _), (22, _), (20, _), (25, _), (5, _), (23, _), (18, _), (46, _), (45, _), (8, _), (9, _), (10, _), (11, _), (12, _), (13, _), (14, _), (15, _), (16, _), (4, _)]) ⟨rfl, rfl, rfl, rfl, rfl, rfl, rfl, rfl, rfl, rfl, rfl, rfl, rfl, rfl, rfl, rfl, rfl, rfl, rfl, rfl, trivial⟩ ?_
    refine sSeq ?_
    refine W.region ?_
    refine OpsW.det (det_move rfl) rfl ?_
    refine OpsW.det (det_move rfl) rfl ?_
    refine OpsW.add64 (e := 0) rfl rfl rfl (by first | assumption | exact lim_lt _ _ | decide) (by first | assumption | exact lim_lt _ _ | decide) (by first | assumption | decide) rfl fun s159 c159 he159 hs159 hk159 => ?_
    refine OpsW.det (det_move rfl) rfl ?_
    refine OpsW.det (det_extract rfl rfl) rfl ?_
    refine OpsW.det (det_extract rfl rfl) rfl ?_
    refine OpsW.det (det_assign rfl) rfl ?_
    refine OpsW.det (det_assign rfl) rfl ?_
    refine sNext ?_
    refine W.keep (F' := [(21, _), (24, _), (19, _), (22, _), (20, _), (5, _), (23, _), (18, _), (46, _), (45, _), (8, _), (9, _), (10, _), (11, _), (12, _), (13, _), (14, _), (15, _), (16, _), (4, _)]) ⟨rfl, rfl, rfl, rfl, rfl, rfl, rfl, rfl, rfl, rfl, rfl, rfl, rfl, rfl, rfl, rfl, rfl, rfl, rfl, rfl, trivial⟩ ?_
    refine sSeq ?_
    refine W.region ?_
    refine OpsW.det (det_move rfl) rfl ?_
    refine OpsW.det (det_move rfl) rfl ?_
    refine OpsW.addw rfl rfl (hi_lt hk153 hk159) rfl fun s164 he164 => ?_
    refine OpsW.det (det_assign rfl) rfl ?_
    refine sNext ?_
    refine W.keep (F' := [(19, _), (24, _), (22, _), (20, _), (5, _), (23, _), (18, _), (46, _), (45, _), (8, _), (9, _), (10, _), (11, _), (12, _), (13, _), (14, _), (15, _), (16, _), (4, _)]) ⟨rfl, rfl, rfl, rfl, rfl, rfl, rfl, rfl, rfl, rfl, rfl, rfl, rfl, rfl, rfl, rfl, rfl, rfl, rfl, trivial⟩ ?_
    refine sSeq ?_
    refine W.region ?_
    refine OpsW.det (det_move rfl) rfl ?_
    refine OpsW.det (det_move rfl) rfl ?_
    refine OpsW.add64 (e := 0) rfl rfl rfl (by first | assumption | exact lim_lt _ _ | decide) (by first | assumption | exact lim_lt _ _ | decide) (by first | assumption | decide) rfl fun s168 c168 he168 hs168 hk168 => ?_
    refine OpsW.det (det_move rfl) rfl ?_
    refine OpsW.det (det_extract rfl rfl) rfl ?_
    refine OpsW.det (det_extract rfl rfl) rfl ?_
    refine OpsW.det (det_assign rfl) rfl ?_
    refine OpsW.det (det_assign rfl) rfl ?_
    refine sNext ?_
    refine W.keep (F' := [(21, _), (6, _), (19, _), (22, _), (5, _), (23, _), (18, _), (46, _), (45, _), (8, _), (9, _), (10, _), (11, _), (12, _), (13, _), (14, _), (15, _), (16, _), (4, _)]) ⟨rfl, rfl, rfl, rfl, rfl, rfl, rfl, rfl, rfl, rfl, rfl, rfl, rfl, rfl, rfl, rfl, rfl, rfl, rfl, trivial⟩ ?_
    refine sSeq ?_
    refine W.region ?_
    refine OpsW.det (det_move rfl) rfl ?_
    refine OpsW.det (det_move rfl) rfl ?_
    refine OpsW.addw rfl rfl (col_lt hs65 (by decide) hF1 hs145 he153 he159 he164 he168) rfl fun s173 he173 => ?_
    have F2 := col he153 he159 he164 he168 he173
    have hF2 : s173 < 18446744073709551616 := by rw [he173]; exact col_lt hs65 (by decide) hF1 hs145 he153 he159 he164 he168
    clear he153 he159 he164 he168 he173
    refine OpsW.det (det_assign rfl) rfl ?_
    refine sNext ?_
    refine W.keep (F' := [(25, _), (6, _), (22, _), (5, _), (23, _), (18, _), (46, _), (45, _), (8, _), (9, _), (10, _), (11, _), (12, _), (13, _), (14, _), (15, _), (16, _), (4, _)]) ⟨rfl, rfl, rfl, rfl, rfl, rfl, rfl, rfl, rfl, rfl, rfl, rfl, rfl, rfl, rfl, rfl, rfl, rfl, trivial⟩ ?_
    refine sSeq ?_
    refine W.region ?_
    refine OpsW.det (det_move rfl) rfl ?_
    refine OpsW.det (det_move rfl) rfl ?_
    refine OpsW.mul64 rfl rfl (by first | assumption | exact lim_lt _ _ | decide) (by first | assumption | exact lim_lt _ _ | decide) rfl fun hi177 lo177 he177 hs177 hk177 => ?_
    refine OpsW.det (det_move rfl) rfl ?_
    refine OpsW.det (det_extract rfl rfl) rfl ?_
    refine OpsW.det (det_extract rfl rfl) rfl ?_
    refine OpsW.det (det_assign rfl) rfl ?_
    refine OpsW.det (det_assign rfl) rfl ?_
    refine sNext ?_
    refine W.keep (F' := [(20, _), (19, _), (25, _), (6, _), (22, _), (5, _), (23, _), (18, _), (46, _), (45, _), (8, _), (9, _), (10, _), (11, _), (12, _), (13, _), (14, _), (15, _), (16, _), (4, _)]) ⟨rfl, rfl, rfl, rfl, rfl, rfl, rfl, rfl, rfl, rfl, rfl, rfl, rfl, rfl, rfl, rfl, rfl, rfl, rfl, rfl, trivial⟩ ?_
    refine sSeq ?_
    refine W.region ?_
    refine OpsW.det (det_move rfl) rfl ?_
    refine OpsW.det (det_move rfl) rfl ?_
    refine OpsW.add64 (e := 0) rfl rfl rfl (by first | assumption | exact lim_lt _ _ | decide) (by first | assumption | exact lim_lt _ _ | decide) (by first | assumption | decide) rfl fun s183 c183 he183 hs183 hk183 => ?_
    refine OpsW.det (det_move rfl) rfl ?_
    refine OpsW.det (det_extract rfl rfl) rfl ?_
    refine OpsW.det (det_extract rfl rfl) rfl ?_
    refine OpsW.det (det_assign rfl) rfl ?_
    refine OpsW.det (det_assign rfl) rfl ?_
    refine sNext ?_
    refine W.keep (F' := [(21, _), (20, _), (19, _), (25, _), (6, _), (5, _), (23, _), (18, _), (46, _), (45, _), (8, _), (9, _), (10, _), (11, _), (12, _), (13, _), (14, _), (15, _), (16, _), (4, _)]) ⟨rfl, rfl, rfl, rfl, rfl, rfl, rfl, rfl, rfl, rfl, rfl, rfl, rfl, rfl, rfl, rfl, rfl, rfl, rfl, rfl, trivial⟩ ?_
    refine sSeq ?_
    refine W.region ?_
    refine OpsW.det (det_move rfl) rfl ?_
    refine OpsW.det (det_move rfl) rfl ?_
    refine OpsW.addw rfl rfl (hi_lt hk177 hk183) rfl fun s188 he188 => ?_
    refine OpsW.det (det_assign rfl) rfl ?_
    refine sNext ?_
    refine W.keep (F' := [(19, _), (20, _), (25, _), (6, _), (5, _), (23, _), (18, _), (46, _), (45, _), (8, _), (9, _), (10, _), (11, _), (12, _), (13, _), (14, _), (15, _), (16, _), (4, _)]) ⟨rfl, rfl, rfl, rfl, rfl, rfl, rfl, rfl, rfl, rfl, rfl, rfl, rfl, rfl, rfl, rfl, rfl, rfl, rfl, trivial⟩ ?_
    refine sSeq ?_
    refine W.region ?_
    refine OpsW.det (det_move rfl) rfl ?_
    refine OpsW.det (det_move rfl) rfl ?_
    refine OpsW.add64 (e := 0) rfl rfl rfl (by first | assumption | exact lim_lt _ _ | decide) (by first | assumption | exact lim_lt _ _ | decide) (by first | assumption | decide) rfl fun s192 c192 he192 hs192 hk192 => ?_
    refine OpsW.det (det_move rfl) rfl ?_
    refine OpsW.det (det_extract rfl rfl) rfl ?_
    refine OpsW.det (det_extract rfl rfl) rfl ?_
    refine OpsW.det (det_assign rfl) rfl ?_
    refine OpsW.det (det_assign rfl) rfl ?_
    refine sNext ?_
    refine W.keep (F' := [(21, _), (20, _), (19, _), (25, _), (6, _), (5, _), (23, _), (18, _), (46, _), (45, _), (9, _), (10, _), (11, _), (12, _), (13, _), (14, _), (15, _), (16, _), (4, _)]) ⟨rfl, rfl, rfl, rfl, rfl, rfl, rfl, rfl, rfl, rfl, rfl, rfl, rfl, rfl, rfl, rfl, rfl, rfl, rfl, trivial⟩ ?_
    refine sSeq ?_
    refine W.region ?_
    refine OpsW.det (det_move rfl) rfl ?_
    refine OpsW.det (det_move rfl) rfl ?_
    refine OpsW.addw rfl rfl (col_lt (lim_lt _ _) hy hG2 ht3 he177 he183 he188 he192) rfl fun s197 he197 => ?_
    have E3 := col he177 he183 he188 he192 he197
    have hG3 : s197 < 18446744073709551616 := by rw [he197]; exact col_lt (lim_lt _ _) hy hG2 ht3 he177 he183 he188 he192
    clear he177 he183 he188 he192 he197
    refine OpsW.det (det_assign rfl) rfl ?_
    refine sNext ?_
    refine W.keep (F' := [(22, _), (20, _), (25, _), (6, _), (5, _), (23, _), (18, _), (46, _), (45, _), (9, _), (10, _), (11, _), (12, _), (13, _), (14, _), (15, _), (16, _), (4, _)]) ⟨rfl, rfl, rfl, rfl, rfl, rfl, rfl, rfl, rfl, rfl, rfl, rfl, rfl, rfl, rfl, rfl, rfl, rfl, trivial⟩ ?_
    refine sSeq ?_
    refine W.region ?_
    refine OpsW.det (det_move rfl) rfl ?_
    refine OpsW.mul64 (b := 7239337960414712511) rfl rfl (by first | assumption | exact lim_lt _ _ | decide) (by first | assumption | exact lim_lt _ _ | decide) rfl fun hi200 lo200 he200 hs200 hk200 => ?_
    refine OpsW.det (det_move rfl) rfl ?_
    refine OpsW.det (det_extract rfl rfl) rfl ?_
    refine OpsW.det (det_extract rfl rfl) rfl ?_
    refine OpsW.det (det_assign rfl) rfl ?_
    refine OpsW.det (det_assign rfl) rfl ?_
    refine sNext ?_
    refine W.keep (F' := [(24, _), (19, _), (22, _), (20, _), (25, _), (6, _), (5, _), (23, _), (18, _), (46, _), (45, _), (9, _), (10, _), (11, _), (12, _), (13, _), (14, _), (15, _), (16, _), (4, _)]) ⟨rfl, rfl, rfl, rfl, rfl, rfl, rfl, rfl, rfl, rfl, rfl, rfl, rfl, rfl, rfl, rfl, rfl, rfl, rfl, rfl, trivial⟩ ?_
    refine sSeq ?_
    refine W.region ?_
    refine OpsW.det (det_move rfl) rfl ?_
    refine OpsW.det (det_move rfl) rfl ?_
    refine OpsW.add64 (e := 0) rfl rfl rfl (by first | assumption | exact lim_lt _ _ | decide) (by first | assumption | exact lim_lt _ _ | decide) (by first | assumption | decide) rfl fun s206 c206 he206 hs206 hk206 => ?_
    refine OpsW.det (det_move rfl) rfl ?_
    refine OpsW.det (det_extract rfl rfl) rfl ?_
    refine OpsW.det (det_extract rfl rfl) rfl ?_
    refine OpsW.det (det_assign rfl) rfl ?_
    refine OpsW.det (det_assign rfl) rfl ?_
    refine sNext ?_
    refine W.keep (F' := [(21, _), (24, _), (19, _), (22, _), (20, _), (6, _), (5, _), (23, _), (18, _), (46, _), (45, _), (9, _), (10, _), (11, _), (12, _), (13, _), (14, _), (15, _), (16, _), (4, _)]) ⟨rfl, rfl, rfl, rfl, rfl, rfl, rfl, rfl, rfl, rfl, rfl, rfl, rfl, rfl, rfl, rfl, rfl, rfl, rfl, rfl, trivial⟩ ?_
    refine sSeq ?_
    refine W.region ?_
    refine OpsW.det (det_move rfl) rfl ?_
    refine OpsW.det (det_move rfl) rfl ?_
    refine OpsW.addw rfl rfl (hi_lt hk200 hk206) rfl fun s211 he211 => ?_
    refine OpsW.det (det_assign rfl) rfl ?_
    refine sNext ?_
    refine W.keep (F' := [(19, _), (24, _), (22, _), (20, _), (6, _), (5, _), (23, _), (18, _), (46, _), (45, _), (9, _), (10, _), (11, _), (12, _), (13, _), (14, _), (15, _), (16, _), (4, _)]) ⟨rfl, rfl, rfl, rfl, rfl, rfl, rfl, rfl, rfl, rfl, rfl, rfl, rfl, rfl, rfl, rfl, rfl, rfl, rfl, trivial⟩ ?_
    refine sSeq ?_
    refine W.region ?_
    refine OpsW.det (det_move rfl) rfl ?_
    refine OpsW.det (det_move rfl) rfl ?_
    refine OpsW.add64 (e := 0) rfl rfl rfl (by first | assumption | exact lim_lt _ _ | decide) (by first | assumption | exact lim_lt _ _ | decide) (by first | assumption | decide) rfl fun s215 c215 he215 hs215 hk215 => ?_
    refine OpsW.det (det_move rfl) rfl ?_
    refine OpsW.det (det_extract rfl rfl) rfl ?_
    refine OpsW.det (det_extract rfl rfl) rfl ?_
    refine OpsW.det (det_assign rfl) rfl ?_
    refine OpsW.det (det_assign rfl) rfl ?_
    refine sNext ?_
    refine W.keep (F' := [(21, _), (7, _), (19, _), (22, _), (6, _), (5, _), (23, _), (18, _), (46, _), (45, _), (9, _), (10, _), (11, _), (12, _), (13, _), (14, _), (15, _), (16, _), (4, _)]) ⟨rfl, rfl, rfl, rfl, rfl, rfl, rfl, rfl, rfl, rfl, rfl, rfl, rfl, rfl, rfl, rfl, rfl, rfl, rfl, trivial⟩ ?_
    refine sSeq ?_
    refine W.region ?_
    refine OpsW.det (det_move rfl) rfl ?_
    refine OpsW.det (det_move rfl) rfl ?_
    refine OpsW.addw rfl rfl (col_lt hs65 (by decide) hF2 hs192 he200 he206 he211 he215) rfl fun s220 he220 => ?_
    have F3 := col he200 he206 he211 he215 he220
    have hF3 : s220 < 18446744073709551616 := by rw [he220]; exact col_lt hs65 (by decide) hF2 hs192 he200 he206 he211 he215
    clear he200 he206 he211 he215 he220
    refine OpsW.det (det_assign rfl) rfl ?_
    refine sNext ?_
    refine W.keep (F' := [(25, _), (7, _), (22, _), (6, _), (5, _), (23, _), (18, _), (46, _), (45, _), (9, _), (10, _), (11, _), (12, _), (13, _), (14, _), (15, _), (16, _), (4, _)]) ⟨rfl, rfl, rfl, rfl, rfl, rfl, rfl, rfl, rfl, rfl, rfl, rfl, rfl, rfl, rfl, rfl, rfl, rfl, trivial⟩ ?_
    refine sSeq ?_
    refine W.region ?_
    refine OpsW.det (det_move rfl) rfl ?_
    refine OpsW.det (det_move rfl) rfl ?_
    refine OpsW.mul64 rfl rfl (by first | assumption | exact lim_lt _ _ | decide) (by first | assumption | exact lim_lt _ _ | decide) rfl fun hi224 lo224 he224 hs224 hk224 => ?_
    refine OpsW.det (det_move rfl) rfl ?_
    refine OpsW.det (det_extract rfl rfl) rfl ?_
    refine OpsW.det (det_extract rfl rfl) rfl ?_
    refine OpsW.det (det_assign rfl) rfl ?_
    refine OpsW.det (det_assign rfl) rfl ?_
    refine sNext ?_
    refine W.keep (F' := [(20, _), (19, _), (25, _), (7, _), (22, _), (6, _), (5, _), (23, _), (18, _), (46, _), (45, _), (9, _), (10, _), (11, _), (12, _), (13, _), (14, _), (15, _), (16, _), (4, _)]) ⟨rfl, rfl, rfl, rfl, rfl, rfl, rfl, rfl, rfl, rfl, rfl, rfl, rfl, rfl, rfl, rfl, rfl, rfl, rfl, rfl, trivial⟩ ?_
    refine sSeq ?_
    refine W.region ?_
    refine OpsW.det (det_move rfl) rfl ?_
    refine OpsW.det (det_move rfl) rfl ?_
    refine OpsW.add64 (e := 0) rfl rfl rfl (by first | assumption | exact lim_lt _ _ | decide) (by first | assumption | exact lim_lt _ _ | decide) (by first | assumption | decide) rfl fun s230 c230 he230 hs230 hk230 => ?_
    refine OpsW.det (det_move rfl) rfl ?_
    refine OpsW.det (det_extract rfl rfl) rfl ?_
    refine OpsW.det (det_extract rfl rfl) rfl ?_
    refine OpsW.det (det_assign rfl) rfl ?_
    refine OpsW.det (det_assign rfl) rfl ?_
    refine sNext ?_
    refine W.keep (F' := [(21, _), (20, _), (19, _), (25, _), (7, _), (6, _), (5, _), (23, _), (18, _), (46, _), (45, _), (9, _), (10, _), (11, _), (12, _), (13, _), (14, _), (15, _), (16, _), (4, _)]) ⟨rfl, rfl, rfl, rfl, rfl, rfl, rfl, rfl, rfl, rfl, rfl, rfl, rfl, rfl, rfl, rfl, rfl, rfl, rfl, rfl, trivial⟩ ?_
    refine sSeq ?_
    refine W.region ?_
    refine OpsW.det (det_move rfl) rfl ?_
    refine OpsW.det (det_move rfl) rfl ?_
    refine OpsW.addw rfl rfl (hi_lt hk224 hk230) rfl fun s235 he235 => ?_
    refine OpsW.det (det_assign rfl) rfl ?_
    refine sNext ?_
    refine W.keep (F' := [(19, _), (20, _), (25, _), (7, _), (6, _), (5, _), (23, _), (18, _), (46, _), (45, _), (9, _), (10, _), (11, _), (12, _), (13, _), (14, _), (15, _), (16, _), (4, _)]) ⟨rfl, rfl, rfl, rfl, rfl, rfl, rfl, rfl, rfl, rfl, rfl, rfl, rfl, rfl, rfl, rfl, rfl, rfl, rfl, trivial⟩ ?_
    refine sSeq ?_
    refine W.region ?_
    refine OpsW.det (det_move rfl) rfl ?_
    refine OpsW.det (det_move rfl) rfl ?_
    refine OpsW.add64 (e := 0) rfl rfl rfl (by first | assumption | exact lim_lt _ _ | decide) (by first | assumption | exact lim_lt _ _ | decide) (by first | assumption | decide) rfl fun s239 c239 he239 hs239 hk239 => ?_
    refine OpsW.det (det_move rfl) rfl ?_
    refine OpsW.det (det_extract rfl rfl) rfl ?_
    refine OpsW.det (det_extract rfl rfl) rfl ?_
    refine OpsW.det (det_assign rfl) rfl ?_
    refine OpsW.det (det_assign rfl) rfl ?_
    refine sNext ?_
    refine W.keep (F' := [(21, _), (20, _), (19, _), (25, _), (7, _), (6, _), (5, _), (23, _), (18, _), (46, _), (45, _), (10, _), (11, _), (12, _), (13, _), (14, _), (15, _), (16, _), (4, _)]) ⟨rfl, rfl, rfl, rfl, rfl, rfl, rfl, rfl, rfl, rfl, rfl, rfl, rfl, rfl, rfl, rfl, rfl, rfl, rfl, trivial⟩ ?_
    refine sSeq ?_
    refine W.region ?_
    refine OpsW.det (det_move rfl) rfl ?_
    refine OpsW.det (det_move rfl) rfl ?_
    refine OpsW.addw rfl rfl (col_lt (lim_lt _ _) hy hG3 ht4 he224 he230 he235 he239) rfl fun s244 he244 => ?_
    have E4 := col he224 he230 he235 he239 he244
    have hG4 : s244 < 18446744073709551616 := by rw [he244]; exact col_lt (lim_lt _ _) hy hG3 ht4 he224 he230 he235 he239
    clear he224 he230 he235 he239 he244
    refine OpsW.det (det_assign rfl) rfl ?_
    refine sNext ?_
    refine W.keep (F' := [(22, _), (20, _), (25, _), (7, _), (6, _), (5, _), (23, _), (18, _), (46, _), (45, _), (10, _), (11, _), (12, _), (13, _), (14, _), (15, _), (16, _), (4, _)]) ⟨rfl, rfl, rfl, rfl, rfl, rfl, rfl, rfl, rfl, rfl, rfl, rfl, rfl, rfl, rfl, rfl, rfl, rfl, trivial⟩ ?_
    refine sSeq ?_
    refine W.region ?_
    refine OpsW.det (det_move rfl) rfl ?_
    refine OpsW.mul64 (b := 5412103778470702295) rfl rfl (by first | assumption | exact lim_lt _ _ | decide) (by first | assumption | exact lim_lt _ _ | decide) rfl fun hi247 lo247 he247 hs247 hk247 => ?_
    refine OpsW.det (det_move rfl) rfl ?_
    refine OpsW.det (det_extract rfl rfl) rfl ?_
    refine OpsW.det (det_extract rfl rfl) rfl ?_
    refine OpsW.det (det_assign rfl) rfl ?_
    refine OpsW.det (det_assign rfl) rfl ?_
    refine sNext ?_
    refine W.keep (F' := [(24, _), (19, _), (22, _), (20, _), (25, _), (7, _), (6, _), (5, _), (23, _), (18, _), (46, _), (45, _), (10, _), (11, _), (12, _), (13, _), (14, _), (15, _), (16, _), (4, _)]) ⟨rfl, rfl, rfl, rfl, rfl, rfl, rfl, rfl, rfl, rfl, rfl, rfl, rfl, rfl, rfl, rfl, rfl, rfl, rfl, rfl, trivial⟩ ?_
    refine sSeq ?_
    refine W.region ?_
    refine OpsW.det (det_move rfl) rfl ?_
    refine OpsW.det (det_move rfl) rfl ?_
    refine OpsW.add64 (e := 0) rfl rfl rfl (by first | assumption | exact lim_lt _ _ | decide) (by first | assumption | exact lim_lt _ _ | decide) (by first | assumption | decide) rfl fun s253 c253 he253 hs253 hk253 => ?_
    refine OpsW.det (det_move rfl) rfl ?_
    refine OpsW.det (det_extract rfl rfl) rfl ?_
    refine OpsW.det (det_extract rfl rfl) rfl ?_
    refine OpsW.det (det_assign rfl) rfl ?_
    refine OpsW.det (det_assign rfl) rfl ?_
    refine sNext ?_
    refine W.keep (F' := [(21, _), (24, _), (19, _), (22, _), (20, _), (7, _), (6, _), (5, _), (23, _), (18, _), (46, _), (45, _), (10, _), (11, _), (12, _), (13, _), (14, _), (15, _), (16, _), (4, _)]) ⟨rfl, rfl, rfl, rfl, rfl, rfl, rfl, rfl, rfl, rfl, rfl, rfl, rfl, rfl, rfl, rfl, rfl, rfl, rfl, rfl, trivial⟩ ?_
    refine sSeq ?_
    refine W.region ?_
    refine OpsW.det (det_move rfl) rfl ?_
    refine OpsW.det (det_move rfl) rfl ?_
    refine OpsW.addw rfl rfl (hi_lt hk247 hk253) rfl fun s258 he258 => ?_
    refine OpsW.det (det_assign rfl) rfl ?_
    refine sNext ?_
    refine W.keep (F' := [(19, _), (24, _), (22, _), (20, _), (7, _), (6, _), (5, _), (23, _), (18, _), (46, _), (45, _), (10, _), (11, _), (12, _), (13, _), (14, _), (15, _), (16, _), (4, _)]) ⟨rfl, rfl, rfl, rfl, rfl, rfl, rfl, rfl, rfl, rfl, rfl, rfl, rfl, rfl, rfl, rfl, rfl, rfl, rfl, trivial⟩ ?_
    refine sSeq ?_
    refine W.region ?_
    refine OpsW.det (det_move rfl) rfl ?_
    refine OpsW.det (det_move rfl) rfl ?_
    refine OpsW.add64 (e := 0) rfl rfl rfl (by first | assumption | exact lim_lt _ _ | decide) (by first | assumption | exact lim_lt _ _ | decide) (by first | assumption | decide) rfl fun s262 c262 he262 hs262 hk262 => ?_
    refine OpsW.det (det_move rfl) rfl ?_
    refine OpsW.det (det_extract rfl rfl) rfl ?_
    refine OpsW.det (det_extract rfl rfl) rfl ?_
    refine OpsW.det (det_assign rfl) rfl ?_
    refine OpsW.det (det_assign rfl) rfl ?_
    refine sNext ?_
    refine W.keep (F' := [(21, _), (8, _), (19, _), (22, _), (7, _), (6, _), (5, _), (23, _), (18, _), (46, _), (45, _), (10, _), (11, _), (12, _), (13, _), (14, _), (15, _), (16, _), (4, _)]) ⟨rfl, rfl, rfl, rfl, rfl, rfl, rfl, rfl, rfl, rfl, rfl, rfl, rfl, rfl, rfl, rfl, rfl, rfl, rfl, trivial⟩ ?_
    refine sSeq ?_
    refine W.region ?_
    refine OpsW.det (det_move rfl) rfl ?_
    refine OpsW.det (det_move rfl) rfl ?_
    refine OpsW.addw rfl rfl (col_lt hs65 (by decide) hF3 hs239 he247 he253 he258 he262) rfl fun s267 he267 => ?_
    have F4 := col he247 he253 he258 he262 he267
    have hF4 : s267 < 18446744073709551616 := by rw [he267]; exact col_lt hs65 (by decide) hF3 hs239 he247 he253 he258 he262
    clear he247 he253 he258 he262 he267
    refine OpsW.det (det_assign rfl) rfl ?_
    refine sNext ?_
    refine W.keep (F' := [(25, _), (8, _), (22, _), (7, _), (6, _), (5, _), (23, _), (18, _), (46, _), (45, _), (10, _), (11, _), (12, _), (13, _), (14, _), (15, _), (16, _), (4, _)]) ⟨rfl, rfl, rfl, rfl, rfl, rfl, rfl, rfl, rfl, rfl, rfl, rfl, rfl, rfl, rfl, rfl, rfl, rfl, trivial⟩ ?_
    refine sSeq ?_
    refine W.region ?_
    refine OpsW.det (det_move rfl) rfl ?_
    refine OpsW.det (det_move rfl) rfl ?_
    refine OpsW.mul64 rfl rfl (by first | assumption | exact lim_lt _ _ | decide) (by first | assumption | exact lim_lt _ _ | decide) rfl fun hi271 lo271 he271 hs271 hk271 => ?_
    refine OpsW.det (det_move rfl) rfl ?_
    refine OpsW.det (det_extract rfl rfl) rfl ?_
    refine OpsW.det (det_extract rfl rfl) rfl ?_
    refine OpsW.det (det_assign rfl) rfl ?_
    refine OpsW.det (det_assign rfl) rfl ?_
    refine sNext ?_
    refine W.keep (F' := [(20, _), (19, _), (25, _), (8, _), (22, _), (7, _), (6, _), (5, _), (23, _), (46, _), (45, _), (10, _), (11, _), (12, _), (13, _), (14, _), (15, _), (16, _), (4, _)]) ⟨rfl, rfl, rfl, rfl, rfl, rfl, rfl, rfl, rfl, rfl, rfl, rfl, rfl, rfl, rfl, rfl, rfl, rfl, rfl, trivial⟩ ?_
    refine sSeq ?_
    refine W.region ?_
    refine OpsW.det (det_move rfl) rfl ?_
    refine OpsW.det (det_move rfl) rfl ?_
    refine OpsW.add64 (e := 0) rfl rfl rfl (by first | assumption | exact lim_lt _ _ | decide) (by first | assumption | exact lim_lt _ _ | decide) (by first | assumption | decide) rfl fun s277 c277 he277 hs277 hk277 => ?_
    refine OpsW.det (det_move rfl) rfl ?_
    refine OpsW.det (det_extract rfl rfl) rfl ?_
    refine OpsW.det (det_extract rfl rfl) rfl ?_
    refine OpsW.det (det_assign rfl) rfl ?_
    refine OpsW.det (det_assign rfl) rfl ?_
    refine sNext ?_
    refine W.keep (F' := [(21, _), (20, _), (19, _), (25, _), (8, _), (7, _), (6, _), (5, _), (23, _), (46, _), (45, _), (10, _), (11, _), (12, _), (13, _), (14, _), (15, _), (16, _), (4, _)]) ⟨rfl, rfl, rfl, rfl, rfl, rfl, rfl, rfl, rfl, rfl, rfl, rfl, rfl, rfl, rfl, rfl, rfl, rfl, rfl, trivial⟩ ?_
    refine sSeq ?_
    refine W.region ?_
    refine OpsW.det (det_move rfl) rfl ?_
    refine OpsW.det (det_move rfl) rfl ?_
    refine OpsW.addw rfl rfl (hi_lt hk271 hk277) rfl fun s282 he282 => ?_
    refine OpsW.det (det_assign rfl) rfl ?_
    refine sNext ?_
    refine W.keep (F' := [(19, _), (20, _), (25, _), (8, _), (7, _), (6, _), (5, _), (23, _), (46, _), (45, _), (10, _), (11, _), (12, _), (13, _), (14, _), (15, _), (16, _), (4, _)]) ⟨rfl, rfl, rfl, rfl, rfl, rfl, rfl, rfl, rfl, rfl, rfl, rfl, rfl, rfl, rfl, rfl, rfl, rfl, trivial⟩ ?_
    refine sSeq ?_
    refine W.region ?_
    refine OpsW.det (det_move rfl) rfl ?_
    refine OpsW.det (det_move rfl) rfl ?_
    refine OpsW.add64 (e := 0) rfl rfl rfl (by first | assumption | exact lim_lt _ _ | decide) (by first | assumption | exact lim_lt _ _ | decide) (by first | assumption | decide) rfl fun s286 c286 he286 hs286 hk286 => ?_
    refine OpsW.det (det_move rfl) rfl ?_
    refine OpsW.det (det_extract rfl rfl) rfl ?_
    refine OpsW.det (det_extract rfl rfl) rfl ?_
    refine OpsW.det (det_assign rfl) rfl ?_
    refine OpsW.det (det_assign rfl) rfl ?_
    refine sNext ?_
    refine W.keep (F' := [(21, _), (20, _), (19, _), (25, _), (8, _), (7, _), (6, _), (5, _), (23, _), (46, _), (45, _), (11, _), (12, _), (13, _), (14, _), (15, _), (16, _), (4, _)]) ⟨rfl, rfl, rfl, rfl, rfl, rfl, rfl, rfl, rfl, rfl, rfl, rfl, rfl, rfl, rfl, rfl, rfl, rfl, trivial⟩ ?_
    refine sSeq ?_
    refine W.region ?_
    refine OpsW.det (det_move rfl) rfl ?_
    refine OpsW.det (det_move rfl) rfl ?_
    refine OpsW.addw rfl rfl (col_lt (lim_lt _ _) hy hG4 ht5 he271 he277 he282 he286) rfl fun s291 he291 => ?_
    have E5 := col he271 he277 he282 he286 he291
    have hG5 : s291 < 18446744073709551616 := by rw [he291]; exact col_lt (lim_lt _ _) hy hG4 ht5 he271 he277 he282 he286
    clear he271 he277 he282 he286 he291
    refine OpsW.det (det_assign rfl) rfl ?_
    refine sNext ?_
    refine W.keep (F' := [(22, _), (20, _), (25, _), (8, _), (7, _), (6, _), (5, _), (23, _), (46, _), (45, _), (11, _), (12, _), (13, _), (14, _), (15, _), (16, _), (4, _)]) ⟨rfl, rfl, rfl, rfl, rfl, rfl, rfl, rfl, rfl, rfl, rfl, rfl, rfl, rfl, rfl, rfl, rfl, trivial⟩ ?_
    refine sSeq ?_
    refine W.region ?_
    refine OpsW.det (det_move rfl) rfl ?_
    refine OpsW.mul64 (b := 1873798617647539866) rfl rfl (by first | assumption | exact lim_lt _ _ | decide) (by first | assumption | exact lim_lt _ _ | decide) rfl fun hi294 lo294 he294 hs294 hk294 => ?_
    refine OpsW.det (det_move rfl) rfl ?_
    refine OpsW.det (det_extract rfl rfl) rfl ?_
    refine OpsW.det (det_extract rfl rfl) rfl ?_
    refine OpsW.det (det_assign rfl) rfl ?_
    refine OpsW.det (det_assign rfl) rfl ?_
    refine sNext ?_
    refine W.keep (F' := [(24, _), (19, _), (22, _), (20, _), (25, _), (8, _), (7, _), (6, _), (5, _), (46, _), (45, _), (11, _), (12, _), (13, _), (14, _), (15, _), (16, _), (4, _)]) ⟨rfl, rfl, rfl, rfl, rfl, rfl, rfl, rfl, rfl, rfl, rfl, rfl, rfl, rfl, rfl, rfl, rfl, rfl, trivial⟩ ?_
    refine sSeq ?_
    refine W.region ?_
    refine OpsW.det (det_move rfl) rfl ?_
    refine OpsW.det (det_move rfl) rfl ?_
    refine OpsW.add64 (e := 0) rfl rfl rfl (by first | assumption | exact lim_lt _ _ | decide) (by first | assumption | exact lim_lt _ _ | decide) (by first | assumption | decide) rfl fun s300 c300 he300 hs300 hk300 => ?_
    refine OpsW.det (det_move rfl) rfl ?_
    refine OpsW.det (det_extract rfl rfl) rfl ?_
    refine OpsW.det (det_extract rfl rfl) rfl ?_
    refine OpsW.det (det_assign rfl) rfl ?_
    refine OpsW.det (det_assign rfl) rfl ?_
    refine sNext ?_
    refine W.keep (F' := [(21, _), (24, _), (19, _), (22, _), (20, _), (8, _), (7, _), (6, _), (5, _), (46, _), (45, _), (11, _), (12, _), (13, _), (14, _), (15, _), (16, _), (4, _)]) ⟨rfl, rfl, rfl, rfl, rfl, rfl, rfl, rfl, rfl, rfl, rfl, rfl, rfl, rfl, rfl, rfl, rfl, rfl, trivial⟩ ?_
    refine sSeq ?_
    refine W.region ?_
    refine OpsW.det (det_move rfl) rfl ?_
    refine OpsW.det (det_move rfl) rfl ?_
    refine OpsW.addw rfl rfl (hi_lt hk294 hk300) rfl fun s305 he305 => ?_
    refine OpsW.det (det_assign rfl) rfl ?_
    refine sNext ?_
    refine W.keep (F' := [(19, _), (24, _), (22, _), (20, _), (8, _), (7, _), (6, _), (5, _), (46, _), (45, _), (11, _), (12, _), (13, _), (14, _), (15, _), (16, _), (4, _)]) ⟨rfl, rfl, rfl, rfl, rfl, rfl, rfl, rfl, rfl, rfl, rfl, rfl, rfl, rfl, rfl, rfl, rfl, trivial⟩ ?_
    refine sSeq ?_
    refine W.region ?_
    refine OpsW.det (det_move rfl) rfl ?_
    refine OpsW.det (det_move rfl) rfl ?_
    refine OpsW.add64 (e := 0) rfl rfl rfl (by first | assumption | exact lim_lt _ _ | decide) (by first | assumption | exact lim_lt _ _ | decide) (by first | assumption | decide) rfl fun s309 c309 he309 hs309 hk309 => ?_
    refine OpsW.det (det_move rfl) rfl ?_
    refine OpsW.det (det_extract rfl rfl) rfl ?_
    refine OpsW.det (det_extract rfl rfl) rfl ?_
    refine OpsW.det (det_assign rfl) rfl ?_
    refine OpsW.det (det_assign rfl) rfl ?_
    refine sNext ?_
    refine W.keep (F' := [(21, _), (9, _), (19, _), (22, _), (8, _), (7, _), (6, _), (5, _), (46, _), (45, _), (11, _), (12, _), (13, _), (14, _), (15, _), (16, _), (4, _)]) ⟨rfl, rfl, rfl, rfl, rfl, rfl, rfl, rfl, rfl, rfl, rfl, rfl, rfl, rfl, rfl, rfl, rfl, trivial⟩ ?_
    refine sSeq ?_
    refine W.region ?_
    refine OpsW.det (det_move rfl) rfl ?_
    refine OpsW.det (det_move rfl) rfl ?_
    refine OpsW.addw rfl rfl (col_lt hs65 (by decide) hF4 hs286 he294 he300 he305 he309) rfl fun s314 he314 => ?_
    have F5 := col he294 he300 he305 he309 he314
    have hF5 : s314 < 18446744073709551616 := by rw [he314]; exact col_lt hs65 (by decide) hF4 hs286 he294 he300 he305 he309
    clear he294 he300 he305 he309 he314
    refine OpsW.det (det_assign rfl) rfl ?_
    refine sNext ?_
    refine W.keep (F' := [(25, _), (9, _), (22, _), (8, _), (7, _), (6, _), (5, _), (46, _), (45, _), (11, _), (12, _), (13, _), (14, _), (15, _), (16, _), (4, _)]) ⟨rfl, rfl, rfl, rfl, rfl, rfl, rfl, rfl, rfl, rfl, rfl, rfl, rfl, rfl, rfl, rfl, trivial⟩ ?_
    refine W.region ?_
    refine OpsW.det (det_move rfl) rfl ?_
    refine OpsW.det (det_move rfl) rfl ?_
    refine OpsW.addw rfl rfl (top_pp E0 E1 E2 E3 E4 E5 F0 F1 F2 F3 F4 F5 hT hXv hy hs65) rfl fun s317 he317 => ?_
    have hl317 : s317 < 18446744073709551616 := by rw [he317]; exact (top_pp E0 E1 E2 E3 E4 E5 F0 F1 F2 F3 F4 F5 hT hXv hy hs65)
    refine OpsW.det (det_assign rfl) rfl ?_
    refine sLast ?_
    refine bNext ?_
    refine W.keep (F' := [(10, _), (9, _), (8, _), (7, _), (6, _), (5, _), (46, _), (45, _), (11, _), (12, _), (13, _), (14, _), (15, _), (16, _), (4, _)]) ⟨rfl, rfl, rfl, rfl, rfl, rfl, rfl, rfl, rfl, rfl, rfl, rfl, rfl, rfl, rfl, trivial⟩ ?_
    refine W.region ?_
    refine OpsW.det (det_addN (b := 1) rfl rfl (idx_ok hlt (by decide))) rfl ?_
    refine OpsW.det (det_move rfl) rfl ?_
    refine sLast ?_
    have hS := sum_pp E0 E1 E2 E3 E4 E5 F0 F1 F2 F3 F4 F5 he317
    rw [val_lim6 (m := X) (Nat.lt_trans hX (by decide))] at hS
    exact rEnd (i + 1, s121, s168, s215, s262, s309, s317) ⟨hlt, hs121, hs168, hs215, hs262, hs309, hl317, _, inv_lt hM hs65, inv_step hI hS⟩ ⟨rfl, rfl, rfl, rfl, rfl, rfl, rfl, rfl, rfl, rfl, rfl, rfl, rfl, rfl, rfl, trivial⟩ (List.Sublist.refl _) (step_lt hlt)
  · skip
    have hi6 : i = 6 := by simp only [decide_eq_false_iff_not] at hc47; omega
    subst hi6
    have hE := end_pp hI hY
    refine sExit ?_
    refine xLoop ?_
    refine xHere ?_
    refine W.keep (F' := [(5, _), (6, _), (7, _), (8, _), (9, _), (10, _), (4, _)]) ⟨rfl, rfl, rfl, rfl, rfl, rfl, rfl, trivial⟩ ?_
    refine sSeq ?_
    refine W.region ?_
    refine OpsW.det (det_move rfl) rfl ?_
    refine OpsW.det (det_move rfl) rfl ?_
    refine OpsW.det (det_move rfl) rfl ?_
    refine OpsW.det (det_move rfl) rfl ?_
    refine OpsW.det (det_move rfl) rfl ?_
    refine OpsW.det (det_move rfl) rfl ?_
    refine OpsW.det (det_build rfl bld27) rfl ?_
    refine OpsW.det (det_call en58 rfl (fun w hb ho => reduce_ok ht0 ht1 ht2 ht3 ht4 ht5 hT ho.blocks)) rfl ?_
    refine OpsW.det (det_build rfl bld29) rfl ?_
    refine OpsW.store sz29 rfl rfl rfl rfl rfl (Upd.here) rfl ?_
    refine sNext ?_
    refine W.keep (F' := [(4, _)]) ⟨rfl, trivial⟩ ?_
    refine sRet ?_
    exact done1 Tryd.results17 (rv_cellA ty29 rfl (List.Mem.head _) rfl) (congrArg enc6 hE)

end Go.Cu
