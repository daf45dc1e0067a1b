/-
  Part 3 of the joined texts of the curves' laws: The first group's field: the product: the walk. Conditions: numbers below the modulus.
  Conditions: those that each theorem states.
-/
import Derived.Test.YtndonmbemehefaaDoorP2
import Derived.ChangeKeysEq
import Derived.Laws.StructEq
/- The first group's field: the product: the walk. Conditions: numbers below the modulus. -/
namespace Go.Cu
open Go Go.Vm Go.RowKit Go.Proofs 
attribute [local irreducible] W OpsW Det Fresh New Writes Vm.Pure Makes Changes ExternTo BuildTo ZeroTo FieldTo IndexTo BinTo SliceTo Vm.Enters
set_option linter.unusedVariables false
set_option linter.unusedSimpArgs false
variable {T : Nat → TypeId × Nat × Nat}



theorem idx26 {m i : Nat} (h : i < 6) : IndexTo Tryd.prog 27 (.agg #[u64 (lim (m) 0), u64 (lim (m) 1), u64 (lim (m) 2), u64 (lim (m) 3), u64 (lim (m) 4), u64 (lim (m) 5)]) (.int .i64 (i : Nat)) (u64 (lim m i)) := by
  have : i = 0 ∨ i = 1 ∨ i = 2 ∨ i = 3 ∨ i = 4 ∨ i = 5 := by omega
  rcases this with rfl | rfl | rfl | rfl | rfl | rfl <;> exact IndexTo.of fun _ => by kernel_rfl
set_option maxHeartbeats 1000000 in
theorem Mul_w_ok {X Y : Nat} (hX : X < pp) (hY : Y < pp) {w : World} (hG : Blocks (GH T) w)  : Vm.Pure Tryd.prog 17 #[.agg #[u64 (lim (X) 0), u64 (lim (X) 1), u64 (lim (X) 2), u64 (lim (X) 3), u64 (lim (X) 4), u64 (lim (X) 5)], .agg #[u64 (lim (Y) 0), u64 (lim (Y) 1), u64 (lim (Y) 2), u64 (lim (Y) 3), u64 (lim (Y) 4), u64 (lim (Y) 5)]] w (enc6 (X * Y * inv_pp % pp)) := by
  refine pure_of_W (n := 328) (args := [.agg #[u64 (lim (X) 0), u64 (lim (X) 1), u64 (lim (X) 2), u64 (lim (X) 3), u64 (lim (X) 4), u64 (lim (X) 5)], .agg #[u64 (lim (Y) 0), u64 (lim (Y) 1), u64 (lim (Y) 2), u64 (lim (Y) 3), u64 (lim (Y) 4), u64 (lim (Y) 5)]]) Tryd.func17 rfl Tryd.ntmps17 (Nat.le_of_ble_eq_true rfl) hG ?_
  refine sStart ?_
  refine sSeq ?_
  refine W.region ?_
  refine OpsW.fresh (fr_box rfl rfl) rfl fun b2 => ?_
  refine OpsW.fresh (fr_box rfl rfl) rfl fun b3 => ?_
  refine OpsW.fresh (fr_alloc z29) rfl fun b4 => ?_
  refine sNext ?_
  refine W.keep (F' := [(4, _), (3, _), (2, _)]) ⟨rfl, rfl, rfl, trivial⟩ ?_
  refine sSeq ?_
  refine W.region ?_
  refine OpsW.det (det_assign rfl) rfl ?_
  refine OpsW.det (det_assign rfl) rfl ?_
  refine OpsW.det (det_assign rfl) rfl ?_
  refine OpsW.det (det_assign rfl) rfl ?_
  refine OpsW.det (det_assign rfl) rfl ?_
  refine OpsW.det (det_assign rfl) rfl ?_
  refine sNext ?_
  refine sSeq ?_
  refine W.draw mixed 24 [[], [0], [0, 1], [], [3], [3, 4], [], [6], [6, 7], [], [9], [9, 10], [], [12], [12, 13], [], [15], [15, 16], [0, 1, 2], [0, 1, 2, 3, 4, 5, 18], [0, 1, 2, 3, 4, 5, 6, 7, 8, 18, 19], [0, 1, 2, 3, 4, 5, 6, 7, 8, 9, 10, 11, 18, 19, 20], [0, 1, 2, 3, 4, 5, 6, 7, 8, 9, 10, 11, 12, 13, 14, 18, 19, 20, 21], [0, 1, 2, 3, 4, 5, 6, 7, 8, 9, 10, 11, 12, 13, 14, 15, 16, 17, 18, 19, 20, 21, 22]] (cl_lt (by decide)) ?_
  refine HeadR.start (cl_lt (by decide)) ?_
  refine HeadR.det rfl (fun β hβ => (det_fieldAddr fl29_0 rfl)) ?_
  refine HeadR.det rfl (fun β hβ => (det_indexAddr_arr u27 sz26 rfl rfl ⟨by decide, by decide⟩)) ?_
  refine HeadR.det rfl (fun β hβ => (det_loadC ty26 rfl (List.Mem.tail _ (List.Mem.tail _ (List.Mem.head _))) rfl)) ?_
  refine HeadR.det rfl (fun β hβ => (det_fieldAddr fl29_0 rfl)) ?_
  refine HeadR.det rfl (fun β hβ => (det_indexAddr_arr u27 sz26 rfl rfl ⟨by decide, by decide⟩)) ?_
  refine HeadR.det rfl (fun β hβ => (det_loadC ty26 rfl (List.Mem.tail _ (List.Mem.tail _ (List.Mem.head _))) rfl)) ?_
  refine HeadR.det rfl (fun β hβ => (det_fieldAddr fl29_0 rfl)) ?_
  refine HeadR.det rfl (fun β hβ => (det_indexAddr_arr u27 sz26 rfl rfl ⟨by decide, by decide⟩)) ?_
  refine HeadR.det rfl (fun β hβ => (det_loadC ty26 rfl (List.Mem.tail _ (List.Mem.tail _ (List.Mem.head _))) rfl)) ?_
  refine HeadR.det rfl (fun β hβ => (det_fieldAddr fl29_0 rfl)) ?_
  refine HeadR.det rfl (fun β hβ => (det_indexAddr_arr u27 sz26 rfl rfl ⟨by decide, by decide⟩)) ?_
  refine HeadR.det rfl (fun β hβ => (det_loadC ty26 rfl (List.Mem.tail _ (List.Mem.tail _ (List.Mem.head _))) rfl)) ?_
  refine HeadR.det rfl (fun β hβ => (det_fieldAddr fl29_0 rfl)) ?_
  refine HeadR.det rfl (fun β hβ => (det_indexAddr_arr u27 sz26 rfl rfl ⟨by decide, by decide⟩)) ?_
  refine HeadR.det rfl (fun β hβ => (det_loadC ty26 rfl (List.Mem.tail _ (List.Mem.tail _ (List.Mem.head _))) rfl)) ?_
  refine HeadR.det rfl (fun β hβ => (det_fieldAddr fl29_0 rfl)) ?_
  refine HeadR.det rfl (fun β hβ => (det_indexAddr_arr u27 sz26 rfl rfl ⟨by decide, by decide⟩)) ?_
  refine HeadR.det rfl (fun β hβ => (det_loadC ty26 rfl (List.Mem.tail _ (List.Mem.tail _ (List.Mem.head _))) rfl)) ?_
  refine HeadR.det rfl (fun β hβ => (det_assign rfl)) ?_
  refine HeadR.det rfl (fun β hβ => (det_assign rfl)) ?_
  refine HeadR.det rfl (fun β hβ => (det_assign rfl)) ?_
  refine HeadR.det rfl (fun β hβ => (det_assign rfl)) ?_
  refine HeadR.det rfl (fun β hβ => (det_assign rfl)) ?_
  refine HeadR.det rfl (fun β hβ => (det_assign rfl)) ?_
  refine HeadR.done ⟨by kernel_rfl, fun β hβ => ?_⟩
  refine OpsW.norm (F' := ((26, _) :: (27, _) :: (28, _) :: (29, _) :: (30, _) :: (31, _) :: (32, _) :: (33, _) :: (34, _) :: (35, _) :: (36, _) :: (37, _) :: (38, _) :: (39, _) :: (40, _) :: (41, _) :: (42, _) :: (43, _) :: (11, _) :: (12, _) :: (13, _) :: (14, _) :: (15, _) :: (16, _) :: (10, _) :: (9, _) :: (8, _) :: (7, _) :: (6, _) :: (5, _) :: (4, _) :: (3, _) :: (2, _) :: [])) (H' := [(_, _), (_, _), (_, _)]) rfl rfl ?_
  refine sNext ?_
  refine W.keep (F' := [(11, _), (12, _), (13, _), (14, _), (15, _), (16, _), (10, _), (9, _), (8, _), (7, _), (6, _), (5, _), (4, _), (3, _)]) ⟨rfl, rfl, rfl, rfl, rfl, rfl, rfl, rfl, rfl, rfl, rfl, rfl, rfl, rfl, trivial⟩ ?_
  refine sSeq ?_
  refine sSeq ?_
  refine W.region ?_
  refine OpsW.det (det_fieldAddr fl29_0 rfl) rfl ?_
  refine OpsW.det (det_loadA ty27 rfl (List.Mem.tail _ (List.Mem.head _)) rfl) rfl ?_
  refine OpsW.det (det_move rfl) rfl ?_
  refine sNext ?_
  refine W.keep (F' := [(46, _), (45, _), (11, _), (12, _), (13, _), (14, _), (15, _), (16, _), (10, _), (9, _), (8, _), (7, _), (6, _), (5, _), (4, _)]) ⟨rfl, rfl, rfl, rfl, rfl, rfl, rfl, rfl, rfl, rfl, rfl, rfl, rfl, rfl, rfl, trivial⟩ ?_
  refine sBlock ?_
  refine sLoop (σ := Nat × Nat × Nat × Nat × Nat × Nat × Nat) (fun k => [(46, .int .i64 (k.1 : Nat)), (45, .agg #[u64 (lim (Y) 0), u64 (lim (Y) 1), u64 (lim (Y) 2), u64 (lim (Y) 3), u64 (lim (Y) 4), u64 (lim (Y) 5)]), (5, u64 k.2.1), (6, u64 k.2.2.1), (7, u64 k.2.2.2.1), (8, u64 k.2.2.2.2.1), (9, u64 k.2.2.2.2.2.1), (10, u64 k.2.2.2.2.2.2), (11, u64 (lim X 0)), (12, u64 (lim X 1)), (13, u64 (lim X 2)), (14, u64 (lim X 3)), (15, u64 (lim X 4)), (16, u64 (lim X 5)), (4, .pointer (some ⟨b4, 0, none⟩))]) (fun k => [(b4, blk [.int .u64 0, .int .u64 0, .int .u64 0, .int .u64 0, .int .u64 0, .int .u64 0] 29)]) (fun k => k.1 ≤ 6 ∧ k.2.1 < 18446744073709551616 ∧ k.2.2.1 < 18446744073709551616 ∧ k.2.2.2.1 < 18446744073709551616 ∧ k.2.2.2.2.1 < 18446744073709551616 ∧ k.2.2.2.2.2.1 < 18446744073709551616 ∧ k.2.2.2.2.2.2 < 18446744073709551616 ∧ ∃ M, M < 18446744073709551616 ^ k.1 ∧ val6 (k.2.1) (k.2.2.1) (k.2.2.2.1) (k.2.2.2.2.1) (k.2.2.2.2.2.1) (k.2.2.2.2.2.2) * 18446744073709551616 ^ k.1 = X * (Y % 18446744073709551616 ^ k.1) + M * pp) (fun k => 6 - k.1) (0, 0, 0, 0, 0, 0, 0) ⟨by decide, by decide, by decide, by decide, by decide, by decide, by decide, 0, by decide, by simp [val6, Nat.mod_one]⟩ ⟨rfl, rfl, rfl, rfl, rfl, rfl, rfl, rfl, rfl, rfl, rfl, rfl, rfl, rfl, rfl, trivial⟩ (List.Sublist.cons_cons _ (List.nil_sublist _)) ?_
  rintro ⟨i, t0, t1, t2, t3, t4, t5⟩ ⟨hi, ht0, ht1, ht2, ht3, ht4, ht5, M, hM, hI⟩
  refine W.norm (F' := [(46, .int .i64 (i : Nat)), (45, .agg #[u64 (lim (Y) 0), u64 (lim (Y) 1), u64 (lim (Y) 2), u64 (lim (Y) 3), u64 (lim (Y) 4), u64 (lim (Y) 5)]), (5, u64 t0), (6, u64 t1), (7, u64 t2), (8, u64 t3), (9, u64 t4), (10, u64 t5), (11, u64 (lim X 0)), (12, u64 (lim X 1)), (13, u64 (lim X 2)), (14, u64 (lim X 3)), (15, u64 (lim X 4)), (16, u64 (lim X 5)), (4, .pointer (some ⟨b4, 0, none⟩))]) (H' := [(b4, blk [.int .u64 0, .int .u64 0, .int .u64 0, .int .u64 0, .int .u64 0, .int .u64 0] 29)]) rfl rfl ?_
  have hT : val6 t0 t1 t2 t3 t4 t5 < 2 * pp := inv_top hI hM hX
  have hXv : val6 (lim X 0) (lim X 1) (lim X 2) (lim X 3) (lim X 4) (lim X 5) < pp := by rw [val_lim6 (m := X) (Nat.lt_trans hX (by decide))]; exact hX
  have hy := lim_lt Y i
  refine sSeq ?_
  refine W.region ?_
  refine OpsW.det (det_lss rfl rfl) rfl ?_
  refine sNext ?_
  refine sSeq ?_
  refine W.cond rfl (fun hc47 => ?_) (fun hc47 => ?_)
  · skip
    have hlt : i < 6 := by simp only [decide_eq_true_eq] at hc47; omega
    refine sSkip ?_
    refine sSeq ?_
    refine sBlock ?_
    refine sSeq ?_
    refine W.region ?_
    refine OpsW.det (det_index rfl rfl (idx26 hlt)) rfl ?_
    refine OpsW.det (det_assign rfl) rfl ?_
    refine sNext ?_
    refine W.keep (F' := [(18, _), (46, _), (45, _), (5, _), (6, _), (7, _), (8, _), (9, _), (10, _), (11, _), (12, _), (13, _), (14, _), (15, _), (16, _), (4, _)]) ⟨rfl, rfl, rfl, rfl, rfl, rfl, rfl, rfl, rfl, rfl, rfl, rfl, rfl, rfl, rfl, rfl, trivial⟩ ?_
    refine sSeq ?_
    refine W.region ?_
    refine OpsW.det (det_move rfl) rfl ?_
    refine OpsW.det (det_move rfl) rfl ?_
    refine OpsW.mul64 rfl rfl (by first | assumption | exact lim_lt _ _ | decide) (by first | assumption | exact lim_lt _ _ | decide) rfl fun hi52 lo52 he52 hs52 hk52 => ?_
    refine OpsW.det (det_move rfl) rfl ?_
    refine OpsW.det (det_extract rfl rfl) rfl ?_
    refine OpsW.det (det_extract rfl rfl) rfl ?_
    refine OpsW.det (det_assign rfl) rfl ?_
    refine OpsW.det (det_assign rfl) rfl ?_
    refine sNext ?_
    refine W.keep (F' := [(20, _), (19, _), (18, _), (46, _), (45, _), (5, _), (6, _), (7, _), (8, _), (9, _), (10, _), (11, _), (12, _), (13, _), (14, _), (15, _), (16, _), (4, _)]) ⟨rfl, rfl, rfl, rfl, rfl, rfl, rfl, rfl, rfl, rfl, rfl, rfl, rfl, rfl, rfl, rfl, rfl, rfl, trivial⟩ ?_
    refine sSeq ?_
    refine W.region ?_
    refine OpsW.det (det_move rfl) rfl ?_
    refine OpsW.det (det_move rfl) rfl ?_
    refine OpsW.add64 (e := 0) rfl rfl rfl (by first | assumption | exact lim_lt _ _ | decide) (by first | assumption | exact lim_lt _ _ | decide) (by first | assumption | decide) rfl fun s58 c58 he58 hs58 hk58 => ?_
    refine OpsW.det (det_move rfl) rfl ?_
    refine OpsW.det (det_extract rfl rfl) rfl ?_
    refine OpsW.det (det_extract rfl rfl) rfl ?_
    refine OpsW.det (det_assign rfl) rfl ?_
    refine OpsW.det (det_assign rfl) rfl ?_
    refine sNext ?_
    refine W.keep (F' := [(21, _), (20, _), (19, _), (18, _), (46, _), (45, _), (6, _), (7, _), (8, _), (9, _), (10, _), (11, _), (12, _), (13, _), (14, _), (15, _), (16, _), (4, _)]) ⟨rfl, rfl, rfl, rfl, rfl, rfl, rfl, rfl, rfl, rfl, rfl, rfl, rfl, rfl, rfl, rfl, rfl, rfl, trivial⟩ ?_
    refine sSeq ?_
    refine W.region ?_
    refine OpsW.det (det_move rfl) rfl ?_
    refine OpsW.det (det_move rfl) rfl ?_
    refine OpsW.addw rfl rfl (hi_lt hk52 hk58) rfl fun s63 he63 => ?_
    have E0 := col0 he52 he58 he63
    have hG0 := w_lt hk52 hk58 he63
    refine OpsW.det (det_assign rfl) rfl ?_
    refine sNext ?_
    refine W.keep (F' := [(22, _), (20, _), (18, _), (46, _), (45, _), (6, _), (7, _), (8, _), (9, _), (10, _), (11, _), (12, _), (13, _), (14, _), (15, _), (16, _), (4, _)]) ⟨rfl, rfl, rfl, rfl, rfl, rfl, rfl, rfl, rfl, rfl, rfl, rfl, rfl, rfl, rfl, rfl, rfl, trivial⟩ ?_
    refine sSeq ?_
    refine W.region ?_
    refine OpsW.det (det_move rfl) rfl ?_
    refine OpsW.mulw (b := 9940570264628428797) rfl rfl rfl fun s65 he65 hs65 => ?_
    refine OpsW.det (det_assign rfl) rfl ?_
    refine sNext ?_
    refine W.keep (F' := [(23, _), (22, _), (20, _), (18, _), (46, _), (45, _), (6, _), (7, _), (8, _), (9, _), (10, _), (11, _), (12, _), (13, _), (14, _), (15, _), (16, _), (4, _)]) ⟨rfl, rfl, rfl, rfl, rfl, rfl, rfl, rfl, rfl, rfl, rfl, rfl, rfl, rfl, rfl, rfl, rfl, rfl, trivial⟩ ?_
    refine sSeq ?_
    refine W.region ?_
    refine OpsW.det (det_move rfl) rfl ?_
    refine OpsW.mul64 (b := 13402431016077863595) rfl rfl (by first | assumption | exact lim_lt _ _ | decide) (by first | assumption | exact lim_lt _ _ | decide) rfl fun hi68 lo68 he68 hs68 hk68 => ?_
    refine OpsW.det (det_move rfl) rfl ?_
    refine OpsW.det (det_extract rfl rfl) rfl ?_
    refine OpsW.det (det_extract rfl rfl) rfl ?_
    refine OpsW.det (det_assign rfl) rfl ?_
    refine OpsW.det (det_assign rfl) rfl ?_
    refine sNext ?_
    refine W.keep (F' := [(24, _), (19, _), (23, _), (22, _), (20, _), (18, _), (46, _), (45, _), (6, _), (7, _), (8, _), (9, _), (10, _), (11, _), (12, _), (13, _), (14, _), (15, _), (16, _), (4, _)]) ⟨rfl, rfl, rfl, rfl, rfl, rfl, rfl, rfl, rfl, rfl, rfl, rfl, rfl, rfl, rfl, rfl, rfl, rfl, rfl, rfl, trivial⟩ ?_
    refine sSeq ?_
    refine W.region ?_
    refine OpsW.det (det_move rfl) rfl ?_
    refine OpsW.det (det_move rfl) rfl ?_
    refine OpsW.add64 (e := 0) rfl rfl rfl (by first | assumption | exact lim_lt _ _ | decide) (by first | assumption | exact lim_lt _ _ | decide) (by first | assumption | decide) rfl fun s74 c74 he74 hs74 hk74 => ?_
    refine OpsW.det (det_move rfl) rfl ?_
    refine OpsW.det (det_extract rfl rfl) rfl ?_
    refine OpsW.det (det_extract rfl rfl) rfl ?_
    refine OpsW.det (det_assign rfl) rfl ?_
    refine sNext ?_
    refine W.keep (F' := [(21, _), (19, _), (23, _), (22, _), (18, _), (46, _), (45, _), (6, _), (7, _), (8, _), (9, _), (10, _), (11, _), (12, _), (13, _), (14, _), (15, _), (16, _), (4, _)]) ⟨rfl, rfl, rfl, rfl, rfl, rfl, rfl, rfl, rfl, rfl, rfl, rfl, rfl, rfl, rfl, rfl, rfl, rfl, rfl, trivial⟩ ?_
    refine sSeq ?_
    refine W.region ?_
    refine OpsW.det (det_move rfl) rfl ?_
    refine OpsW.det (det_move rfl) rfl ?_
    refine OpsW.addw rfl rfl (hi_lt hk68 hk74) rfl fun s79 he79 => ?_
    have hz := zero_pp he65 he68 he74 hs74
    have F0 := colz he68 he74 he79 hz
    have hF0 := w_lt hk68 hk74 he79
    clear he52 he58 he63 he65 he68 he74 he79 hz
    refine OpsW.det (det_assign rfl) rfl ?_
    refine sNext ?_
    refine W.keep (F' := [(25, _), (23, _), (22, _), (18, _), (46, _), (45, _), (6, _), (7, _), (8, _), (9, _), (10, _), (11, _), (12, _), (13, _), (14, _), (15, _), (16, _), (4, _)]) ⟨rfl, rfl, rfl, rfl, rfl, rfl, rfl, rfl, rfl, rfl, rfl, rfl, rfl, rfl, rfl, rfl, rfl, rfl, trivial⟩ ?_
    refine sSeq ?_
    refine W.region ?_
    refine OpsW.det (det_move rfl) rfl ?_
    refine OpsW.det (det_move rfl) rfl ?_
    refine OpsW.mul64 rfl rfl (by first | assumption | exact lim_lt _ _ | decide) (by first | assumption | exact lim_lt _ _ | decide) rfl fun hi83 lo83 he83 hs83 hk83 => ?_
    refine OpsW.det (det_move rfl) rfl ?_
    refine OpsW.det (det_extract rfl rfl) rfl ?_
    refine OpsW.det (det_extract rfl rfl) rfl ?_
    refine OpsW.det (det_assign rfl) rfl ?_
    refine OpsW.det (det_assign rfl) rfl ?_
    refine sNext ?_
    refine W.keep (F' := [(20, _), (19, _), (25, _), (23, _), (22, _), (18, _), (46, _), (45, _), (6, _), (7, _), (8, _), (9, _), (10, _), (11, _), (12, _), (13, _), (14, _), (15, _), (16, _), (4, _)]) ⟨rfl, rfl, rfl, rfl, rfl, rfl, rfl, rfl, rfl, rfl, rfl, rfl, rfl, rfl, rfl, rfl, rfl, rfl, rfl, rfl, trivial⟩ ?_
    refine sSeq ?_
    refine W.region ?_
    refine OpsW.det (det_move rfl) rfl ?_
    refine OpsW.det (det_move rfl) rfl ?_
    refine OpsW.add64 (e := 0) rfl rfl rfl (by first | assumption | exact lim_lt _ _ | decide) (by first | assumption | exact lim_lt _ _ | decide) (by first | assumption | decide) rfl fun s89 c89 he89 hs89 hk89 => ?_
    refine OpsW.det (det_move rfl) rfl ?_
    refine OpsW.det (det_extract rfl rfl) rfl ?_
    refine OpsW.det (det_extract rfl rfl) rfl ?_
    refine OpsW.det (det_assign rfl) rfl ?_
    refine OpsW.det (det_assign rfl) rfl ?_
    refine sNext ?_
    refine W.keep (F' := [(21, _), (20, _), (19, _), (25, _), (23, _), (18, _), (46, _), (45, _), (6, _), (7, _), (8, _), (9, _), (10, _), (11, _), (12, _), (13, _), (14, _), (15, _), (16, _), (4, _)]) ⟨rfl, rfl, rfl, rfl, rfl, rfl, rfl, rfl, rfl, rfl, rfl, rfl, rfl, rfl, rfl, rfl, rfl, rfl, rfl, rfl, trivial⟩ ?_
    refine sSeq ?_
    refine W.region ?_
    refine OpsW.det (det_move rfl) rfl ?_
    refine OpsW.det (det_move rfl) rfl ?_
    refine OpsW.addw rfl rfl (hi_lt hk83 hk89) rfl fun s94 he94 => ?_
    refine OpsW.det (det_assign rfl) rfl ?_
    refine sNext ?_
    refine W.keep (F' := [(19, _), (20, _), (25, _), (23, _), (18, _), (46, _), (45, _), (6, _), (7, _), (8, _), (9, _), (10, _), (11, _), (12, _), (13, _), (14, _), (15, _), (16, _), (4, _)]) ⟨rfl, rfl, rfl, rfl, rfl, rfl, rfl, rfl, rfl, rfl, rfl, rfl, rfl, rfl, rfl, rfl, rfl, rfl, rfl, trivial⟩ ?_
    refine sSeq ?_
    refine W.region ?_
    refine OpsW.det (det_move rfl) rfl ?_
    refine OpsW.det (det_move rfl) rfl ?_
    refine OpsW.add64 (e := 0) rfl rfl rfl (by first | assumption | exact lim_lt _ _ | decide) (by first | assumption | exact lim_lt _ _ | decide) (by first | assumption | decide) rfl fun s98 c98 he98 hs98 hk98 => ?_
    refine OpsW.det (det_move rfl) rfl ?_
    refine OpsW.det (det_extract rfl rfl) rfl ?_
    refine OpsW.det (det_extract rfl rfl) rfl ?_
    refine OpsW.det (det_assign rfl) rfl ?_
    refine OpsW.det (det_assign rfl) rfl ?_
    refine sNext ?_
    refine W.keep (F' := [(21, _), (20, _), (19, _), (25, _), (23, _), (18, _), (46, _), (45, _), (7, _), (8, _), (9, _), (10, _), (11, _), (12, _), (13, _), (14, _), (15, _), (16, _), (4, _)]) ⟨rfl, rfl, rfl, rfl, rfl, rfl, rfl, rfl, rfl, rfl, rfl, rfl, rfl, rfl, rfl, rfl, rfl, rfl, rfl, trivial⟩ ?_
    refine sSeq ?_
    refine W.region ?_
    refine OpsW.det (det_move rfl) rfl ?_
    refine OpsW.det (det_move rfl) rfl ?_
    refine OpsW.addw rfl rfl (col_lt (lim_lt _ _) hy hG0 ht1 he83 he89 he94 he98) rfl fun s103 he103 => ?_
    have E1 := col he83 he89 he94 he98 he103
    have hG1 : s103 < 18446744073709551616 := by rw [he103]; exact col_lt (lim_lt _ _) hy hG0 ht1 he83 he89 he94 he98
    clear he83 he89 he94 he98 he103
    refine OpsW.det (det_assign rfl) rfl ?_
    refine sNext ?_
    refine W.keep (F' := [(22, _), (20, _), (25, _), (23, _), (18, _), (46, _), (45, _), (7, _), (8, _), (9, _), (10, _), (11, _), (12, _), (13, _), (14, _), (15, _), (16, _), (4, _)]) ⟨rfl, rfl, rfl, rfl, rfl, rfl, rfl, rfl, rfl, rfl, rfl, rfl, rfl, rfl, rfl, rfl, rfl, rfl, trivial⟩ ?_
    refine sSeq ?_
    refine W.region ?_
    refine OpsW.det (det_move rfl) rfl ?_
    refine OpsW.mul64 (b := 2210141511517208575) rfl rfl (by first | assumption | exact lim_lt _ _ | decide) (by first | assumption | exact lim_lt _ _ | decide) rfl fun hi106 lo106 he106 hs106 hk106 => ?_
    refine OpsW.det (det_move rfl) rfl ?_
    refine OpsW.det (det_extract rfl rfl) rfl ?_
    refine OpsW.det (det_extract rfl rfl) rfl ?_
    refine OpsW.det (det_assign rfl) rfl ?_
    refine OpsW.det (det_assign rfl) rfl ?_
    refine sNext ?_
    refine W.keep (F' := [(24, _), (19, _), (22, _), (20, _), (25, _), (23, _), (18, _), (46, _), (45, _), (7, _), (8, _), (9, _), (10, _), (11, _), (12, _), (13, _), (14, _), (15, _), (16, _), (4, _)]) ⟨rfl, rfl, rfl, rfl, rfl, rfl, rfl, rfl, rfl, rfl, rfl, rfl, rfl, rfl, rfl, rfl, rfl, rfl, rfl, rfl, trivial⟩ ?_
    refine sSeq ?_
    refine W.region ?_
    refine OpsW.det (det_move rfl) rfl ?_
    refine OpsW.det (det_move rfl) rfl ?_
    refine OpsW.add64 (e := 0) rfl rfl rfl (by first | assumption | exact lim_lt _ _ | decide) (by first | assumption | exact lim_lt _ _ | decide) (by first | assumption | decide) rfl fun s112 c112 he112 hs112 hk112 => ?_
    refine OpsW.det (det_move rfl) rfl ?_
    refine OpsW.det (det_extract rfl rfl) rfl ?_
    refine OpsW.det (det_extract rfl rfl) rfl ?_
    refine OpsW.det (det_assign rfl) rfl ?_
    refine OpsW.det (det_assign rfl) rfl ?_
    refine sNext ?_
    refine W.keep (F' := [(21, _), (24, _), (19, _), (22, _), (20, _), (23, _), (18, _), (46, _), (45, _), (7, _), (8, _), (9, _), (10, _), (11, _), (12, _), (13, _), (14, _), (15, _), (16, _), (4, _)]) ⟨rfl, rfl, rfl, rfl, rfl, rfl, rfl, rfl, rfl, rfl, rfl, rfl, rfl, rfl, rfl, rfl, rfl, rfl, rfl, rfl, trivial⟩ ?_
    refine sSeq ?_
    refine W.region ?_
    refine OpsW.det (det_move rfl) rfl ?_
    refine OpsW.det (det_move rfl) rfl ?_
    refine OpsW.addw rfl rfl (hi_lt hk106 hk112) rfl fun s117 he117 => ?_
    refine OpsW.det (det_assign rfl) rfl ?_
    refine sNext ?_
    refine W.keep (F' := [(19, _), (24, _), (22, _), (20, _), (23, _), (18, _), (46, _), (45, _), (7, _), (8, _), (9, _), (10, _), (11, _), (12, _), (13, _), (14, _), (15, _), (16, _), (4, _)]) ⟨rfl, rfl, rfl, rfl, rfl, rfl, rfl, rfl, rfl, rfl, rfl, rfl, rfl, rfl, rfl, rfl, rfl, rfl, rfl, trivial⟩ ?_
    refine sSeq ?_
    refine W.region ?_
    refine OpsW.det (det_move rfl) rfl ?_
    refine OpsW.det (det_move rfl) rfl ?_
    refine OpsW.add64 (e := 0) rfl rfl rfl (by first | assumption | exact lim_lt _ _ | decide) (by first | assumption | exact lim_lt _ _ | decide) (by first | assumption | decide) rfl fun s121 c121 he121 hs121 hk121 => ?_
    refine OpsW.det (det_move rfl) rfl ?_
    refine OpsW.det (det_extract rfl rfl) rfl ?_
    refine OpsW.det (det_extract rfl rfl) rfl ?_
    refine OpsW.det (det_assign rfl) rfl ?_
    refine OpsW.det (det_assign rfl) rfl ?_
    refine sNext ?_
    refine W.keep (F' := [(21, _), (5, _), (19, _), (22, _), (23, _), (18, _), (46, _), (45, _), (7, _), (8, _), (9, _), (10, _), (11, _), (12, _), (13, _), (14, _), (15, _), (16, _), (4, _)]) ⟨rfl, rfl, rfl, rfl, rfl, rfl, rfl, rfl, rfl, rfl, rfl, rfl, rfl, rfl, rfl, rfl, rfl, rfl, rfl, trivial⟩ ?_
    refine sSeq ?_
    refine W.region ?_
    refine OpsW.det (det_move rfl) rfl ?_
    refine OpsW.det (det_move rfl) rfl ?_
    refine OpsW.addw rfl rfl (col_lt hs65 (by decide) hF0 hs98 he106 he112 he117 he121) rfl fun s126 he126 => ?_
    have F1 := col he106 he112 he117 he121 he126
    have hF1 : s126 < 18446744073709551616 := by rw [he126]; exact col_lt hs65 (by decide) hF0 hs98 he106 he112 he117 he121
    clear he106 he112 he117 he121 he126
    refine OpsW.det (det_assign rfl) rfl ?_
    refine sNext ?_
    refine W.keep (F' := [(25, _), (5, _), (22, _), (23, _), (18, _), (46, _), (45, _), (7, _), (8, _), (9, _), (10, _), (11, _), (12, _), (13, _), (14, _), (15, _), (16, _), (4, _)]) ⟨rfl, rfl, rfl, rfl, rfl, rfl, rfl, rfl, rfl, rfl, rfl, rfl, rfl, rfl, rfl, rfl, rfl, rfl, trivial⟩ ?_
    refine sSeq ?_
    refine W.region ?_
    refine OpsW.det (det_move rfl) rfl ?_
    refine OpsW.det (det_move rfl) rfl ?_
    refine OpsW.mul64 rfl rfl (by first | assumption | exact lim_lt _ _ | decide) (by first | assumption | exact lim_lt _ _ | decide) rfl fun hi130 lo130 he130 hs130 hk130 => ?_
    refine OpsW.det (det_move rfl) rfl ?_
    refine OpsW.det (det_extract rfl rfl) rfl ?_
    refine OpsW.det (det_extract rfl rfl) rfl ?_
    refine OpsW.det (det_assign rfl) rfl ?_
    refine OpsW.det (det_assign rfl) rfl ?_
    refine sNext ?_
    refine W.keep (F' := [(20, _), (19, _), (25, _), (5, _), (22, _), (23, _), (18, _), (46, _), (45, _), (7, _), (8, _), (9, _), (10, _), (11, _), (12, _), (13, _), (14, _), (15, _), (16, _), (4, _)]) ⟨rfl, rfl, rfl, rfl, rfl, rfl, rfl, rfl, rfl, rfl, rfl, rfl, rfl, rfl, rfl, rfl, rfl, rfl, rfl, rfl, trivial⟩ ?_
    refine sSeq ?_
    refine W.region ?_
    refine OpsW.det (det_move rfl) rfl ?_
    refine OpsW.det (det_move rfl) rfl ?_
    refine OpsW.add64 (e := 0) rfl rfl rfl (by first | assumption | exact lim_lt _ _ | decide) (by first | assumption | exact lim_lt _ _ | decide) (by first | assumption | decide) rfl fun s136 c136 he136 hs136 hk136 => ?_
    refine OpsW.det (det_move rfl) rfl ?_
    refine OpsW.det (det_extract rfl rfl) rfl ?_
    refine OpsW.det (det_extract rfl rfl) rfl ?_
    refine OpsW.det (det_assign rfl) rfl ?_
    refine OpsW.det (det_assign rfl) rfl ?_
    refine sNext ?_
    refine W.keep (F' := [(21, _), (20, _), (19, _), (25, _), (5, _), (23, _), (18, _), (46, _), (45, _), (7, _), (8, _), (9, _), (10, _), (11, _), (12, _), (13, _), (14, _), (15, _), (16, _), (4, _)]) ⟨rfl, rfl, rfl, rfl, rfl, rfl, rfl, rfl, rfl, rfl, rfl, rfl, rfl, rfl, rfl, rfl, rfl, rfl, rfl, rfl, trivial⟩ ?_
    refine sSeq ?_
    refine W.region ?_
    refine OpsW.det (det_move rfl) rfl ?_
    refine OpsW.det (det_move rfl) rfl ?_
    refine OpsW.addw rfl rfl (hi_lt hk130 hk136) rfl fun s141 he141 => ?_
    refine OpsW.det (det_assign rfl) rfl ?_
    refine sNext ?_
    refine W.keep (F' := [(19, _), (20, _), (25, _), (5, _), (23, _), (18, _), (46, _), (45, _), (7, _), (8, _), (9, _), (10, _), (11, _), (12, _), (13, _), (14, _), (15, _), (16, _), (4, _)]) ⟨rfl, rfl, rfl, rfl, rfl, rfl, rfl, rfl, rfl, rfl, rfl, rfl, rfl, rfl, rfl, rfl, rfl, rfl, rfl, trivial⟩ ?_
    refine sSeq ?_
    refine W.region ?_
    refine OpsW.det (det_move rfl) rfl ?_
    refine OpsW.det (det_move rfl) rfl ?_
    refine OpsW.add64 (e := 0) rfl rfl rfl (by first | assumption | exact lim_lt _ _ | decide) (by first | assumption | exact lim_lt _ _ | decide) (by first | assumption | decide) rfl fun s145 c145 he145 hs145 hk145 => ?_
    refine OpsW.det (det_move rfl) rfl ?_
    refine OpsW.det (det_extract rfl rfl) rfl ?_
    refine OpsW.det (det_extract rfl rfl) rfl ?_
    refine OpsW.det (det_assign rfl) rfl ?_
    refine OpsW.det (det_assign rfl) rfl ?_
    refine sNext ?_
    refine W.keep (F' := [(21, _), (20, _), (19, _), (25, _), (5, _), (23, _), (18, _), (46, _), (45, _), (8, _), (9, _), (10, _), (11, _), (12, _), (13, _), (14, _), (15, _), (16, _), (4, _)]) ⟨rfl, rfl, rfl, rfl, rfl, rfl, rfl, rfl, rfl, rfl, rfl, rfl, rfl, rfl, rfl, rfl, rfl, rfl, rfl, trivial⟩ ?_
    refine sSeq ?_
    refine W.region ?_
    refine OpsW.det (det_move rfl) rfl ?_
    refine OpsW.det (det_move rfl) rfl ?_
    refine OpsW.addw rfl rfl (col_lt (lim_lt _ _) hy hG1 ht2 he130 he136 he141 he145) rfl fun s150 he150 => ?_
    have E2 := col he130 he136 he141 he145 he150
    have hG2 : s150 < 18446744073709551616 := by rw [he150]; exact col_lt (lim_lt _ _) hy hG1 ht2 he130 he136 he141 he145
    clear he130 he136 he141 he145 he150
    refine OpsW.det (det_assign rfl) rfl ?_
    refine sNext ?_
    refine W.keep (F' := [(22, _), (20, _), (25, _), (5, _), (23, _), (18, _), (46, _), (45, _), (8, _), (9, _), (10, _), (11, _), (12, _), (13, _), (14, _), (15, _), (16, _), (4, _)]) ⟨rfl, rfl, rfl, rfl, rfl, rfl, rfl, rfl, rfl, rfl, rfl, rfl, rfl, rfl, rfl, rfl, rfl, rfl, trivial⟩ ?_
    refine sSeq ?_
    refine W.region ?_
    refine OpsW.det (det_move rfl) rfl ?_
    refine OpsW.mul64 (b := 7435674573564081700) rfl rfl (by first | assumption | exact lim_lt _ _ | decide) (by first | assumption | exact lim_lt _ _ | decide) rfl fun hi153 lo153 he153 hs153 hk153 => ?_
    refine OpsW.det (det_move rfl) rfl ?_
    refine OpsW.det (det_extract rfl rfl) rfl ?_
    refine OpsW.det (det_extract rfl rfl) rfl ?_
    refine OpsW.det (det_assign rfl) rfl ?_
    refine OpsW.det (det_assign rfl) rfl ?_
    refine sNext ?_
    refine W.keep (F' := [(24, _), (19, _), (22, _), (20, _), (25, _), (5, _), (23, _), (18, _), (46, _), (45, _), (8, _), (9, _), (10, _), (11, _), (12, _), (13, _), (14, _), (15, _), (16, _), (4, _)]) ⟨rfl, rfl, rfl, rfl, rfl, rfl, rfl, rfl, rfl, rfl, rfl, rfl, rfl, rfl, rfl, rfl, rfl, rfl, rfl, rfl, trivial⟩ ?_
    refine sSeq ?_
    refine W.region ?_
    refine OpsW.det (det_move rfl) rfl ?_
    refine OpsW.det (det_move rfl) rfl ?_
    refine OpsW.add64 (e := 0) rfl rfl rfl (by first | assumption | exact lim_lt _ _ | decide) (by first | assumption | exact lim_lt _ _ | decide) (by first | assumption | decide) rfl fun s159 c159 he159 hs159 hk159 => ?_
    refine OpsW.det (det_move rfl) rfl ?_
    refine OpsW.det (det_extract rfl rfl) rfl ?_
    refine OpsW.det (det_extract rfl rfl) rfl ?_
    refine OpsW.det (det_assign rfl) rfl ?_
    refine OpsW.det (det_assign rfl) rfl ?_
    refine sNext ?_
    refine W.keep (F' := [(21, _), (24, _), (19, _), (22, _), (20, _), (5, _), (23, _), (18, _), (46, _), (45, _), (8, _), (9, _), (10, _), (11, _), (12, _), (13, _), (14, _), (15, _), (16, _), (4, _)]) ⟨rfl, rfl, rfl, rfl, rfl, rfl, rfl, rfl, rfl, rfl, rfl, rfl, rfl, rfl, rfl, rfl, rfl, rfl, rfl, rfl, trivial⟩ ?_
    refine sSeq ?_
    refine W.region ?_
    refine OpsW.det (det_move rfl) rfl ?_
    refine OpsW.det (det_move rfl) rfl ?_
    refine OpsW.addw rfl rfl (hi_lt hk153 hk159) rfl fun s164 he164 => ?_
    refine OpsW.det (det_assign rfl) rfl ?_
    refine sNext ?_
    refine W.keep (F' := [(19, _), (24, _), (22, _), (20, _), (5, _), (23, _), (18, _), (46, _), (45, _), (8, _), (9, _), (10, _), (11, _), (12, _), (13, _), (14, _), (15, _), (16, _), (4, _)]) ⟨rfl, rfl, rfl, rfl, rfl, rfl, rfl, rfl, rfl, rfl, rfl, rfl, rfl, rfl, rfl, rfl, rfl, rfl, rfl, trivial⟩ ?_
    refine sSeq ?_
    refine W.region ?_
    refine OpsW.det (det_move rfl) rfl ?_
    refine OpsW.det (det_move rfl) rfl ?_
    refine OpsW.add64 (e := 0) rfl rfl rfl (by first | assumption | exact lim_lt _ _ | decide) (by first | assumption | exact lim_lt _ _ | decide) (by first | assumption | decide) rfl fun s168 c168 he168 hs168 hk168 => ?_
    refine OpsW.det (det_move rfl) rfl ?_
    refine OpsW.det (det_extract rfl rfl) rfl ?_
    refine OpsW.det (det_extract rfl rfl) rfl ?_
    refine OpsW.det (det_assign rfl) rfl ?_
    refine OpsW.det (det_assign rfl) rfl ?_
    refine sNext ?_
    refine W.keep (F' := [(21, _), (6, _), (19, _), (22, _), (5, _), (23, _), (18, _), (46, _), (45, _), (8, _), (9, _), (10, _), (11, _), (12, _), (13, _), (14, _), (15, _), (16, _), (4, _)]) ⟨rfl, rfl, rfl, rfl, rfl, rfl, rfl, rfl, rfl, rfl, rfl, rfl, rfl, rfl, rfl, rfl, rfl, rfl, rfl, trivial⟩ ?_
    refine sSeq ?_
    refine W.region ?_
    refine OpsW.det (det_move rfl) rfl ?_
    refine OpsW.det (det_move rfl) rfl ?_
    refine OpsW.addw rfl rfl (col_lt hs65 (by decide) hF1 hs145 he153 he159 he164 he168) rfl fun s173 he173 => ?_
    have F2 := col he153 he159 he164 he168 he173
    have hF2 : s173 < 18446744073709551616 := by rw [he173]; exact col_lt hs65 (by decide) hF1 hs145 he153 he159 he164 he168
    clear he153 he159 he164 he168 he173
    refine OpsW.det (det_assign rfl) rfl ?_
    refine sNext ?_
    refine W.keep (F' := [(25, _), (6, _), (22, _), (5, _), (23, _), (18, _), (46, _), (45, _), (8, _), (9, _), (10, _), (11, _), (12, _), (13, _), (14, _), (15, _), (16, _), (4, _)]) ⟨rfl, rfl, rfl, rfl, rfl, rfl, rfl, rfl, rfl, rfl, rfl, rfl, rfl, rfl, rfl, rfl, rfl, rfl, trivial⟩ ?_
    refine sSeq ?_
    refine W.region ?_
    refine OpsW.det (det_move rfl) rfl ?_
    refine OpsW.det (det_move rfl) rfl ?_
    refine OpsW.mul64 rfl rfl (by first | assumption | exact lim_lt _ _ | decide) (by first | assumption | exact lim_lt _ _ | decide) rfl fun hi177 lo177 he177 hs177 hk177 => ?_
    refine OpsW.det (det_move rfl) rfl ?_
    refine OpsW.det (det_extract rfl rfl) rfl ?_
    refine OpsW.det (det_extract rfl rfl) rfl ?_
    refine OpsW.det (det_assign rfl) rfl ?_
    refine OpsW.det (det_assign rfl) rfl ?_
    refine sNext ?_
    refine W.keep (F' := [(20, _), (19, _), (25, _), (6, _), (22, _), (5, _), (23, _), (18, _), (46, _), (45, _), (8, _), (9, _), (10, _), (11, _), (12, _), (13, _), (14, _), (15, _), (16, _), (4, _)]) ⟨rfl, rfl, rfl, rfl, rfl, rfl, rfl, rfl, rfl, rfl, rfl, rfl, rfl, rfl, rfl, rfl, rfl, rfl, rfl, rfl, trivial⟩ ?_
    refine sSeq ?_
    refine W.region ?_
    refine OpsW.det (det_move rfl) rfl ?_
    refine OpsW.det (det_move rfl) rfl ?_
    refine OpsW.add64 (e := 0) rfl rfl rfl (by first | assumption | exact lim_lt _ _ | decide) (by first | assumption | exact lim_lt _ _ | decide) (by first | assumption | decide) rfl fun s183 c183 he183 hs183 hk183 => ?_
    refine OpsW.det (det_move rfl) rfl ?_
    refine OpsW.det (det_extract rfl rfl) rfl ?_
    refine OpsW.det (det_extract rfl rfl) rfl ?_
    refine OpsW.det (det_assign rfl) rfl ?_
    refine OpsW.det (det_assign rfl) rfl ?_
    refine sNext ?_
    refine W.keep (F' := [(21, _), (20, _), (19, _), (25, _), (6, _), (5, _), (23, _), (18, _), (46, _), (45, _), (8, _), (9, _), (10, _), (11, _), (12, _), (13, _), (14, _), (15, _), (16, _), (4, _)]) ⟨rfl, rfl, rfl, rfl, rfl, rfl, rfl, rfl, rfl, rfl, rfl, rfl, rfl, rfl, rfl, rfl, rfl, rfl, rfl, rfl, trivial⟩ ?_
    refine sSeq ?_
    refine W.region ?_
    refine OpsW.det (det_move rfl) rfl ?_
    refine OpsW.det (det_move rfl) rfl ?_
    refine OpsW.addw rfl rfl (hi_lt hk177 hk183) rfl fun s188 he188 => ?_
    refine OpsW.det (det_assign rfl) rfl ?_
    refine sNext ?_
    refine W.keep (F' := [(19, _), (20, _), (25, _), (6, _), (5, _), (23, _), (18, _), (46, _), (45, _), (8, _), (9, _), (10, _), (11, _), (12, _), (13, _), (14, _), (15, _), (16, _), (4, _)]) ⟨rfl, rfl, rfl, rfl, rfl, rfl, rfl, rfl, rfl, rfl, rfl, rfl, rfl, rfl, rfl, rfl, rfl, rfl, rfl, trivial⟩ ?_
    refine sSeq ?_
    refine W.region ?_
    refine OpsW.det (det_move rfl) rfl ?_
    refine OpsW.det (det_move rfl) rfl ?_
    refine OpsW.add64 (e := 0) rfl rfl rfl (by first | assumption | exact lim_lt _ _ | decide) (by first | assumption | exact lim_lt _ _ | decide) (by first | assumption | decide) rfl fun s192 c192 he192 hs192 hk192 => ?_
    refine OpsW.det (det_move rfl) rfl ?_
    refine OpsW.det (det_extract rfl rfl) rfl ?_
    refine OpsW.det (det_extract rfl rfl) rfl ?_
    refine OpsW.det (det_assign rfl) rfl ?_
    refine OpsW.det (det_assign rfl) rfl ?_
    refine sNext ?_
    refine W.keep (F' := [(21, _), (20, _), (19, _), (25, _), (6, _), (5, _), (23, _), (18, _), (46, _), (45, _), (9, _), (10, _), (11, _), (12, _), (13, _), (14, _), (15, _), (16, _), (4, _)]) ⟨rfl, rfl, rfl, rfl, rfl, rfl, rfl, rfl, rfl, rfl, rfl, rfl, rfl, rfl, rfl, rfl, rfl, rfl, rfl, trivial⟩ ?_
    refine sSeq ?_
    refine W.region ?_
    refine OpsW.det (det_move rfl) rfl ?_
    refine OpsW.det (det_move rfl) rfl ?_
    refine OpsW.addw rfl rfl (col_lt (lim_lt _ _) hy hG2 ht3 he177 he183 he188 he192) rfl fun s197 he197 => ?_
    have E3 := col he177 he183 he188 he192 he197
    have hG3 : s197 < 18446744073709551616 := by rw [he197]; exact col_lt (lim_lt _ _) hy hG2 ht3 he177 he183 he188 he192
    clear he177 he183 he188 he192 he197
    refine OpsW.det (det_assign rfl) rfl ?_
    refine sNext ?_
    refine W.keep (F' := [(22, _), (20, _), (25, _), (6, _), (5, _), (23, _), (18, _), (46, _), (45, _), (9, _), (10, _), (11, _), (12, _), (13, _), (14, _), (15, _), (16, _), (4, _)]) ⟨rfl, rfl, rfl, rfl, rfl, rfl, rfl, rfl, rfl, rfl, rfl, rfl, rfl, rfl, rfl, rfl, rfl, rfl, trivial⟩ ?_
    refine sSeq ?_
    refine W.region ?_
    refine OpsW.det (det_move rfl) rfl ?_
    refine OpsW.mul64 (b := 7239337960414712511) rfl rfl (by first | assumption | exact lim_lt _ _ | decide) (by first | assumption | exact lim_lt _ _ | decide) rfl fun hi200 lo200 he200 hs200 hk200 => ?_
    refine OpsW.det (det_move rfl) rfl ?_
    refine OpsW.det (det_extract rfl rfl) rfl ?_
    refine OpsW.det (det_extract rfl rfl) rfl ?_
    refine OpsW.det (det_assign rfl) rfl ?_
    refine OpsW.det (det_assign rfl) rfl ?_
    refine sNext ?_
    refine W.keep (F' := [(24, _), (19, _), (22, _), (20, _), (25, _), (6, _), (5, _), (23, _), (18, _), (46, _), (45, _), (9, _), (10, _), (11, _), (12, _), (13, _), (14, _), (15, _), (16, _), (4, _)]) ⟨rfl, rfl, rfl, rfl, rfl, rfl, rfl, rfl, rfl, rfl, rfl, rfl, rfl, rfl, rfl, rfl, rfl, rfl, rfl, rfl, trivial⟩ ?_
    refine sSeq ?_
    refine W.region ?_
    refine OpsW.det (det_move rfl) rfl ?_
    refine OpsW.det (det_move rfl) rfl ?_
    refine OpsW.add64 (e := 0) rfl rfl rfl (by first | assumption | exact lim_lt _ _ | decide) (by first | assumption | exact lim_lt _ _ | decide) (by first | assumption | decide) rfl fun s206 c206 he206 hs206 hk206 => ?_
    refine OpsW.det (det_move rfl) rfl ?_
    refine OpsW.det (det_extract rfl rfl) rfl ?_
    refine OpsW.det (det_extract rfl rfl) rfl ?_
    refine OpsW.det (det_assign rfl) rfl ?_
    refine OpsW.det (det_assign rfl) rfl ?_
    refine sNext ?_
    refine W.keep (F' := [(21, _), (24, _), (19, _), (22, _), (20, _), (6, _), (5, _), (23, _), (18, _), (46, _), (45, _), (9, _), (10, _), (11, _), (12, _), (13, _), (14, _), (15, _), (16, _), (4, _)]) ⟨rfl, rfl, rfl, rfl, rfl, rfl, rfl, rfl, rfl, rfl, rfl, rfl, rfl, rfl, rfl, rfl, rfl, rfl, rfl, rfl, trivial⟩ ?_
    refine sSeq ?_
    refine W.region ?_
    refine OpsW.det (det_move rfl) rfl ?_
    refine OpsW.det (det_move rfl) rfl ?_
    refine OpsW.addw rfl rfl (hi_lt hk200 hk206) rfl fun s211 he211 => ?_
    refine OpsW.det (det_assign rfl) rfl ?_
    refine sNext ?_
    refine W.keep (F' := [(19, _), (24, _), (22, _), (20, _), (6, _), (5, _), (23, _), (18, _), (46, _), (45, _), (9, _), (10, _), (11, _), (12, _), (13, _), (14, _), (15, _), (16, _), (4, _)]) ⟨rfl, rfl, rfl, rfl, rfl, rfl, rfl, rfl, rfl, rfl, rfl, rfl, rfl, rfl, rfl, rfl, rfl, rfl, rfl, trivial⟩ ?_
    refine sSeq ?_
    refine W.region ?_
    refine OpsW.det (det_move rfl) rfl ?_
    refine OpsW.det (det_move rfl) rfl ?_
    refine OpsW.add64 (e := 0) rfl rfl rfl (by first | assumption | exact lim_lt _ _ | decide) (by first | assumption | exact lim_lt _ _ | decide) (by first | assumption | decide) rfl fun s215 c215 he215 hs215 hk215 => ?_
    refine OpsW.det (det_move rfl) rfl ?_
    refine OpsW.det (det_extract rfl rfl) rfl ?_
    refine OpsW.det (det_extract rfl rfl) rfl ?_
    refine OpsW.det (det_assign rfl) rfl ?_
    refine OpsW.det (det_assign rfl) rfl ?_
    refine sNext ?_
    refine W.keep (F' := [(21, _), (7, _), (19, _), (22, _), (6, _), (5, _), (23, _), (18, _), (46, _), (45, _), (9, _), (10, _), (11, _), (12, _), (13, _), (14, _), (15, _), (16, _), (4, _)]) ⟨rfl, rfl, rfl, rfl, rfl, rfl, rfl, rfl, rfl, rfl, rfl, rfl, rfl, rfl, rfl, rfl, rfl, rfl, rfl, trivial⟩ ?_
    refine sSeq ?_
    refine W.region ?_
    refine OpsW.det (det_move rfl) rfl ?_
    refine OpsW.det (det_move rfl) rfl ?_
    refine OpsW.addw rfl rfl (col_lt hs65 (by decide) hF2 hs192 he200 he206 he211 he215) rfl fun s220 he220 => ?_
    have F3 := col he200 he206 he211 he215 he220
    have hF3 : s220 < 18446744073709551616 := by rw [he220]; exact col_lt hs65 (by decide) hF2 hs192 he200 he206 he211 he215
    clear he200 he206 he211 he215 he220
    refine OpsW.det (det_assign rfl) rfl ?_
    refine sNext ?_
    refine W.keep (F' := [(25, _), (7, _), (22, _), (6, _), (5, _), (23, _), (18, _), (46, _), (45, _), (9, _), (10, _), (11, _), (12, _), (13, _), (14, _), (15, _), (16, _), (4, _)]) ⟨rfl, rfl, rfl, rfl, rfl, rfl, rfl, rfl, rfl, rfl, rfl, rfl, rfl, rfl, rfl, rfl, rfl, rfl, trivial⟩ ?_
    refine sSeq ?_
    refine W.region ?_
    refine OpsW.det (det_move rfl) rfl ?_
    refine OpsW.det (det_move rfl) rfl ?_
    refine OpsW.mul64 rfl rfl (by first | assumption | exact lim_lt _ _ | decide) (by first | assumption | exact lim_lt _ _ | decide) rfl fun hi224 lo224 he224 hs224 hk224 => ?_
    refine OpsW.det (det_move rfl) rfl ?_
    refine OpsW.det (det_extract rfl rfl) rfl ?_
    refine OpsW.det (det_extract rfl rfl) rfl ?_
    refine OpsW.det (det_assign rfl) rfl ?_
    refine OpsW.det (det_assign rfl) rfl ?_
    refine sNext ?_
    refine W.keep (F' := [(20, _), (19, _), (25, _), (7, _), (22, _), (6, _), (5, _), (23, _), (18, _), (46, _), (45, _), (9, _), (10, _), (11, _), (12, _), (13, _), (14, _), (15, _), (16, _), (4, _)]) ⟨rfl, rfl, rfl, rfl, rfl, rfl, rfl, rfl, rfl, rfl, rfl, rfl, rfl, rfl, rfl, rfl, rfl, rfl, rfl, rfl, trivial⟩ ?_
    refine sSeq ?_
    refine W.region ?_
    refine OpsW.det (det_move rfl) rfl ?_
    refine OpsW.det (det_move rfl) rfl ?_
    refine OpsW.add64 (e := 0) rfl rfl rfl (by first | assumption | exact lim_lt _ _ | decide) (by first | assumption | exact lim_lt _ _ | decide) (by first | assumption | decide) rfl fun s230 c230 he230 hs230 hk230 => ?_
    refine OpsW.det (det_move rfl) rfl ?_
    refine OpsW.det (det_extract rfl rfl) rfl ?_
    refine OpsW.det (det_extract rfl rfl) rfl ?_
    refine OpsW.det (det_assign rfl) rfl ?_
    refine OpsW.det (det_assign rfl) rfl ?_
    refine sNext ?_
    refine W.keep (F' := [(21, _), (20, _), (19, _), (25, _), (7, _), (6, _), (5, _), (23, _), (18, _), (46, _), (45, _), (9, _), (10, _), (11, _), (12, _), (13, _), (14, _), (15, _), (16, _), (4, _)]) ⟨rfl, rfl, rfl, rfl, rfl, rfl, rfl, rfl, rfl, rfl, rfl, rfl, rfl, rfl, rfl, rfl, rfl, rfl, rfl, rfl, trivial⟩ ?_
    refine sSeq ?_
    refine W.region ?_
    refine OpsW.det (det_move rfl) rfl ?_
    refine OpsW.det (det_move rfl) rfl ?_
    refine OpsW.addw rfl rfl (hi_lt hk224 hk230) rfl fun s235 he235 => ?_
    refine OpsW.det (det_assign rfl) rfl ?_
    refine sNext ?_
    refine W.keep (F' := [(19, _), (20, _), (25, _), (7, _), (6, _), (5, _), (23, _), (18, _), (46, _), (45, _), (9, _), (10, _), (11, _), (12, _), (13, _), (14, _), (15, _), (16, _), (4, _)]) ⟨rfl, rfl, rfl, rfl, rfl, rfl, rfl, rfl, rfl, rfl, rfl, rfl, rfl, rfl, rfl, rfl, rfl, rfl, rfl, trivial⟩ ?_
    refine sSeq ?_
    refine W.region ?_
    refine OpsW.det (det_move rfl) rfl ?_
    refine OpsW.det (det_move rfl) rfl ?_
    refine OpsW.add64 (e := 0) rfl rfl rfl (by first | assumption | exact lim_lt _ _ | decide) (by first | assumption | exact lim_lt _ _ | decide) (by first | assumption | decide) rfl fun s239 c239 he239 hs239 hk239 => ?_
    refine OpsW.det (det_move rfl) rfl ?_
    refine OpsW.det (det_extract rfl rfl) rfl ?_
    refine OpsW.det (det_extract rfl rfl) rfl ?_
    refine OpsW.det (det_assign rfl) rfl ?_
    refine OpsW.det (det_assign rfl) rfl ?_
    refine sNext ?_
    refine W.keep (F' := [(21, _), (20, _), (19, _), (25, _), (7, _), (6, _), (5, _), (23, _), (18, _), (46, _), (45, _), (10, _), (11, _), (12, _), (13, _), (14, _), (15, _), (16, _), (4, _)]) ⟨rfl, rfl, rfl, rfl, rfl, rfl, rfl, rfl, rfl, rfl, rfl, rfl, rfl, rfl, rfl, rfl, rfl, rfl, rfl, trivial⟩ ?_
    refine sSeq ?_
    refine W.region ?_
    refine OpsW.det (det_move rfl) rfl ?_
    refine OpsW.det (det_move rfl) rfl ?_
    refine OpsW.addw rfl rfl (col_lt (lim_lt _ _) hy hG3 ht4 he224 he230 he235 he239) rfl fun s244 he244 => ?_
    have E4 := col he224 he230 he235 he239 he244
    have hG4 : s244 < 18446744073709551616 := by rw [he244]; exact col_lt (lim_lt _ _) hy hG3 ht4 he224 he230 he235 he239
    clear he224 he230 he235 he239 he244
    refine OpsW.det (det_assign rfl) rfl ?_
    refine sNext ?_
    refine W.keep (F' := [(22, _), (20, _), (25, _), (7, _), (6, _), (5, _), (23, _), (18, _), (46, _), (45, _), (10, _), (11, _), (12, _), (13, _), (14, _), (15, _), (16, _), (4, _)]) ⟨rfl, rfl, rfl, rfl, rfl, rfl, rfl, rfl, rfl, rfl, rfl, rfl, rfl, rfl, rfl, rfl, rfl, rfl, trivial⟩ ?_
    refine sSeq ?_
    refine W.region ?_
    refine OpsW.det (det_move rfl) rfl ?_
    refine OpsW.mul64 (b := 5412103778470702295) rfl rfl (by first | assumption | exact lim_lt _ _ | decide) (by first | assumption | exact lim_lt _ _ | decide) rfl fun hi247 lo247 he247 hs247 hk247 => ?_
    refine OpsW.det (det_move rfl) rfl ?_
    refine OpsW.det (det_extract rfl rfl) rfl ?_
    refine OpsW.det (det_extract rfl rfl) rfl ?_
    refine OpsW.det (det_assign rfl) rfl ?_
    refine OpsW.det (det_assign rfl) rfl ?_
    refine sNext ?_
    refine W.keep (F' := [(24, _), (19, _), (22, _), (20, _), (25, _), (7, _), (6, _), (5, _), (23, _), (18, _), (46, _), (45, _), (10, _), (11, _), (12, _), (13, _), (14, _), (15, _), (16, _), (4, _)]) ⟨rfl, rfl, rfl, rfl, rfl, rfl, rfl, rfl, rfl, rfl, rfl, rfl, rfl, rfl, rfl, rfl, rfl, rfl, rfl, rfl, trivial⟩ ?_
    refine sSeq ?_
    refine W.region ?_
    refine OpsW.det (det_move rfl) rfl ?_
    refine OpsW.det (det_move rfl) rfl ?_
    refine OpsW.add64 (e := 0) rfl rfl rfl (by first | assumption | exact lim_lt _ _ | decide) (by first | assumption | exact lim_lt _ _ | decide) (by first | assumption | decide) rfl fun s253 c253 he253 hs253 hk253 => ?_
    refine OpsW.det (det_move rfl) rfl ?_
    refine OpsW.det (det_extract rfl rfl) rfl ?_
    refine OpsW.det (det_extract rfl rfl) rfl ?_
    refine OpsW.det (det_assign rfl) rfl ?_
    refine OpsW.det (det_assign rfl) rfl ?_
    refine sNext ?_
    refine W.keep (F' := [(21, _), (24, _), (19, _), (22, _), (20, _), (7, _), (6, _), (5, _), (23, _), (18, _), (46, _), (45, _), (10, _), (11, _), (12, _), (13, _), (14, _), (15, _), (16, _), (4, _)]) ⟨rfl, rfl, rfl, rfl, rfl, rfl, rfl, rfl, rfl, rfl, rfl, rfl, rfl, rfl, rfl, rfl, rfl, rfl, rfl, rfl, trivial⟩ ?_
    refine sSeq ?_
    refine W.region ?_
    refine OpsW.det (det_move rfl) rfl ?_
    refine OpsW.det (det_move rfl) rfl ?_
    refine OpsW.addw rfl rfl (hi_lt hk247 hk253) rfl fun s258 he258 => ?_
    refine OpsW.det (det_assign rfl) rfl ?_
    refine sNext ?_
    refine W.keep (F' := [(19, _), (24, _), (22, _), (20, _), (7, _), (6, _), (5, _), (23, _), (18, _), (46, _), (45, _), (10, _), (11, _), (12, _), (13, _), (14, _), (15, _), (16, _), (4, _)]) ⟨rfl, rfl, rfl, rfl, rfl, rfl, rfl, rfl, rfl, rfl, rfl, rfl, rfl, rfl, rfl, rfl, rfl, rfl, rfl, trivial⟩ ?_
    refine sSeq ?_
    refine W.region ?_
    refine OpsW.det (det_move rfl) rfl ?_
    refine OpsW.det (det_move rfl) rfl ?_
    refine OpsW.add64 (e := 0) rfl rfl rfl (by first | assumption | exact lim_lt _ _ | decide) (by first | assumption | exact lim_lt _ _ | decide) (by first | assumption | decide) rfl fun s262 c262 he262 hs262 hk262 => ?_
    refine OpsW.det (det_move rfl) rfl ?_
    refine OpsW.det (det_extract rfl rfl) rfl ?_
    refine OpsW.det (det_extract rfl rfl) rfl ?_
    refine OpsW.det (det_assign rfl) rfl ?_
    refine OpsW.det (det_assign rfl) rfl ?_
    refine sNext ?_
    refine W.keep (F' := [(21, _), (8, _), (19, _), (22, _), (7, _), (6, _), (5, _), (23, _), (18, _), (46, _), (45, _), (10, _), (11, _), (12, _), (13, _), (14, _), (15, _), (16, _), (4, _)]) ⟨rfl, rfl, rfl, rfl, rfl, rfl, rfl, rfl, rfl, rfl, rfl, rfl, rfl, rfl, rfl, rfl, rfl, rfl, rfl, trivial⟩ ?_
    refine sSeq ?_
    refine W.region ?_
    refine OpsW.det (det_move rfl) rfl ?_
    refine OpsW.det (det_move rfl) rfl ?_
    refine OpsW.addw rfl rfl (col_lt hs65 (by decide) hF3 hs239 he247 he253 he258 he262) rfl fun s267 he267 => ?_
    have F4 := col he247 he253 he258 he262 he267
    have hF4 : s267 < 18446744073709551616 := by rw [he267]; exact col_lt hs65 (by decide) hF3 hs239 he247 he253 he258 he262
    clear he247 he253 he258 he262 he267
    refine OpsW.det (det_assign rfl) rfl ?_
    refine sNext ?_
    refine W.keep (F' := [(25, _), (8, _), (22, _), (7, _), (6, _), (5, _), (23, _), (18, _), (46, _), (45, _), (10, _), (11, _), (12, _), (13, _), (14, _), (15, _), (16, _), (4, _)]) ⟨rfl, rfl, rfl, rfl, rfl, rfl, rfl, rfl, rfl, rfl, rfl, rfl, rfl, rfl, rfl, rfl, rfl, rfl, trivial⟩ ?_
    refine sSeq ?_
    refine W.region ?_
    refine OpsW.det (det_move rfl) rfl ?_
    refine OpsW.det (det_move rfl) rfl ?_
    refine OpsW.mul64 rfl rfl (by first | assumption | exact lim_lt _ _ | decide) (by first | assumption | exact lim_lt _ _ | decide) rfl fun hi271 lo271 he271 hs271 hk271 => ?_
    refine OpsW.det (det_move rfl) rfl ?_
    refine OpsW.det (det_extract rfl rfl) rfl ?_
    refine OpsW.det (det_extract rfl rfl) rfl ?_
    refine OpsW.det (det_assign rfl) rfl ?_
    refine OpsW.det (det_assign rfl) rfl ?_
    refine sNext ?_
    refine W.keep (F' := [(20, _), (19, _), (25, _), (8, _), (22, _), (7, _), (6, _), (5, _), (23, _), (46, _), (45, _), (10, _), (11, _), (12, _), (13, _), (14, _), (15, _), (16, _), (4, _)]) ⟨rfl, rfl, rfl, rfl, rfl, rfl, rfl, rfl, rfl, rfl, rfl, rfl, rfl, rfl, rfl, rfl, rfl, rfl, rfl, trivial⟩ ?_
    refine sSeq ?_
    refine W.region ?_
    refine OpsW.det (det_move rfl) rfl ?_
    refine OpsW.det (det_move rfl) rfl ?_
    refine OpsW.add64 (e := 0) rfl rfl rfl (by first | assumption | exact lim_lt _ _ | decide) (by first | assumption | exact lim_lt _ _ | decide) (by first | assumption | decide) rfl fun s277 c277 he277 hs277 hk277 => ?_
    refine OpsW.det (det_move rfl) rfl ?_
    refine OpsW.det (det_extract rfl rfl) rfl ?_
    refine OpsW.det (det_extract rfl rfl) rfl ?_
    refine OpsW.det (det_assign rfl) rfl ?_
    refine OpsW.det (det_assign rfl) rfl ?_
    refine sNext ?_
    refine W.keep (F' := [(21, _), (20, _), (19, _), (25, _), (8, _), (7, _), (6, _), (5, _), (23, _), (46, _), (45, _), (10, _), (11, _), (12, _), (13, _), (14, _), (15, _), (16, _), (4, _)]) ⟨rfl, rfl, rfl, rfl, rfl, rfl, rfl, rfl, rfl, rfl, rfl, rfl, rfl, rfl, rfl, rfl, rfl, rfl, rfl, trivial⟩ ?_
    refine sSeq ?_
    refine W.region ?_
    refine OpsW.det (det_move rfl) rfl ?_
    refine OpsW.det (det_move rfl) rfl ?_
    refine OpsW.addw rfl rfl (hi_lt hk271 hk277) rfl fun s282 he282 => ?_
    refine OpsW.det (det_assign rfl) rfl ?_
    refine sNext ?_
    refine W.keep (F' := [(19, _), (20, _), (25, _), (8, _), (7, _), (6, _), (5, _), (23, _), (46, _), (45, _), (10, _), (11, _), (12, _), (13, _), (14, _), (15, _), (16, _), (4, _)]) ⟨rfl, rfl, rfl, rfl, rfl, rfl, rfl, rfl, rfl, rfl, rfl, rfl, rfl, rfl, rfl, rfl, rfl, rfl, trivial⟩ ?_
    refine sSeq ?_
    refine W.region ?_
    refine OpsW.det (det_move rfl) rfl ?_
    refine OpsW.det (det_move rfl) rfl ?_
    refine OpsW.add64 (e := 0) rfl rfl rfl (by first | assumption | exact lim_lt _ _ | decide) (by first | assumption | exact lim_lt _ _ | decide) (by first | assumption | decide) rfl fun s286 c286 he286 hs286 hk286 => ?_
    refine OpsW.det (det_move rfl) rfl ?_
    refine OpsW.det (det_extract rfl rfl) rfl ?_
    refine OpsW.det (det_extract rfl rfl) rfl ?_
    refine OpsW.det (det_assign rfl) rfl ?_
    refine OpsW.det (det_assign rfl) rfl ?_
    refine sNext ?_
    refine W.keep (F' := [(21, _), (20, _), (19, _), (25, _), (8, _), (7, _), (6, _), (5, _), (23, _), (46, _), (45, _), (11, _), (12, _), (13, _), (14, _), (15, _), (16, _), (4, _)]) ⟨rfl, rfl, rfl, rfl, rfl, rfl, rfl, rfl, rfl, rfl, rfl, rfl, rfl, rfl, rfl, rfl, rfl, rfl, trivial⟩ ?_
    refine sSeq ?_
    refine W.region ?_
    refine OpsW.det (det_move rfl) rfl ?_
    refine OpsW.det (det_move rfl) rfl ?_
    refine OpsW.addw rfl rfl (col_lt (lim_lt _ _) hy hG4 ht5 he271 he277 he282 he286) rfl fun s291 he291 => ?_
    have E5 := col he271 he277 he282 he286 he291
    have hG5 : s291 < 18446744073709551616 := by rw [he291]; exact col_lt (lim_lt _ _) hy hG4 ht5 he271 he277 he282 he286
    clear he271 he277 he282 he286 he291
    refine OpsW.det (det_assign rfl) rfl ?_
    refine sNext ?_
    refine W.keep (F' := [(22, _), (20, _), (25, _), (8, _), (7, _), (6, _), (5, _), (23, _), (46, _), (45, _), (11, _), (12, _), (13, _), (14, _), (15, _), (16, _), (4, _)]) ⟨rfl, rfl, rfl, rfl, rfl, rfl, rfl, rfl, rfl, rfl, rfl, rfl, rfl, rfl, rfl, rfl, rfl, trivial⟩ ?_
    refine sSeq ?_
    refine W.region ?_
    refine OpsW.det (det_move rfl) rfl ?_
    refine OpsW.mul64 (b := 1873798617647539866) rfl rfl (by first | assumption | exact lim_lt _ _ | decide) (by first | assumption | exact lim_lt _ _ | decide) rfl fun hi294 lo294 he294 hs294 hk294 => ?_
    refine OpsW.det (det_move rfl) rfl ?_
    refine OpsW.det (det_extract rfl rfl) rfl ?_
    refine OpsW.det (det_extract rfl rfl) rfl ?_
    refine OpsW.det (det_assign rfl) rfl ?_
    refine OpsW.det (det_assign rfl) rfl ?_
    refine sNext ?_
    refine W.keep (F' := [(24, _), (19, _), (22, _), (20, _), (25, _), (8, _), (7, _), (6, _), (5, _), (46, _), (45, _), (11, _), (12, _), (13, _), (14, _), (15, _), (16, _), (4, _)]) ⟨rfl, rfl, rfl, rfl, rfl, rfl, rfl, rfl, rfl, rfl, rfl, rfl, rfl, rfl, rfl, rfl, rfl, rfl, trivial⟩ ?_
    refine sSeq ?_
    refine W.region ?_
    refine OpsW.det (det_move rfl) rfl ?_
    refine OpsW.det (det_move rfl) rfl ?_
    refine OpsW.add64 (e := 0) rfl rfl rfl (by first | assumption | exact lim_lt _ _ | decide) (by first | assumption | exact lim_lt _ _ | decide) (by first | assumption | decide) rfl fun s300 c300 he300 hs300 hk300 => ?_
    refine OpsW.det (det_move rfl) rfl ?_
    refine OpsW.det (det_extract rfl rfl) rfl ?_
    refine OpsW.det (det_extract rfl rfl) rfl ?_
    refine OpsW.det (det_assign rfl) rfl ?_
    refine OpsW.det (det_assign rfl) rfl ?_
    refine sNext ?_
    refine W.keep (F' := [(21, _), (24, _), (19, _), (22, _), (20, _), (8, _), (7, _), (6, _), (5, _), (46, _), (45, _), (11, _), (12, _), (13, _), (14, _), (15, _), (16, _), (4, _)]) ⟨rfl, rfl, rfl, rfl, rfl, rfl, rfl, rfl, rfl, rfl, rfl, rfl, rfl, rfl, rfl, rfl, rfl, rfl, trivial⟩ ?_
    refine sSeq ?_
    refine W.region ?_
    refine OpsW.det (det_move rfl) rfl ?_
    refine OpsW.det (det_move rfl) rfl ?_
    refine OpsW.addw rfl rfl (hi_lt hk294 hk300) rfl fun s305 he305 => ?_
    refine OpsW.det (det_assign rfl) rfl ?_
    refine sNext ?_
    refine W.keep (F' := [(19, _), (24, _), (22, _), (20, _), (8, _), (7, _), (6, _), (5, _), (46, _), (45, _), (11, _), (12, _), (13, _), (14, _), (15, _), (16, _), (4, _)]) ⟨rfl, rfl, rfl, rfl, rfl, rfl, rfl, rfl, rfl, rfl, rfl, rfl, rfl, rfl, rfl, rfl, rfl, trivial⟩ ?_
    refine sSeq ?_
    refine W.region ?_
    refine OpsW.det (det_move rfl) rfl ?_
    refine OpsW.det (det_move rfl) rfl ?_
    refine OpsW.add64 (e := 0) rfl rfl rfl (by first | assumption | exact lim_lt _ _ | decide) (by first | assumption | exact lim_lt _ _ | decide) (by first | assumption | decide) rfl fun s309 c309 he309 hs309 hk309 => ?_
    refine OpsW.det (det_move rfl) rfl ?_
    refine OpsW.det (det_extract rfl rfl) rfl ?_
    refine OpsW.det (det_extract rfl rfl) rfl ?_
    refine OpsW.det (det_assign rfl) rfl ?_
    refine OpsW.det (det_assign rfl) rfl ?_
    refine sNext ?_
    refine W.keep (F' := [(21, _), (9, _), (19, _), (22, _), (8, _), (7, _), (6, _), (5, _), (46, _), (45, _), (11, _), (12, _), (13, _), (14, _), (15, _), (16, _), (4, _)]) ⟨rfl, rfl, rfl, rfl, rfl, rfl, rfl, rfl, rfl, rfl, rfl, rfl, rfl, rfl, rfl, rfl, rfl, trivial⟩ ?_
    refine sSeq ?_
    refine W.region ?_
    refine OpsW.det (det_move rfl) rfl ?_
    refine OpsW.det (det_move rfl) rfl ?_
    refine OpsW.addw rfl rfl (col_lt hs65 (by decide) hF4 hs286 he294 he300 he305 he309) rfl fun s314 he314 => ?_
    have F5 := col he294 he300 he305 he309 he314
    have hF5 : s314 < 18446744073709551616 := by rw [he314]; exact col_lt hs65 (by decide) hF4 hs286 he294 he300 he305 he309
    clear he294 he300 he305 he309 he314
    refine OpsW.det (det_assign rfl) rfl ?_
    refine sNext ?_
    refine W.keep (F' := [(25, _), (9, _), (22, _), (8, _), (7, _), (6, _), (5, _), (46, _), (45, _), (11, _), (12, _), (13, _), (14, _), (15, _), (16, _), (4, _)]) ⟨rfl, rfl, rfl, rfl, rfl, rfl, rfl, rfl, rfl, rfl, rfl, rfl, rfl, rfl, rfl, rfl, trivial⟩ ?_
    refine W.region ?_
    refine OpsW.det (det_move rfl) rfl ?_
    refine OpsW.det (det_move rfl) rfl ?_
    refine OpsW.addw rfl rfl (top_pp E0 E1 E2 E3 E4 E5 F0 F1 F2 F3 F4 F5 hT hXv hy hs65) rfl fun s317 he317 => ?_
    have hl317 : s317 < 18446744073709551616 := by rw [he317]; exact (top_pp E0 E1 E2 E3 E4 E5 F0 F1 F2 F3 F4 F5 hT hXv hy hs65)
    refine OpsW.det (det_assign rfl) rfl ?_
    refine sLast ?_
    refine bNext ?_
    refine W.keep (F' := [(10, _), (9, _), (8, _), (7, _), (6, _), (5, _), (46, _), (45, _), (11, _), (12, _), (13, _), (14, _), (15, _), (16, _), (4, _)]) ⟨rfl, rfl, rfl, rfl, rfl, rfl, rfl, rfl, rfl, rfl, rfl, rfl, rfl, rfl, rfl, trivial⟩ ?_
    refine W.region ?_
    refine OpsW.det (det_addN (b := 1) rfl rfl (idx_ok hlt (by decide))) rfl ?_
    refine OpsW.det (det_move rfl) rfl ?_
    refine sLast ?_
    have hS := sum_pp E0 E1 E2 E3 E4 E5 F0 F1 F2 F3 F4 F5 he317
    rw [val_lim6 (m := X) (Nat.lt_trans hX (by decide))] at hS
    exact rEnd (i + 1, s121, s168, s215, s262, s309, s317) ⟨hlt, hs121, hs168, hs215, hs262, hs309, hl317, _, inv_lt hM hs65, inv_step hI hS⟩ ⟨rfl, rfl, rfl, rfl, rfl, rfl, rfl, rfl, rfl, rfl, rfl, rfl, rfl, rfl, rfl, trivial⟩ (List.Sublist.refl _) (step_lt hlt)
  · skip
    have hi6 : i = 6 := by simp only [decide_eq_false_iff_not] at hc47; omega
    subst hi6
    have hE := end_pp hI hY
    refine sExit ?_
    refine xLoop ?_
    refine xHere ?_
    refine W.keep (F' := [(5, _), (6, _), (7, _), (8, _), (9, _), (10, _), (4, _)]) ⟨rfl, rfl, rfl, rfl, rfl, rfl, rfl, trivial⟩ ?_
    refine sSeq ?_
    refine W.region ?_
    refine OpsW.det (det_move rfl) rfl ?_
    refine OpsW.det (det_move rfl) rfl ?_
    refine OpsW.det (det_move rfl) rfl ?_
    refine OpsW.det (det_move rfl) rfl ?_
    refine OpsW.det (det_move rfl) rfl ?_
    refine OpsW.det (det_move rfl) rfl ?_
    refine OpsW.det (det_build rfl bld27) rfl ?_
    refine OpsW.det (det_call en58 rfl (fun w hb ho => reduce_ok ht0 ht1 ht2 ht3 ht4 ht5 hT ho.blocks)) rfl ?_
    refine OpsW.det (det_build rfl bld29) rfl ?_
    refine OpsW.store sz29 rfl rfl rfl rfl rfl (Upd.here) rfl ?_
    refine sNext ?_
    refine W.keep (F' := [(4, _)]) ⟨rfl, trivial⟩ ?_
    refine sRet ?_
    exact done1 Tryd.results17 (rv_cellA ty29 rfl (List.Mem.head _) rfl) (congrArg enc6 hE)

end Go.Cu

/- The curve's numbers and points as Go lays them, and when two of them are equal in Go. -/
namespace Go.Cu
open Go Go.Vm Go.RowKit Go.Proofs
attribute [local irreducible] W OpsW Det Fresh New Writes Vm.Pure Makes Changes ExternTo BuildTo ZeroTo FieldTo IndexTo BinTo SliceTo Vm.Enters

def cellsF (x : Fq) : List Value := [u64 (lim (mont x) 0), u64 (lim (mont x) 1), u64 (lim (mont x) 2), u64 (lim (mont x) 3), u64 (lim (mont x) 4), u64 (lim (mont x) 5)]
theorem encF_eq (x : Fq) : encF x = .agg (cellsF x).toArray := rfl

theorem lim6_inj {m k : Nat} (hm : m < R6) (hk : k < R6) (h0 : lim m 0 = lim k 0) (h1 : lim m 1 = lim k 1) (h2 : lim m 2 = lim k 2) (h3 : lim m 3 = lim k 3) (h4 : lim m 4 = lim k 4) (h5 : lim m 5 = lim k 5) : m = k := by
  rw [← val_lim6 hm, ← val_lim6 hk, h0, h1, h2, h3, h4, h5]
theorem mont_inj {x y : Fq} (h : mont x = mont y) : x = y := by
  have h1 : ∀ z : Fq, mont z * inv_pp % pp = z.val := fun z => by
    unfold mont
    rw [Nat.mod_mul_mod, Nat.mul_assoc, Nat.mul_mod, show R6 * inv_pp % pp = 1 from by decide +kernel, Nat.mul_one, Nat.mod_mod, Nat.mod_eq_of_lt z.lt]
  exact Zp.ext (by rw [← h1 x, h, h1 y])
theorem mont_R6 (x : Fq) : mont x < R6 := Nat.lt_trans (mont_lt x) (by decide)

/-- In every world the two are equal in Go just if b. -/
def EqTo (P : Program) (d : Nat) (t : TypeId) (u v : Value) (b : Bool) : Prop := ∀ w, (Op.equalIn d t u v).run P w = .ok b w

theorem eq_items {P : Program} {d e : Nat} (he : P.plainKey e = true) (hu : P.underlying e = some (.int .u64)) {xs ys : Array Value} {f g : Nat → Nat} (w : World) : ∀ (is : List Nat),
    (∀ i ∈ is, xs[i * 1]? = some (u64 (f i)) ∧ ys[i * 1]? = some (u64 (g i))) → (Op.eqItems (d + 1) e 1 xs ys is).run P w = .ok (is.all fun i => f i == g i) w
  | [], _ => by simp [Op.eqItems]
  | i :: is, h => by
    obtain ⟨h1, h2⟩ := h i (by simp)
    have ih := eq_items (d := d) he hu w is (fun j hj => h j (by simp [hj]))
    simp only [Op.eqItems, Sem.run_bind, run_part_plain w he h1, run_part_plain w he h2, Result.andThen_ok, u64, run_equalIn_int w d e .u64 .u64 _ _ hu, List.all_cons]
    by_cases hfg : f i = g i
    · simp [hfg, ih]
    · have : ((f i : Int) == (g i : Int)) = false := by simp; omega
      have h' : (f i == g i) = false := by simp [hfg]
      simp [this, h']
theorem eq_one {P : Program} {d t off ft : Nat} {nm : String} {xs ys : Array Value} {a b : Value} {r : Bool} (hu : P.underlying t = some (.struct (P.fieldsOf t))) (hs : P.stoodInHeld t = false)
    (hf : (P.fieldsOf t).toList.map (fun f => (f.name, f.type, f.offset)) = [(nm, ft, off)]) (hn : nm ≠ "_")
    (h1 : ∀ w, (part ft xs off).run P w = .ok a w) (h2 : ∀ w, (part ft ys off).run P w = .ok b w) (h : EqTo P d ft a b r) : EqTo P (d + 1) t (.agg xs) (.agg ys) r := fun w => by
  rw [run_equalIn_struct w d t xs ys hu hs]
  cases hl : (P.fieldsOf t).toList with
  | nil => simp [hl] at hf
  | cons f l =>
    simp only [hl, List.map_cons, List.cons.injEq, Prod.mk.injEq, List.map_eq_nil_iff] at hf
    obtain ⟨⟨rfl, rfl, rfl⟩, rfl⟩ := hf
    simp only [Op.eqFields, hn, ne_eq, not_false_eq_true, if_true, Sem.run_bind, h1, h2, h w, Result.andThen_ok]
    cases r <;> simp
theorem eq_two {P : Program} {d t off ft off' ft' : Nat} {nm nm' : String} {xs ys : Array Value} {a b a' b' : Value} {r r' : Bool} (hu : P.underlying t = some (.struct (P.fieldsOf t))) (hs : P.stoodInHeld t = false)
    (hf : (P.fieldsOf t).toList.map (fun f => (f.name, f.type, f.offset)) = [(nm, ft, off), (nm', ft', off')]) (hn : nm ≠ "_") (hn' : nm' ≠ "_")
    (h1 : ∀ w, (part ft xs off).run P w = .ok a w) (h2 : ∀ w, (part ft ys off).run P w = .ok b w) (h : EqTo P d ft a b r)
    (h1' : ∀ w, (part ft' xs off').run P w = .ok a' w) (h2' : ∀ w, (part ft' ys off').run P w = .ok b' w) (h' : EqTo P d ft' a' b' r') : EqTo P (d + 1) t (.agg xs) (.agg ys) (r && r') := fun w => by
  rw [run_equalIn_struct w d t xs ys hu hs]
  cases hl : (P.fieldsOf t).toList with
  | nil => simp [hl] at hf
  | cons f l =>
    cases l with
    | nil => simp [hl] at hf
    | cons f' l =>
      simp only [hl, List.map_cons, List.cons.injEq, Prod.mk.injEq, List.map_eq_nil_iff] at hf
      obtain ⟨⟨rfl, rfl, rfl⟩, ⟨rfl, rfl, rfl⟩, rfl⟩ := hf
      have hr := h w
      have hr' := h' w
      simp only [Op.eqFields, hn, hn', ne_eq, not_false_eq_true, if_true, Sem.run_bind, h1, h2, hr, Result.andThen_ok]
      cases r
      · simp
      · simp only [h1', h2', hr', Bool.not_true, Bool.false_eq_true, if_false, Sem.run_bind, Result.andThen_ok]
        cases r' <;> simp

theorem eqTo27 (d m k : Nat) : EqTo Tryd.prog (d + 2) 27 (enc6 m) (enc6 k) ((List.range 6).all fun i => lim m i == lim k i) := fun w => by
  unfold enc6
  obtain ⟨i, hi⟩ : ∃ i, Tryd.prog.info? 26 = some i := by
    have := sz26
    unfold sizeIn at this
    cases h : Tryd.prog.info? 26 with
    | none => simp [h] at this
    | some i => exact ⟨i, rfl⟩
  rw [run_equalIn_array w (d + 1) _ _ (show Tryd.prog.underlying 27 = some (.array 6 26) by kernel_rfl) hi, show Tryd.prog.cellsOf 26 = 1 by kernel_rfl]
  refine eq_items (show Tryd.prog.plainKey 26 = true by kernel_rfl) (show Tryd.prog.underlying 26 = some (.int .u64) by kernel_rfl) w _ fun i hi => ?_
  have : i < 6 := by simpa using hi
  have : i = 0 ∨ i = 1 ∨ i = 2 ∨ i = 3 ∨ i = 4 ∨ i = 5 := by omega
  rcases this with rfl | rfl | rfl | rfl | rfl | rfl <;> exact ⟨rfl, rfl⟩
theorem eqTo29 (d : Nat) (x y : Fq) : EqTo Tryd.prog (d + 3) 29 (encF x) (encF y) (decide (x = y)) := by
  have h := eqTo27 d (mont x) (mont y)
  have hb : ((List.range 6).all fun i => lim (mont x) i == lim (mont y) i) = decide (x = y) := by
    rw [Bool.eq_iff_iff, decide_eq_true_eq, List.all_eq_true]
    constructor
    · intro h
      have h' : ∀ i, i < 6 → lim (mont x) i = lim (mont y) i := fun i hi => by simpa using h i (by simpa using hi)
      exact mont_inj (lim6_inj (mont_R6 x) (mont_R6 y) (h' 0 (by decide)) (h' 1 (by decide)) (h' 2 (by decide)) (h' 3 (by decide)) (h' 4 (by decide)) (h' 5 (by decide)))
    · intro h; subst h; simp
  rw [hb] at h
  exact eq_one (by kernel_rfl) (by kernel_rfl) (nm := "v") (ft := 27) (off := 0) (by kernel_rfl) (by decide) (fun w => by kernel_rfl) (fun w => by kernel_rfl) h
theorem bin_of_eq {P : Program} {t : TypeId} {x y : Operand} {xs ys : Array Value} {b : Bool} (hg : P.eqGuardType P.depth t = false) (h : EqTo P 10000 t (.agg xs) (.agg ys) b) : BinTo P .eql t x y (.agg xs) (.agg ys) (.bool b) :=
  BinTo.of (fun w => run_eqGuard_agg w .eql t x y xs ys hg) (fun w => by rw [run_eql_struct, h w]; rfl)
theorem bin_of_ne {P : Program} {t : TypeId} {x y : Operand} {xs ys : Array Value} {b : Bool} (hg : P.eqGuardType P.depth t = false) (h : EqTo P 10000 t (.agg xs) (.agg ys) b) : BinTo P .neq t x y (.agg xs) (.agg ys) (.bool (!b)) :=
  BinTo.of (fun w => run_eqGuard_agg w .neq t x y xs ys hg) (fun w => by rw [run_neq_struct, h w]; rfl)

/-- A point, by its two coordinates; the point at nought is (0, 0). -/
abbrev Pt := Fq × Fq
def encP (p : Pt) : Value := .agg (cellsF p.1 ++ cellsF p.2).toArray
theorem eqTo31 (d : Nat) (p q : Pt) : EqTo Tryd.prog (d + 4) 31 (encP p) (encP q) (decide (p = q)) := by
  have h := eq_two (P := Tryd.prog) (d := d + 3) (t := 31) (xs := (cellsF p.1 ++ cellsF p.2).toArray) (ys := (cellsF q.1 ++ cellsF q.2).toArray) (by kernel_rfl) (by kernel_rfl) (nm := "X") (ft := 29) (off := 0) (nm' := "Y") (ft' := 29) (off' := 6) (by kernel_rfl) (by decide) (by decide)
    (fun w => by kernel_rfl) (fun w => by kernel_rfl) (eqTo29 d p.1 q.1) (fun w => by kernel_rfl) (fun w => by kernel_rfl) (eqTo29 d p.2 q.2)
  have hb : (decide (p.1 = q.1) && decide (p.2 = q.2)) = decide (p = q) := by
    rw [Bool.eq_iff_iff]; simp [Prod.ext_iff]
  rw [hb] at h
  exact h
theorem eq29 {x y : Operand} {a b : Fq} : BinTo Tryd.prog .eql 29 x y (encF a) (encF b) (.bool (decide (a = b))) := bin_of_eq (by kernel_rfl) (eqTo29 9997 a b)
theorem ne29 {x y : Operand} {a b : Fq} : BinTo Tryd.prog .neq 29 x y (encF a) (encF b) (.bool (!decide (a = b))) := bin_of_ne (by kernel_rfl) (eqTo29 9997 a b)
theorem eq31 {x y : Operand} {a b : Pt} : BinTo Tryd.prog .eql 31 x y (encP a) (encP b) (.bool (decide (a = b))) := bin_of_eq (by kernel_rfl) (eqTo31 9996 a b)
theorem ne31 {x y : Operand} {a b : Pt} : BinTo Tryd.prog .neq 31 x y (encP a) (encP b) (.bool (!decide (a = b))) := bin_of_ne (by kernel_rfl) (eqTo31 9996 a b)
end Go.Cu

/- The first group's field: what its functions compute: the walks. Conditions: none. -/
namespace Go.Cu
open Go Go.Vm Go.RowKit Go.Proofs 
attribute [local irreducible] W OpsW Det Fresh New Writes Vm.Pure Makes Changes ExternTo BuildTo ZeroTo FieldTo IndexTo BinTo SliceTo Vm.Enters
set_option linter.unusedVariables false
set_option linter.unusedSimpArgs false
variable {T : Nat → TypeId × Nat × Nat}

theorem Add_ok {x y : Fq} {w : World} (hG : Blocks (GH T) w) : Vm.Pure Tryd.prog 18 #[encF x, encF y] w (encF (x + y)) := (Add_w_ok (mont_lt x) (mont_lt y) hG).same (congrArg enc6 (mont_add x y))
theorem Sub_ok {x y : Fq} {w : World} (hG : Blocks (GH T) w) : Vm.Pure Tryd.prog 62 #[encF x, encF y] w (encF (x - y)) := (Sub_w_ok (mont_lt x) (mont_lt y) hG).same (congrArg enc6 (mont_sub x y))
theorem Mul_ok {x y : Fq} {w : World} (hG : Blocks (GH T) w) : Vm.Pure Tryd.prog 17 #[encF x, encF y] w (encF (x * y)) := (Mul_w_ok (mont_lt x) (mont_lt y) hG).same (congrArg enc6 (mont_mul x y))
/-- A word that is no number of the field is not asked: every word is below the modulus. -/
theorem of_words {n : Nat} (h : n < 18446744073709551616) : enc6 n = .agg #[u64 n, .int .u64 0, .int .u64 0, .int .u64 0, .int .u64 0, .int .u64 0] := by
  have := lim6 h (by decide : 0 < 18446744073709551616) (by decide : 0 < 18446744073709551616) (by decide : 0 < 18446744073709551616) (by decide : 0 < 18446744073709551616) (by decide : 0 < 18446744073709551616)
  have hv : val6 n 0 0 0 0 0 = n := by simp [val6]
  rw [hv] at this
  exact this
def R66 : Nat := val6 17644856173732828998 754043588434789617 10224657059481499349 7488229067341005760 11130996698012816685 1267921511277847466
theorem Of_call {n : Nat} {w : World} (hn : n < 18446744073709551616) (hG : Blocks (GH T) w) : Vm.Pure Tryd.prog 17 #[.agg #[u64 n, .int .u64 0, .int .u64 0, .int .u64 0, .int .u64 0, .int .u64 0], .agg glo1.toArray] w (encF (Zp.of n)) := by
  have h := Mul_w_ok (X := n) (Y := R66) (Nat.lt_trans hn (by decide)) (by decide) hG
  rw [← of_words hn]
  refine h.same (congrArg enc6 ?_)
  unfold mont
  show _ = (n % pp) * R6 % pp
  rw [Nat.mod_mul_mod, Nat.mul_assoc, Nat.mul_mod, show R66 * inv_pp % pp = R6 % pp from by decide +kernel, ← Nat.mul_mod]
section
variable {K : List Nat} {G : Hp} {w0 : World} {d : Option Tmp} {ty xt yt : TypeId} {pos : String} {after : Array Edge} {g : Option (Nat × Bool)} {F : Fr} {H : Hp} {x y : Operand}
theorem det_eql29 {a b : Fq} (hx : ev F x = some (encF a)) (hy : ev F y = some (encF b)) : Det Tryd.prog K G w0 ⟨d, .binOp .eql 29 x y yt, ty, pos, after, g⟩ F H (.bool (decide (a = b))) := det_binTo hx hy eq29
theorem det_neq29 {a b : Fq} (hx : ev F x = some (encF a)) (hy : ev F y = some (encF b)) : Det Tryd.prog K G w0 ⟨d, .binOp .neq 29 x y yt, ty, pos, after, g⟩ F H (.bool (!decide (a = b))) := det_binTo hx hy ne29
theorem det_eql31 {a b : Pt} (hx : ev F x = some (encP a)) (hy : ev F y = some (encP b)) : Det Tryd.prog K G w0 ⟨d, .binOp .eql 31 x y yt, ty, pos, after, g⟩ F H (.bool (decide (a = b))) := det_binTo hx hy eq31
theorem det_neq31 {a b : Pt} (hx : ev F x = some (encP a)) (hy : ev F y = some (encP b)) : Det Tryd.prog K G w0 ⟨d, .binOp .neq 31 x y yt, ty, pos, after, g⟩ F H (.bool (!decide (a = b))) := det_binTo hx hy ne31
end
/-- A point in Jacobi's coordinates. -/
abbrev Jac := Fq × Fq × Fq
def encJ (p : Jac) : Value := .agg (cellsF p.1 ++ cellsF p.2.1 ++ cellsF p.2.2).toArray

theorem bld27_0 {v0 : Int} : BuildTo Tryd.prog 27 [(0, .int .u64 v0)] (.agg #[.int .u64 v0, .int .u64 0, .int .u64 0, .int .u64 0, .int .u64 0, .int .u64 0]) := BuildTo.of fun _ => by kernel_rfl
theorem bz29 : ZeroTo Tryd.prog 29 (encF 0) := ZeroTo.of fun _ => by kernel_rfl
theorem en17 : Vm.Enters Tryd.prog 17 := Vm.Enters.of fun _ _ => by kernel_rfl
theorem en19 : Vm.Enters Tryd.prog 19 := Vm.Enters.of fun _ _ => by kernel_rfl
theorem en62 : Vm.Enters Tryd.prog 62 := Vm.Enters.of fun _ _ => by kernel_rfl
theorem Square_ok {x : Fq} {w : World} (hG : Blocks (GH T) w)  : Vm.Pure Tryd.prog 16 #[encF x] w (encF (x * x)) := by
  refine pure_of_W (n := 6) (args := [encF x]) Tryd.func16 rfl Tryd.ntmps16 (Nat.le_of_ble_eq_true rfl) hG ?_
  refine sStart ?_
  refine sSeq ?_
  refine W.region ?_
  refine OpsW.fresh (fr_box rfl rfl) rfl fun b1 => ?_
  refine OpsW.fresh (fr_alloc z29) rfl fun b2 => ?_
  refine sNext ?_
  refine W.keep (F' := [(2, _), (1, _)]) ⟨rfl, rfl, trivial⟩ ?_
  refine sSeq ?_
  refine W.region ?_
  refine OpsW.det (det_loadA ty29 rfl (List.Mem.tail _ (List.Mem.head _)) rfl) rfl ?_
  refine OpsW.det (det_loadA ty29 rfl (List.Mem.tail _ (List.Mem.head _)) rfl) rfl ?_
  refine OpsW.det (det_call en17 rfl (fun w hb ho => Cu.Mul_ok ho.blocks)) rfl ?_
  refine OpsW.store sz29 rfl rfl rfl rfl rfl (Upd.here) rfl ?_
  refine sNext ?_
  refine W.keep (F' := [(2, _)]) ⟨rfl, trivial⟩ ?_
  refine sRet ?_
  exact done1 Tryd.results16 (rv_cellA ty29 rfl (List.Mem.head _) rfl) rfl
theorem Neg_ok {x : Fq} {w : World} (hG : Blocks (GH T) w)  : Vm.Pure Tryd.prog 23 #[encF x] w (encF (0 - x)) := by
  refine pure_of_W (n := 6) (args := [encF x]) Tryd.func23 rfl Tryd.ntmps23 (Nat.le_of_ble_eq_true rfl) hG ?_
  refine sStart ?_
  refine sSeq ?_
  refine W.region ?_
  refine OpsW.fresh (fr_box rfl rfl) rfl fun b1 => ?_
  refine OpsW.fresh (fr_alloc z29) rfl fun b2 => ?_
  refine sNext ?_
  refine W.keep (F' := [(2, _), (1, _)]) ⟨rfl, rfl, trivial⟩ ?_
  refine sSeq ?_
  refine W.region ?_
  refine OpsW.det (det_zero bz29) rfl ?_
  refine OpsW.det (det_loadA ty29 rfl (List.Mem.tail _ (List.Mem.head _)) rfl) rfl ?_
  refine OpsW.det (det_call en62 rfl (fun w hb ho => Cu.Sub_ok ho.blocks)) rfl ?_
  refine OpsW.store sz29 rfl rfl rfl rfl rfl (Upd.here) rfl ?_
  refine sNext ?_
  refine W.keep (F' := [(2, _)]) ⟨rfl, trivial⟩ ?_
  refine sRet ?_
  exact done1 Tryd.results23 (rv_cellA ty29 rfl (List.Mem.head _) rfl) rfl
theorem Zero_ok {x : Fq} {w : World} (hG : Blocks (GH T) w)  : Vm.Pure Tryd.prog 65 #[encF x] w (.bool (decide (x = 0))) := by
  refine pure_of_W (n := 6) (args := [encF x]) Tryd.func65 rfl Tryd.ntmps65 (Nat.le_of_ble_eq_true rfl) hG ?_
  refine sStart ?_
  refine sSeq ?_
  refine W.region ?_
  refine OpsW.fresh (fr_box rfl rfl) rfl fun b1 => ?_
  refine OpsW.det (det_assign rfl) rfl ?_
  refine sNext ?_
  refine W.keep (F' := [(1, _)]) ⟨rfl, trivial⟩ ?_
  refine sSeq ?_
  refine W.region ?_
  refine OpsW.det (det_loadA ty29 rfl (List.Mem.head _) rfl) rfl ?_
  refine OpsW.det (det_zero bz29) rfl ?_
  refine OpsW.det (det_eql29 rfl rfl) rfl ?_
  refine OpsW.det (det_assign rfl) rfl ?_
  refine sNext ?_
  refine W.keep (F' := [(2, _)]) ⟨rfl, trivial⟩ ?_
  refine sRet ?_
  exact done1 Tryd.results65 (rv_tmp rfl) rfl
theorem Of_ok {n : Nat} (hn : n < 18446744073709551616) {w : World} (hG : Blocks (GH T) w)  : Vm.Pure Tryd.prog 19 #[u64 n] w (encF (Zp.of n)) := by
  refine pure_of_W (n := 9) (args := [u64 n]) Tryd.func19 rfl Tryd.ntmps19 (Nat.le_of_ble_eq_true rfl) hG ?_
  refine sStart ?_
  refine sSeq ?_
  refine W.region ?_
  refine OpsW.fresh (fr_alloc z29) rfl fun b2 => ?_
  refine sNext ?_
  refine sSeq ?_
  refine W.region ?_
  refine OpsW.det (det_move rfl) rfl ?_
  refine OpsW.det (det_build rfl bld27_0) rfl ?_
  refine OpsW.det (det_build rfl bld29) rfl ?_
  refine OpsW.det (det_loadA_ro ty27 rfl (List.Mem.head _) rfl) rfl ?_
  refine OpsW.det (det_build rfl bld29) rfl ?_
  refine OpsW.det (det_call en17 rfl (fun w hb ho => Of_call hn ho.blocks)) rfl ?_
  refine OpsW.store sz29 rfl rfl rfl rfl rfl (Upd.here) rfl ?_
  refine sNext ?_
  refine W.keep (F' := [(2, _)]) ⟨rfl, trivial⟩ ?_
  refine sRet ?_
  exact done1 Tryd.results19 (rv_cellA ty29 rfl (List.Mem.head _) rfl) rfl
theorem four_ok  {w : World} (hG : Blocks (GH T) w)  : Vm.Pure Tryd.prog 70 #[] w (encF (Zp.of 4)) := by
  refine pure_of_W (n := 2) (args := []) Tryd.func70 rfl Tryd.ntmps70 (Nat.le_of_ble_eq_true rfl) hG ?_
  refine sStart ?_
  refine sSeq ?_
  refine W.region ?_
  refine OpsW.fresh (fr_alloc z29) rfl fun b0 => ?_
  refine sNext ?_
  refine sSeq ?_
  refine W.region ?_
  refine OpsW.det (det_call en19 rfl (fun w hb ho => Of_ok (n := 4) (by decide) ho.blocks)) rfl ?_
  refine OpsW.store sz29 rfl rfl rfl rfl rfl (Upd.here) rfl ?_
  refine sNext ?_
  refine W.keep (F' := [(0, _)]) ⟨rfl, trivial⟩ ?_
  refine sRet ?_
  exact done1 Tryd.results70 (rv_cellA ty29 rfl (List.Mem.head _) rfl) rfl
theorem one_ok  {w : World} (hG : Blocks (GH T) w)  : Vm.Pure Tryd.prog 98 #[] w (encF (Zp.of 1)) := by
  refine pure_of_W (n := 2) (args := []) Tryd.func98 rfl Tryd.ntmps98 (Nat.le_of_ble_eq_true rfl) hG ?_
  refine sStart ?_
  refine sSeq ?_
  refine W.region ?_
  refine OpsW.fresh (fr_alloc z29) rfl fun b0 => ?_
  refine sNext ?_
  refine sSeq ?_
  refine W.region ?_
  refine OpsW.det (det_call en19 rfl (fun w hb ho => Of_ok (n := 1) (by decide) ho.blocks)) rfl ?_
  refine OpsW.store sz29 rfl rfl rfl rfl rfl (Upd.here) rfl ?_
  refine sNext ?_
  refine W.keep (F' := [(0, _)]) ⟨rfl, trivial⟩ ?_
  refine sRet ?_
  exact done1 Tryd.results98 (rv_cellA ty29 rfl (List.Mem.head _) rfl) rfl

end Go.Cu

/- The first group's field: powers: the walk. Conditions: none. -/
namespace Go.Cu
open Go Go.Vm Go.RowKit Go.Proofs 
attribute [local irreducible] W OpsW Det Fresh New Writes Vm.Pure Makes Changes ExternTo BuildTo ZeroTo FieldTo IndexTo BinTo SliceTo Vm.Enters
set_option linter.unusedVariables false
set_option linter.unusedSimpArgs false
variable {T : Nat → TypeId × Nat × Nat}

def tabF : Nat → (Nat → Fq) → Nat → List Value
  | 0, _, _ => []
  | n + 1, f, i => cellsF (f i) ++ tabF n f (i + 1)
/-- Sixteen numbers, one behind the other. -/
def tabL (f : Nat → Fq) : List Value := tabF 16 f 0
theorem tab_cut {f : Nat → Fq} {i k : Nat} (h : i < 16) (hk : k = i * 6) : cut k 6 (tabL f) = some (cellsF (f i)) := by
  subst hk
  have : i = 0 ∨ i = 1 ∨ i = 2 ∨ i = 3 ∨ i = 4 ∨ i = 5 ∨ i = 6 ∨ i = 7 ∨ i = 8 ∨ i = 9 ∨ i = 10 ∨ i = 11 ∨ i = 12 ∨ i = 13 ∨ i = 14 ∨ i = 15 := by omega
  rcases this with rfl | rfl | rfl | rfl | rfl | rfl | rfl | rfl | rfl | rfl | rfl | rfl | rfl | rfl | rfl | rfl <;> rfl
theorem tabF_congr {f g : Nat → Fq} : ∀ {n i : Nat}, (∀ j, i ≤ j → j < i + n → f j = g j) → tabF n f i = tabF n g i
  | 0, _, _ => rfl
  | n + 1, i, h => by rw [tabF, tabF, h i (by omega) (by omega), tabF_congr (n := n) (i := i + 1) fun j h1 h2 => h j (by omega) (by omega)]
theorem tab_put {f : Nat → Fq} {v : Fq} {i : Nat} (h : i < 16) : splice (i * 6) (cellsF v) (tabL f) = some (tabL fun j => match Nat.beq j i with | true => v | false => f j) := by
  have : i = 0 ∨ i = 1 ∨ i = 2 ∨ i = 3 ∨ i = 4 ∨ i = 5 ∨ i = 6 ∨ i = 7 ∨ i = 8 ∨ i = 9 ∨ i = 10 ∨ i = 11 ∨ i = 12 ∨ i = 13 ∨ i = 14 ∨ i = 15 := by omega
  rcases this with rfl | rfl | rfl | rfl | rfl | rfl | rfl | rfl | rfl | rfl | rfl | rfl | rfl | rfl | rfl | rfl <;> rfl
theorem tab_splice {f f' : Nat → Fq} {v : Fq} {i k : Nat} (h : i < 16) (hk : k = i * 6) (hv : f' i = v) (hf : ∀ j, j ≠ i → f' j = f j) : splice k (cellsF v) (tabL f) = some (tabL f') := by
  subst hk
  rw [tab_put h]
  refine congrArg some (tabF_congr fun j _ _ => ?_)
  by_cases hj : j = i
  · subst hj; simp [hv]
  · have : Nat.beq j i = false := by cases hb : Nat.beq j i with | false => rfl | true => exact absurd (Nat.eq_of_beq_eq_true hb) hj
    simp [this, hf j hj]
/-- The powers of x below the i-th, and noughts. -/
def pwt (x : Fq) (i j : Nat) : Fq := if j < i then pw x j else 0
theorem pwt_new {x : Fq} {i : Nat} (h : 0 < i) : pwt x (i + 1) i = pwt x i (i - 1) * x := by
  obtain ⟨k, rfl⟩ : ∃ k, i = k + 1 := ⟨i - 1, by omega⟩
  simp only [pwt, Nat.lt_succ_self, if_true, Nat.add_sub_cancel]
  rfl
theorem pwt_old {x : Fq} {i : Nat} : ∀ j, j ≠ i → pwt x (i + 1) j = pwt x i j := fun j hj => by
  unfold pwt
  by_cases h : j < i
  · rw [if_pos h, if_pos (by omega)]
  · rw [if_neg h, if_neg (by omega)]
theorem tab_zero {x : Fq} : splice 0 (cellsF (Zp.of 1)) (tabL fun _ => 0) = some (tabL (pwt x 1)) :=
  tab_splice (i := 0) (f' := pwt x 1) (by decide) rfl rfl fun j hj => by unfold pwt; rw [if_neg (by omega)]
def top (E k : Nat) : Nat := E / 2 ^ (4 * k)
theorem word_bits {E k : Nat} : lim E (4 * k / 64) / 2 ^ (4 * k % 64) % 2 ^ 4 = top E k % 16 := by
  unfold lim top
  have h1 : 18446744073709551616 ^ (4 * k / 64) = 2 ^ (64 * (4 * k / 64)) := by rw [Nat.pow_mul]
  have h2 : 4 * k % 64 + 4 ≤ 64 := by omega
  rw [h1, show (18446744073709551616 : Nat) = 2 ^ (4 * k % 64) * 2 ^ (64 - 4 * k % 64) by rw [← Nat.pow_add, show 4 * k % 64 + (64 - 4 * k % 64) = 64 by omega]]
  rw [Nat.mod_mul_right_div_self, Nat.div_div_eq_div_mul, ← Nat.pow_add, show 64 * (4 * k / 64) + 4 * k % 64 = 4 * k by omega]
  rw [Nat.mod_mod_of_dvd _ (Nat.pow_dvd_pow 2 (by omega))]
theorem pw_round {x : Fq} {E k : Nat} : pw x (top E k) = (let y := pw x (top E (k + 1)); let z := y * y; let u := z * z; let v := u * u; v * v) * pw x (top E k % 16) := by
  unfold top
  have h : E / 2 ^ (4 * (k + 1)) = E / 2 ^ (4 * k) / 16 := by rw [Nat.mul_succ, Nat.pow_add, ← Nat.div_div_eq_div_mul]
  rw [h]
  have := pw_16 x (E / 2 ^ (4 * k) / 16)
  simp only at this ⊢
  rw [← this, ← pw_add, Nat.div_add_mod]
theorem z110 : TyZ Tryd.prog 110 (.agg (tabL fun _ => 0).toArray) (tabL fun _ => 0) := ⟨fun _ => by kernel_rfl, by kernel_rfl⟩
theorem idx26' {m i : Nat} (h : i < 6) : cut i 1 [u64 (lim m 0), u64 (lim m 1), u64 (lim m 2), u64 (lim m 3), u64 (lim m 4), u64 (lim m 5)] = some [u64 (lim m i)] := by
  have : i = 0 ∨ i = 1 ∨ i = 2 ∨ i = 3 ∨ i = 4 ∨ i = 5 := by omega
  rcases this with rfl | rfl | rfl | rfl | rfl | rfl <;> rfl
theorem at26 {m i k : Nat} (h : i < 6) (hk : k = i) : [u64 (lim m 0), u64 (lim m 1), u64 (lim m 2), u64 (lim m 3), u64 (lim m 4), u64 (lim m 5)][k]? = some (u64 (lim m i)) := by
  subst hk
  have : k = 0 ∨ k = 1 ∨ k = 2 ∨ k = 3 ∨ k = 4 ∨ k = 5 := by omega
  rcases this with rfl | rfl | rfl | rfl | rfl | rfl <;> rfl
theorem pwt_at {x : Fq} {j : Nat} (h : j < 16) : pwt x 16 j = pw x j := by unfold pwt; rw [if_pos h]
theorem pw_round0 {x : Fq} {E k : Nat} (h : top E k % 16 = 0) : (let y := pw x (top E (k + 1)); let z := y * y; let u := z * z; let v := u * u; v * v) = pw x (top E k) := by
  rw [pw_round (x := x) (E := E) (k := k), h, pw, mul_one']
theorem lt_pow {E a b m : Nat} (hm : a + b = m) (h : E < 2 ^ a * 2 ^ b) : E < 2 ^ m := by subst hm; rw [Nat.pow_add]; exact h
theorem top_96 {E m : Nat} (hE : E < R6) (hm : 192 + 192 = 4 * m) : top E m = 0 := Nat.div_eq_of_lt (lt_pow hm (Nat.lt_of_lt_of_le hE (by decide)))
theorem top_0 {E : Nat} : top E 0 = E := Nat.div_one E
theorem pw_round1 {x : Fq} {E k : Nat} : pw x (top E k) = (let y := pw x (top E (k + 1)); let z := y * y; let u := z * z; let v := u * u; v * v) * pwt x 16 (top E k % 16) := by
  rw [pwt_at (Nat.mod_lt _ (by decide)), pw_round (x := x) (E := E) (k := k)]
theorem sub_cell {a b : Fq} {n t : Nat} {r : Hp} (h : a = b) : List.Sublist ((n, blk (cellsF a) t) :: r) ((n, blk (cellsF b) t) :: r) := by subst h; exact List.Sublist.refl _

theorem en16 : Vm.Enters Tryd.prog 16 := Vm.Enters.of fun _ _ => by kernel_rfl
theorem u110 : Tryd.prog.underlying 110 = some (.array 16 29) := by kernel_rfl
theorem power_ok {x : Fq} {E : Nat} (hE : E < R6) {w : World} (hG : Blocks (GH T) w)  : Vm.Pure Tryd.prog 60 #[encF x, .agg #[u64 (lim (E) 0), u64 (lim (E) 1), u64 (lim (E) 2), u64 (lim (E) 3), u64 (lim (E) 4), u64 (lim (E) 5)]] w (encF (pw x E)) := by
  refine pure_of_W (n := 51) (args := [encF x, .agg #[u64 (lim (E) 0), u64 (lim (E) 1), u64 (lim (E) 2), u64 (lim (E) 3), u64 (lim (E) 4), u64 (lim (E) 5)]]) Tryd.func60 rfl Tryd.ntmps60 (Nat.le_of_ble_eq_true rfl) hG ?_
  refine sStart ?_
  refine sSeq ?_
  refine W.region ?_
  refine OpsW.fresh (fr_box rfl rfl) rfl fun b2 => ?_
  refine OpsW.fresh (fr_box rfl rfl) rfl fun b3 => ?_
  refine OpsW.fresh (fr_alloc z29) rfl fun b4 => ?_
  refine sNext ?_
  refine W.keep (F' := [(4, _), (3, _), (2, _)]) ⟨rfl, rfl, rfl, trivial⟩ ?_
  refine sSeq ?_
  refine W.region ?_
  refine OpsW.fresh (fr_alloc z110) rfl fun b5 => ?_
  refine sNext ?_
  refine sSeq ?_
  refine W.region ?_
  refine OpsW.det (det_call en19 rfl (fun w hb ho => Of_ok (n := 1) (by decide) ho.blocks)) rfl ?_
  refine OpsW.det (det_indexAddr_arr u110 sz29 rfl rfl ⟨by decide, by decide⟩) rfl ?_
  refine OpsW.store sz29 rfl rfl rfl rfl rfl (Upd.here) (tab_zero (x := x)) ?_
  refine sNext ?_
  refine W.keep (F' := [(5, _), (4, _), (3, _), (2, _)]) ⟨rfl, rfl, rfl, rfl, trivial⟩ ?_
  refine sSeq ?_
  refine sSeq ?_
  refine W.region ?_
  refine OpsW.det (det_assign rfl) rfl ?_
  refine sNext ?_
  refine sBlock ?_
  refine sLoop (σ := Nat) (fun i => [(6, .int .i64 (i : Nat)), (5, .pointer (some ⟨b5, 0, none⟩)), (4, .pointer (some ⟨b4, 0, none⟩)), (3, .pointer (some ⟨b3, 0, none⟩)), (2, .pointer (some ⟨b2, 0, none⟩))]) (fun i => [(b5, blk (tabL (pwt x i)) 110), (b4, blk [.int .u64 0, .int .u64 0, .int .u64 0, .int .u64 0, .int .u64 0, .int .u64 0] 29), (b3, blk [u64 (lim E 0), u64 (lim E 1), u64 (lim E 2), u64 (lim E 3), u64 (lim E 4), u64 (lim E 5)] 27), (b2, blk (cellsF x) 29)]) (fun i => 0 < i ∧ i ≤ 16) (fun i => 16 - i) 1 ⟨by decide, by decide⟩ ⟨rfl, rfl, rfl, rfl, rfl, trivial⟩ (List.Sublist.refl _) ?_
  rintro i ⟨hi0, hi⟩
  refine sSeq ?_
  refine sSeq ?_
  refine W.region ?_
  refine OpsW.det (det_move rfl) rfl ?_
  refine OpsW.det (det_lss rfl rfl) rfl ?_
  refine sNext ?_
  refine W.keep (F' := [(13, _), (6, _), (5, _), (4, _), (3, _), (2, _)]) ⟨rfl, rfl, rfl, rfl, rfl, rfl, trivial⟩ ?_
  refine W.cond rfl (fun hc13 => ?_) (fun hc13 => ?_)
  · skip
    have hlt : i < 16 := by have h := hc13; simp only [decide_eq_true_eq] at h; omega
    refine sSkip ?_
    refine sSeq ?_
    refine sBlock ?_
    refine W.draw mixed 8 [[], [], [1], [1, 2], [1, 2, 3], [], [1, 2, 3, 4, 5], [0, 1, 2, 3, 4, 5, 6], [0, 1, 2, 3, 4, 5, 6, 7]] (cl_lt (by decide)) ?_
    refine HeadR.start (cl_lt (by decide)) ?_
    refine HeadR.det rfl (fun β hβ => (det_move rfl)) ?_
    refine HeadR.det rfl (fun β hβ => (det_move rfl)) ?_
    refine HeadR.det rfl (fun β hβ => ((det_subZ (c := ((i - 1 : Nat) : Int)) rfl rfl (by omega) (by omega)))) ?_
    refine HeadR.det rfl (fun β hβ => (det_indexAddr_arr u110 sz29 rfl rfl ⟨by omega, by omega⟩)) ?_
    refine HeadR.det rfl (fun β hβ => (det_loadA ty29 rfl (List.Mem.head _) (tab_cut (i := i - 1) (by omega) (by omega)))) ?_
    refine HeadR.det rfl (fun β hβ => (det_loadA ty29 rfl (List.Mem.tail _ (List.Mem.tail _ (List.Mem.tail _ (List.Mem.head _)))) rfl)) ?_
    refine HeadR.det rfl (fun β hβ => (det_call en17 rfl (fun w hb ho => Cu.Mul_ok ho.blocks))) ?_
    refine HeadR.det rfl (fun β hβ => (det_indexAddr_arr u110 sz29 rfl rfl ⟨by omega, by omega⟩)) ?_
    refine HeadR.done ⟨by kernel_rfl, fun β hβ => ?_⟩
    refine OpsW.norm (F' := [(16, _), (17, _), (18, _), (19, _), (20, _), (21, _), (22, _), (23, _), (13, _), (6, _), (5, _), (4, _), (3, _), (2, _)]) (H' := [(_, _), (_, _), (_, _), (_, _)]) rfl rfl ?_
    refine OpsW.store sz29 rfl rfl rfl rfl rfl (Upd.here) (tab_splice (f' := pwt x (i + 1)) hlt (by omega) (pwt_new hi0) pwt_old) ?_
    refine sLast ?_
    refine bNext ?_
    refine W.keep (F' := [(6, _), (5, _), (4, _), (3, _), (2, _)]) ⟨rfl, rfl, rfl, rfl, rfl, trivial⟩ ?_
    refine W.region ?_
    refine OpsW.det (det_move rfl) rfl ?_
    refine OpsW.det (det_addN (b := 1) rfl rfl (by omega)) rfl ?_
    refine OpsW.det (det_assign rfl) rfl ?_
    refine sLast ?_
    exact rEnd (i + 1) ⟨by omega, by omega⟩ ⟨rfl, rfl, rfl, rfl, rfl, trivial⟩ (List.Sublist.refl _) (by omega)
  · skip
    have hi16 : i = 16 := by have h := hc13; simp only [decide_eq_false_iff_not] at h; omega
    subst hi16
    refine sExit ?_
    refine xLoop ?_
    refine xHere ?_
    refine W.keep (F' := [(5, _), (4, _), (3, _)]) ⟨rfl, rfl, rfl, trivial⟩ ?_
    refine sSeq ?_
    refine W.region ?_
    refine OpsW.det (det_indexAddr_arr u110 sz29 rfl rfl ⟨by decide, by decide⟩) rfl ?_
    refine OpsW.det (det_loadA ty29 rfl (List.Mem.head _) (tab_cut (i := 0) (by omega) (by omega))) rfl ?_
    refine OpsW.fresh (fr_alloc z29) rfl fun b7 => ?_
    refine OpsW.store sz29 rfl rfl rfl rfl rfl (Upd.here) rfl ?_
    refine sNext ?_
    refine W.keep (F' := [(7, _), (5, _), (4, _), (3, _)]) ⟨rfl, rfl, rfl, rfl, trivial⟩ ?_
    refine sSeq ?_
    refine sSeq ?_
    refine W.region ?_
    refine OpsW.det (det_assign rfl) rfl ?_
    refine sNext ?_
    refine sBlock ?_
    have hs : pwt x 16 0 = pw x (top E 96) := by rw [pwt_at (by decide), top_96 hE rfl]
    refine sLoop (σ := Nat) (fun k => [(8, .int .i64 (4 * ((k : Nat) : Int) - 4)), (7, .pointer (some ⟨b7, 0, none⟩)), (5, .pointer (some ⟨b5, 0, none⟩)), (4, .pointer (some ⟨b4, 0, none⟩)), (3, .pointer (some ⟨b3, 0, none⟩))]) (fun k => [(b7, blk (cellsF (pw x (top E k))) 29), (b5, blk (tabL (pwt x 16)) 110), (b4, blk [.int .u64 0, .int .u64 0, .int .u64 0, .int .u64 0, .int .u64 0, .int .u64 0] 29), (b3, blk [u64 (lim E 0), u64 (lim E 1), u64 (lim E 2), u64 (lim E 3), u64 (lim E 4), u64 (lim E 5)] 27), (b2, blk (cellsF x) 29)]) (fun k => k ≤ 96) (fun k => k) 96 (Nat.le_refl _) ⟨rfl, rfl, rfl, rfl, rfl, trivial⟩ (sub_cell hs.symm) ?_
    intro k hk
    refine sSeq ?_
    refine sSeq ?_
    refine W.region ?_
    refine OpsW.det (det_move rfl) rfl ?_
    refine OpsW.det (det_geq rfl rfl) rfl ?_
    refine sNext ?_
    refine W.keep (F' := [(27, _), (8, _), (7, _), (5, _), (4, _), (3, _)]) ⟨rfl, rfl, rfl, rfl, rfl, rfl, trivial⟩ ?_
    refine W.cond rfl (fun hc27 => ?_) (fun hc27 => ?_)
    · skip
      obtain ⟨k, rfl⟩ : ∃ j, k = j + 1 := ⟨k - 1, by have h := hc27; simp only [decide_eq_true_eq] at h; omega⟩
      refine W.norm (F' := [(27, _), (8, .int .i64 ((4 * k : Nat) : Int)), (7, _), (5, _), (4, _), (3, _)]) (H' := [(_, _), (_, _), (_, _), (_, _), (_, _)]) (by rw [show (4 * ((k + 1 : Nat) : Int) - 4) = ((4 * k : Nat) : Int) by omega]) rfl ?_
      refine sSkip ?_
      refine sSeq ?_
      refine sBlock ?_
      refine sSeq ?_
      refine W.region ?_
      refine OpsW.det (det_loadA ty29 rfl (List.Mem.head _) rfl) rfl ?_
      refine OpsW.det (det_call en16 rfl (fun w hb ho => Cu.Square_ok ho.blocks)) rfl ?_
      refine OpsW.det (det_call en16 rfl (fun w hb ho => Cu.Square_ok ho.blocks)) rfl ?_
      refine OpsW.det (det_call en16 rfl (fun w hb ho => Cu.Square_ok ho.blocks)) rfl ?_
      refine OpsW.det (det_call en16 rfl (fun w hb ho => Cu.Square_ok ho.blocks)) rfl ?_
      refine OpsW.store sz29 rfl rfl rfl rfl rfl (Upd.here) rfl ?_
      refine sNext ?_
      refine W.keep (F' := [(8, _), (7, _), (5, _), (4, _), (3, _)]) ⟨rfl, rfl, rfl, rfl, rfl, trivial⟩ ?_
      refine sSeq ?_
      refine W.region ?_
      refine OpsW.det (det_move rfl) rfl ?_
      refine OpsW.det (det_quoN (b := 64) rfl rfl (by decide) (by omega)) rfl ?_
      refine OpsW.det (det_indexAddr_arr u27 sz26 rfl rfl ⟨by omega, by omega⟩) rfl ?_
      refine OpsW.det (det_loadC ty26 rfl (List.Mem.tail _ (List.Mem.tail _ (List.Mem.tail _ (List.Mem.head _)))) (at26 (m := E) (i := 4 * k / 64) (by omega) (by omega))) rfl ?_
      refine OpsW.det (det_move rfl) rfl ?_
      refine OpsW.det (det_remN (b := 64) rfl rfl (by decide)) rfl ?_
      refine OpsW.det (det_shrN rfl rfl (by omega)) rfl ?_
      refine OpsW.det ((det_maskN (m := 15) (k := 4) rfl rfl (Nat.lt_of_le_of_lt (Nat.div_le_self _ _) (lim_lt _ _)) rfl (by decide)).to (congrArg (fun z : Nat => u64 z) (word_bits (E := E) (k := k)))) rfl ?_
      refine OpsW.det (det_assign rfl) rfl ?_
      refine sNext ?_
      refine W.keep (F' := [(9, _), (8, _), (7, _), (5, _), (4, _), (3, _)]) ⟨rfl, rfl, rfl, rfl, rfl, rfl, trivial⟩ ?_
      refine sSeq ?_
      refine W.region ?_
      refine OpsW.det (det_move rfl) rfl ?_
      refine OpsW.det (det_gtr rfl rfl) rfl ?_
      refine sNext ?_
      refine W.keep (F' := [(44, _), (9, _), (8, _), (7, _), (5, _), (4, _), (3, _)]) ⟨rfl, rfl, rfl, rfl, rfl, rfl, rfl, trivial⟩ ?_
      refine W.cond rfl (fun hc44 => ?_) (fun hc44 => ?_)
      · skip
        refine W.draw mixed 5 [[], [], [1], [1, 2], [0, 1, 2, 3], [0, 1, 2, 3, 4]] (cl_lt (by decide)) ?_
        refine HeadR.start (cl_lt (by decide)) ?_
        refine HeadR.det rfl (fun β hβ => (det_loadA ty29 rfl (List.Mem.head _) rfl)) ?_
        refine HeadR.det rfl (fun β hβ => (det_move rfl)) ?_
        refine HeadR.det rfl (fun β hβ => (det_indexAddr_arr u110 sz29 rfl rfl ⟨by omega, by omega⟩)) ?_
        refine HeadR.det rfl (fun β hβ => (det_loadA ty29 rfl (List.Mem.tail _ (List.Mem.head _)) (tab_cut (i := top E k % 16) (by omega) (by omega)))) ?_
        refine HeadR.det rfl (fun β hβ => (det_call en17 rfl (fun w hb ho => Cu.Mul_ok ho.blocks))) ?_
        refine HeadR.done ⟨by kernel_rfl, fun β hβ => ?_⟩
        refine OpsW.norm (F' := [(45, _), (46, _), (47, _), (48, _), (49, _), (44, _), (9, _), (8, _), (7, _), (5, _), (4, _), (3, _)]) (H' := [(_, _), (_, _), (_, _), (_, _), (_, _)]) rfl rfl ?_
        refine OpsW.store sz29 rfl rfl rfl rfl rfl (Upd.here) rfl ?_
        refine sLast ?_
        refine bNext ?_
        refine W.keep (F' := [(8, _), (7, _), (5, _), (4, _), (3, _)]) ⟨rfl, rfl, rfl, rfl, rfl, trivial⟩ ?_
        refine W.region ?_
        refine OpsW.det (det_move rfl) rfl ?_
        refine OpsW.det (det_subZ (c := 4 * ((k : Nat) : Int) - 4) rfl rfl rfl (by omega)) rfl ?_
        refine OpsW.det (det_assign rfl) rfl ?_
        refine sLast ?_
        exact rEnd k (by omega) ⟨rfl, rfl, rfl, rfl, rfl, trivial⟩ (sub_cell (pw_round1 (x := x) (E := E) (k := k))) (by omega)
      · skip
        refine sSkip0 ?_
        refine bNext ?_
        refine W.keep (F' := [(8, _), (7, _), (5, _), (4, _), (3, _)]) ⟨rfl, rfl, rfl, rfl, rfl, trivial⟩ ?_
        refine W.region ?_
        refine OpsW.det (det_move rfl) rfl ?_
        refine OpsW.det (det_subZ (c := 4 * ((k : Nat) : Int) - 4) rfl rfl rfl (by omega)) rfl ?_
        refine OpsW.det (det_assign rfl) rfl ?_
        refine sLast ?_
        have hd : top E k % 16 = 0 := by have h := hc44; simp only [decide_eq_false_iff_not] at h; omega
        exact rEnd k (by omega) ⟨rfl, rfl, rfl, rfl, rfl, trivial⟩ (sub_cell (pw_round0 (x := x) hd).symm) (by omega)
    · skip
      have hk0 : k = 0 := by have h := hc27; simp only [decide_eq_false_iff_not] at h; omega
      subst hk0
      refine sExit ?_
      refine xLoop ?_
      refine xHere ?_
      refine W.keep (F' := [(7, _), (4, _)]) ⟨rfl, rfl, trivial⟩ ?_
      refine sSeq ?_
      refine W.region ?_
      refine OpsW.det (det_loadA ty29 rfl (List.Mem.head _) rfl) rfl ?_
      refine OpsW.store sz29 rfl rfl rfl rfl rfl (Upd.there (Upd.there (Upd.here))) rfl ?_
      refine sNext ?_
      refine W.keep (F' := [(4, _)]) ⟨rfl, trivial⟩ ?_
      refine sRet ?_
      exact done1 Tryd.results60 (rv_cellA ty29 rfl (List.Mem.tail _ (List.Mem.tail _ (List.Mem.head _))) rfl) (congrArg (fun n => encF (pw x n)) top_0)

end Go.Cu
