/-
  The scalars: products: the walk. Conditions: numbers below the order.
-/
import Derived.Test.YtbchpfmfiokbgaaDoorFr1
namespace Go.Cu
open Go Go.Vm Go.RowKit Go.Proofs 
attribute [local irreducible] W OpsW Det Fresh New Writes Vm.Pure Makes Changes ExternTo BuildTo ZeroTo FieldTo IndexTo BinTo SliceTo Vm.Enters
set_option linter.unusedVariables false
set_option linter.unusedSimpArgs false
variable {T : Nat → TypeId × Nat × Nat}

theorem rreduce_ws {a0 a1 a2 a3 : Nat} (h0 : a0 < 18446744073709551616) (h1 : a1 < 18446744073709551616) (h2 : a2 < 18446744073709551616) (h3 : a3 < 18446744073709551616) (hV : val4 a0 a1 a2 a3 < 2 * rr) {w : World} (hG : Blocks (GH T) w) :
    Vm.Pure Tryd.prog 66 #[.agg #[u64 a0, u64 a1, u64 a2, u64 a3], u64 0] w (enc4 (val4 a0 a1 a2 a3 % rr)) := by
  have h := rreduce_ok (V := val4 a0 a1 a2 a3) hV hG
  have e := lim4 h0 h1 h2 h3
  unfold enc4 at e
  rw [e] at h
  exact h
theorem idx33 {m i : Nat} (h : i < 4) : IndexTo Tryd.prog 33 (.agg #[u64 (lim (m) 0), u64 (lim (m) 1), u64 (lim (m) 2), u64 (lim (m) 3)]) (.int .i64 (i : Nat)) (u64 (lim m i)) := by
  have : i = 0 ∨ i = 1 ∨ i = 2 ∨ i = 3 := by omega
  rcases this with rfl | rfl | rfl | rfl <;> exact IndexTo.of fun _ => by kernel_rfl

theorem bld33 {v0 v1 v2 v3 : Int} : BuildTo Tryd.prog 33 [(0, .int .u64 v0), (1, .int .u64 v1), (2, .int .u64 v2), (3, .int .u64 v3)] (.agg #[.int .u64 v0, .int .u64 v1, .int .u64 v2, .int .u64 v3]) := BuildTo.of fun _ => by kernel_rfl
set_option maxHeartbeats 1000000 in
theorem RMul_w_ok {X Y : Nat} (hX : X < rr) (hY : Y < rr) {w : World} (hG : Blocks (GH T) w)  : Vm.Pure Tryd.prog 30 #[.agg #[u64 (lim (X) 0), u64 (lim (X) 1), u64 (lim (X) 2), u64 (lim (X) 3)], .agg #[u64 (lim (Y) 0), u64 (lim (Y) 1), u64 (lim (Y) 2), u64 (lim (Y) 3)]] w (enc4 (X * Y * inv_rr % rr)) := by
  refine pure_of_W (n := 222) (args := [.agg #[u64 (lim (X) 0), u64 (lim (X) 1), u64 (lim (X) 2), u64 (lim (X) 3)], .agg #[u64 (lim (Y) 0), u64 (lim (Y) 1), u64 (lim (Y) 2), u64 (lim (Y) 3)]]) Tryd.func30 rfl Tryd.ntmps30 (Nat.le_of_ble_eq_true rfl) hG ?_
  refine sStart ?_
  refine sSeq ?_
  refine W.region ?_
  refine OpsW.fresh (fr_box rfl rfl) rfl fun b2 => ?_
  refine OpsW.fresh (fr_box rfl rfl) rfl fun b3 => ?_
  refine OpsW.fresh (fr_alloc z35) rfl fun b4 => ?_
  refine sNext ?_
  refine W.keep (F' := [(4, _), (3, _), (2, _)]) ⟨rfl, rfl, rfl, trivial⟩ ?_
  refine sSeq ?_
  refine W.region ?_
  refine OpsW.det (det_assign rfl) rfl ?_
  refine OpsW.det (det_assign rfl) rfl ?_
  refine OpsW.det (det_assign rfl) rfl ?_
  refine OpsW.det (det_assign rfl) rfl ?_
  refine sNext ?_
  refine sSeq ?_
  refine W.draw mixed 16 [[], [0], [0, 1], [], [3], [3, 4], [], [6], [6, 7], [], [9], [9, 10], [0, 1, 2], [0, 1, 2, 3, 4, 5, 12], [0, 1, 2, 3, 4, 5, 6, 7, 8, 12, 13], [0, 1, 2, 3, 4, 5, 6, 7, 8, 9, 10, 11, 12, 13, 14]] (cl_lt (by decide)) ?_
  refine Head.det rfl (fun β hβ => Det.norm (F' := [(8, _), (7, _), (6, _), (5, _), (4, _), (3, _), (2, _)]) (H' := [(_, _), (_, _), (_, _)]) rfl rfl (det_fieldAddr fl35_0 rfl)) ?_
  refine Head.norm (k' := 1) (es' := [.det 22 _]) rfl rfl ?_
  refine Head.det rfl (fun β hβ => Det.norm (F' := [(22, _), (8, _), (7, _), (6, _), (5, _), (4, _), (3, _), (2, _)]) (H' := [(_, _), (_, _), (_, _)]) rfl rfl (det_indexAddr_arr u33 sz25 rfl rfl ⟨by decide, by decide⟩)) ?_
  refine Head.norm (k' := 2) (es' := [.det 22 _, .det 23 _]) rfl rfl ?_
  refine Head.det rfl (fun β hβ => Det.norm (F' := [(22, _), (23, _), (8, _), (7, _), (6, _), (5, _), (4, _), (3, _), (2, _)]) (H' := [(_, _), (_, _), (_, _)]) rfl rfl (det_loadC ty25 rfl (List.Mem.tail _ (List.Mem.tail _ (List.Mem.head _))) rfl)) ?_
  refine Head.norm (k' := 3) (es' := [.det 22 _, .det 23 _, .det 24 _]) rfl rfl ?_
  refine Head.det rfl (fun β hβ => Det.norm (F' := [(8, _), (7, _), (6, _), (5, _), (4, _), (3, _), (2, _)]) (H' := [(_, _), (_, _), (_, _)]) rfl rfl (det_fieldAddr fl35_0 rfl)) ?_
  refine Head.norm (k' := 4) (es' := [.det 22 _, .det 23 _, .det 24 _, .det 25 _]) rfl rfl ?_
  refine Head.det rfl (fun β hβ => Det.norm (F' := [(25, _), (8, _), (7, _), (6, _), (5, _), (4, _), (3, _), (2, _)]) (H' := [(_, _), (_, _), (_, _)]) rfl rfl (det_indexAddr_arr u33 sz25 rfl rfl ⟨by decide, by decide⟩)) ?_
  refine Head.norm (k' := 5) (es' := [.det 22 _, .det 23 _, .det 24 _, .det 25 _, .det 26 _]) rfl rfl ?_
  refine Head.det rfl (fun β hβ => Det.norm (F' := [(25, _), (26, _), (8, _), (7, _), (6, _), (5, _), (4, _), (3, _), (2, _)]) (H' := [(_, _), (_, _), (_, _)]) rfl rfl (det_loadC ty25 rfl (List.Mem.tail _ (List.Mem.tail _ (List.Mem.head _))) rfl)) ?_
  refine Head.norm (k' := 6) (es' := [.det 22 _, .det 23 _, .det 24 _, .det 25 _, .det 26 _, .det 27 _]) rfl rfl ?_
  refine Head.det rfl (fun β hβ => Det.norm (F' := [(8, _), (7, _), (6, _), (5, _), (4, _), (3, _), (2, _)]) (H' := [(_, _), (_, _), (_, _)]) rfl rfl (det_fieldAddr fl35_0 rfl)) ?_
  refine Head.norm (k' := 7) (es' := [.det 22 _, .det 23 _, .det 24 _, .det 25 _, .det 26 _, .det 27 _, .det 28 _]) rfl rfl ?_
  refine Head.det rfl (fun β hβ => Det.norm (F' := [(28, _), (8, _), (7, _), (6, _), (5, _), (4, _), (3, _), (2, _)]) (H' := [(_, _), (_, _), (_, _)]) rfl rfl (det_indexAddr_arr u33 sz25 rfl rfl ⟨by decide, by decide⟩)) ?_
  refine Head.norm (k' := 8) (es' := [.det 22 _, .det 23 _, .det 24 _, .det 25 _, .det 26 _, .det 27 _, .det 28 _, .det 29 _]) rfl rfl ?_
  refine Head.det rfl (fun β hβ => Det.norm (F' := [(28, _), (29, _), (8, _), (7, _), (6, _), (5, _), (4, _), (3, _), (2, _)]) (H' := [(_, _), (_, _), (_, _)]) rfl rfl (det_loadC ty25 rfl (List.Mem.tail _ (List.Mem.tail _ (List.Mem.head _))) rfl)) ?_
  refine Head.norm (k' := 9) (es' := [.det 22 _, .det 23 _, .det 24 _, .det 25 _, .det 26 _, .det 27 _, .det 28 _, .det 29 _, .det 30 _]) rfl rfl ?_
  refine Head.det rfl (fun β hβ => Det.norm (F' := [(8, _), (7, _), (6, _), (5, _), (4, _), (3, _), (2, _)]) (H' := [(_, _), (_, _), (_, _)]) rfl rfl (det_fieldAddr fl35_0 rfl)) ?_
  refine Head.norm (k' := 10) (es' := [.det 22 _, .det 23 _, .det 24 _, .det 25 _, .det 26 _, .det 27 _, .det 28 _, .det 29 _, .det 30 _, .det 31 _]) rfl rfl ?_
  refine Head.det rfl (fun β hβ => Det.norm (F' := [(31, _), (8, _), (7, _), (6, _), (5, _), (4, _), (3, _), (2, _)]) (H' := [(_, _), (_, _), (_, _)]) rfl rfl (det_indexAddr_arr u33 sz25 rfl rfl ⟨by decide, by decide⟩)) ?_
  refine Head.norm (k' := 11) (es' := [.det 22 _, .det 23 _, .det 24 _, .det 25 _, .det 26 _, .det 27 _, .det 28 _, .det 29 _, .det 30 _, .det 31 _, .det 32 _]) rfl rfl ?_
  refine Head.det rfl (fun β hβ => Det.norm (F' := [(31, _), (32, _), (8, _), (7, _), (6, _), (5, _), (4, _), (3, _), (2, _)]) (H' := [(_, _), (_, _), (_, _)]) rfl rfl (det_loadC ty25 rfl (List.Mem.tail _ (List.Mem.tail _ (List.Mem.head _))) rfl)) ?_
  refine Head.norm (k' := 12) (es' := [.det 22 _, .det 23 _, .det 24 _, .det 25 _, .det 26 _, .det 27 _, .det 28 _, .det 29 _, .det 30 _, .det 31 _, .det 32 _, .det 33 _]) rfl rfl ?_
  refine Head.det rfl (fun β hβ => Det.norm (F' := [(22, _), (23, _), (24, _), (8, _), (7, _), (6, _), (5, _), (4, _), (3, _), (2, _)]) (H' := [(_, _), (_, _), (_, _)]) rfl rfl (det_assign rfl)) ?_
  refine Head.norm (k' := 13) (es' := [.det 22 _, .det 23 _, .det 24 _, .det 25 _, .det 26 _, .det 27 _, .det 28 _, .det 29 _, .det 30 _, .det 31 _, .det 32 _, .det 33 _, .det 9 _]) rfl rfl ?_
  refine Head.det rfl (fun β hβ => Det.norm (F' := [(22, _), (23, _), (24, _), (25, _), (26, _), (27, _), (9, _), (8, _), (7, _), (6, _), (5, _), (4, _), (3, _), (2, _)]) (H' := [(_, _), (_, _), (_, _)]) rfl rfl (det_assign rfl)) ?_
  refine Head.norm (k' := 14) (es' := [.det 22 _, .det 23 _, .det 24 _, .det 25 _, .det 26 _, .det 27 _, .det 28 _, .det 29 _, .det 30 _, .det 31 _, .det 32 _, .det 33 _, .det 9 _, .det 10 _]) rfl rfl ?_
  refine Head.det rfl (fun β hβ => Det.norm (F' := [(22, _), (23, _), (24, _), (25, _), (26, _), (27, _), (28, _), (29, _), (30, _), (9, _), (10, _), (8, _), (7, _), (6, _), (5, _), (4, _), (3, _), (2, _)]) (H' := [(_, _), (_, _), (_, _)]) rfl rfl (det_assign rfl)) ?_
  refine Head.norm (k' := 15) (es' := [.det 22 _, .det 23 _, .det 24 _, .det 25 _, .det 26 _, .det 27 _, .det 28 _, .det 29 _, .det 30 _, .det 31 _, .det 32 _, .det 33 _, .det 9 _, .det 10 _, .det 11 _]) rfl rfl ?_
  refine Head.det rfl (fun β hβ => Det.norm (F' := [(22, _), (23, _), (24, _), (25, _), (26, _), (27, _), (28, _), (29, _), (30, _), (31, _), (32, _), (33, _), (9, _), (10, _), (11, _), (8, _), (7, _), (6, _), (5, _), (4, _), (3, _), (2, _)]) (H' := [(_, _), (_, _), (_, _)]) rfl rfl (det_assign rfl)) ?_
  refine Head.norm (k' := 16) (es' := [.det 22 _, .det 23 _, .det 24 _, .det 25 _, .det 26 _, .det 27 _, .det 28 _, .det 29 _, .det 30 _, .det 31 _, .det 32 _, .det 33 _, .det 9 _, .det 10 _, .det 11 _, .det 12 _]) rfl rfl ?_
  refine Head.done ⟨by kernel_rfl, fun β hβ => ?_⟩
  refine OpsW.norm (F' := [(22, _), (23, _), (24, _), (25, _), (26, _), (27, _), (28, _), (29, _), (30, _), (31, _), (32, _), (33, _), (9, _), (10, _), (11, _), (12, _), (8, _), (7, _), (6, _), (5, _), (4, _), (3, _), (2, _)]) (H' := [(_, _), (_, _), (_, _)]) rfl rfl ?_
  refine sNext ?_
  refine W.keep (F' := [(9, _), (10, _), (11, _), (12, _), (8, _), (7, _), (6, _), (5, _), (4, _), (3, _)]) ⟨rfl, rfl, rfl, rfl, rfl, rfl, rfl, rfl, rfl, rfl, trivial⟩ ?_
  refine sSeq ?_
  refine sSeq ?_
  refine W.region ?_
  refine OpsW.det (det_fieldAddr fl35_0 rfl) rfl ?_
  refine OpsW.det (det_loadA ty33 rfl (List.Mem.tail _ (List.Mem.head _)) rfl) rfl ?_
  refine OpsW.det (det_move rfl) rfl ?_
  refine sNext ?_
  refine W.keep (F' := [(36, _), (35, _), (9, _), (10, _), (11, _), (12, _), (8, _), (7, _), (6, _), (5, _), (4, _)]) ⟨rfl, rfl, rfl, rfl, rfl, rfl, rfl, rfl, rfl, rfl, rfl, trivial⟩ ?_
  refine sBlock ?_
  refine sLoop (σ := Nat × Nat × Nat × Nat × Nat) (fun k => [(36, .int .i64 (k.1 : Nat)), (35, .agg #[u64 (lim (Y) 0), u64 (lim (Y) 1), u64 (lim (Y) 2), u64 (lim (Y) 3)]), (5, u64 k.2.1), (6, u64 k.2.2.1), (7, u64 k.2.2.2.1), (8, u64 k.2.2.2.2), (9, u64 (lim X 0)), (10, u64 (lim X 1)), (11, u64 (lim X 2)), (12, u64 (lim X 3)), (4, .pointer (some ⟨b4, 0, none⟩))]) (fun k => [(b4, blk [.int .u64 0, .int .u64 0, .int .u64 0, .int .u64 0] 35)]) (fun k => k.1 ≤ 4 ∧ k.2.1 < 18446744073709551616 ∧ k.2.2.1 < 18446744073709551616 ∧ k.2.2.2.1 < 18446744073709551616 ∧ k.2.2.2.2 < 18446744073709551616 ∧ ∃ M, M < 18446744073709551616 ^ k.1 ∧ val4 (k.2.1) (k.2.2.1) (k.2.2.2.1) (k.2.2.2.2) * 18446744073709551616 ^ k.1 = X * (Y % 18446744073709551616 ^ k.1) + M * rr) (fun k => 4 - k.1) (0, 0, 0, 0, 0) ⟨by decide, by decide, by decide, by decide, by decide, 0, by decide, by simp [val4, Nat.mod_one]⟩ ⟨rfl, rfl, rfl, rfl, rfl, rfl, rfl, rfl, rfl, rfl, rfl, trivial⟩ (List.Sublist.cons_cons _ (List.nil_sublist _)) ?_
  rintro ⟨i, t0, t1, t2, t3⟩ ⟨hi, ht0, ht1, ht2, ht3, M, hM, hI⟩
  refine W.norm (F' := [(36, .int .i64 (i : Nat)), (35, .agg #[u64 (lim (Y) 0), u64 (lim (Y) 1), u64 (lim (Y) 2), u64 (lim (Y) 3)]), (5, u64 t0), (6, u64 t1), (7, u64 t2), (8, u64 t3), (9, u64 (lim X 0)), (10, u64 (lim X 1)), (11, u64 (lim X 2)), (12, u64 (lim X 3)), (4, .pointer (some ⟨b4, 0, none⟩))]) (H' := [(b4, blk [.int .u64 0, .int .u64 0, .int .u64 0, .int .u64 0] 35)]) rfl rfl ?_
  have hT : val4 t0 t1 t2 t3 < 2 * rr := inv_top hI hM hX
  have hXv : val4 (lim X 0) (lim X 1) (lim X 2) (lim X 3) < rr := by rw [val_lim4 (m := X) (Nat.lt_trans hX (by decide))]; exact hX
  have hy := lim_lt Y i
  refine sSeq ?_
  refine W.region ?_
  refine OpsW.det (det_lss rfl rfl) rfl ?_
  refine sNext ?_
  refine sSeq ?_
  refine W.cond rfl (fun hc37 => ?_) (fun hc37 => ?_)
  · skip
    have hlt : i < 4 := by simp only [decide_eq_true_eq] at hc37; omega
    refine sSkip ?_
    refine sSeq ?_
    refine sBlock ?_
    refine sSeq ?_
    refine W.region ?_
    refine OpsW.det (det_index rfl rfl (idx33 hlt)) rfl ?_
    refine OpsW.det (det_assign rfl) rfl ?_
    refine sNext ?_
    refine W.keep (F' := [(14, _), (36, _), (35, _), (5, _), (6, _), (7, _), (8, _), (9, _), (10, _), (11, _), (12, _), (4, _)]) ⟨rfl, rfl, rfl, rfl, rfl, rfl, rfl, rfl, rfl, rfl, rfl, rfl, trivial⟩ ?_
    refine sSeq ?_
    refine W.region ?_
    refine OpsW.det (det_move rfl) rfl ?_
    refine OpsW.det (det_move rfl) rfl ?_
    refine OpsW.mul64 rfl rfl (by first | assumption | exact lim_lt _ _ | decide) (by first | assumption | exact lim_lt _ _ | decide) rfl fun hi42 lo42 he42 hs42 hk42 => ?_
    refine OpsW.det (det_move rfl) rfl ?_
    refine OpsW.det (det_extract rfl rfl) rfl ?_
    refine OpsW.det (det_extract rfl rfl) rfl ?_
    refine OpsW.det (det_assign rfl) rfl ?_
    refine OpsW.det (det_assign rfl) rfl ?_
    refine sNext ?_
    refine W.keep (F' := [(16, _), (15, _), (14, _), (36, _), (35, _), (5, _), (6, _), (7, _), (8, _), (9, _), (10, _), (11, _), (12, _), (4, _)]) ⟨rfl, rfl, rfl, rfl, rfl, rfl, rfl, rfl, rfl, rfl, rfl, rfl, rfl, rfl, trivial⟩ ?_
    refine sSeq ?_
    refine W.region ?_
    refine OpsW.det (det_move rfl) rfl ?_
    refine OpsW.det (det_move rfl) rfl ?_
    refine OpsW.add64 (e := 0) rfl rfl rfl (by first | assumption | exact lim_lt _ _ | decide) (by first | assumption | exact lim_lt _ _ | decide) (by first | assumption | decide) rfl fun s48 c48 he48 hs48 hk48 => ?_
    refine OpsW.det (det_move rfl) rfl ?_
    refine OpsW.det (det_extract rfl rfl) rfl ?_
    refine OpsW.det (det_extract rfl rfl) rfl ?_
    refine OpsW.det (det_assign rfl) rfl ?_
    refine OpsW.det (det_assign rfl) rfl ?_
    refine sNext ?_
    refine W.keep (F' := [(17, _), (16, _), (15, _), (14, _), (36, _), (35, _), (6, _), (7, _), (8, _), (9, _), (10, _), (11, _), (12, _), (4, _)]) ⟨rfl, rfl, rfl, rfl, rfl, rfl, rfl, rfl, rfl, rfl, rfl, rfl, rfl, rfl, trivial⟩ ?_
    refine sSeq ?_
    refine W.region ?_
    refine OpsW.det (det_move rfl) rfl ?_
    refine OpsW.det (det_move rfl) rfl ?_
    refine OpsW.addw rfl rfl (hi_lt hk42 hk48) rfl fun s53 he53 => ?_
    have E0 := col0 he42 he48 he53
    have hG0 := w_lt hk42 hk48 he53
    refine OpsW.det (det_assign rfl) rfl ?_
    refine sNext ?_
    refine W.keep (F' := [(18, _), (16, _), (14, _), (36, _), (35, _), (6, _), (7, _), (8, _), (9, _), (10, _), (11, _), (12, _), (4, _)]) ⟨rfl, rfl, rfl, rfl, rfl, rfl, rfl, rfl, rfl, rfl, rfl, rfl, rfl, trivial⟩ ?_
    refine sSeq ?_
    refine W.region ?_
    refine OpsW.det (det_move rfl) rfl ?_
    refine OpsW.mulw (b := 18446744069414584319) rfl rfl rfl fun s55 he55 hs55 => ?_
    refine OpsW.det (det_assign rfl) rfl ?_
    refine sNext ?_
    refine W.keep (F' := [(19, _), (18, _), (16, _), (14, _), (36, _), (35, _), (6, _), (7, _), (8, _), (9, _), (10, _), (11, _), (12, _), (4, _)]) ⟨rfl, rfl, rfl, rfl, rfl, rfl, rfl, rfl, rfl, rfl, rfl, rfl, rfl, rfl, trivial⟩ ?_
    refine sSeq ?_
    refine W.region ?_
    refine OpsW.det (det_move rfl) rfl ?_
    refine OpsW.mul64 (b := 18446744069414584321) rfl rfl (by first | assumption | exact lim_lt _ _ | decide) (by first | assumption | exact lim_lt _ _ | decide) rfl fun hi58 lo58 he58 hs58 hk58 => ?_
    refine OpsW.det (det_move rfl) rfl ?_
    refine OpsW.det (det_extract rfl rfl) rfl ?_
    refine OpsW.det (det_extract rfl rfl) rfl ?_
    refine OpsW.det (det_assign rfl) rfl ?_
    refine OpsW.det (det_assign rfl) rfl ?_
    refine sNext ?_
    refine W.keep (F' := [(20, _), (15, _), (19, _), (18, _), (16, _), (14, _), (36, _), (35, _), (6, _), (7, _), (8, _), (9, _), (10, _), (11, _), (12, _), (4, _)]) ⟨rfl, rfl, rfl, rfl, rfl, rfl, rfl, rfl, rfl, rfl, rfl, rfl, rfl, rfl, rfl, rfl, trivial⟩ ?_
    refine sSeq ?_
    refine W.region ?_
    refine OpsW.det (det_move rfl) rfl ?_
    refine OpsW.det (det_move rfl) rfl ?_
    refine OpsW.add64 (e := 0) rfl rfl rfl (by first | assumption | exact lim_lt _ _ | decide) (by first | assumption | exact lim_lt _ _ | decide) (by first | assumption | decide) rfl fun s64 c64 he64 hs64 hk64 => ?_
    refine OpsW.det (det_move rfl) rfl ?_
    refine OpsW.det (det_extract rfl rfl) rfl ?_
    refine OpsW.det (det_extract rfl rfl) rfl ?_
    refine OpsW.det (det_assign rfl) rfl ?_
    refine sNext ?_
    refine W.keep (F' := [(17, _), (15, _), (19, _), (18, _), (14, _), (36, _), (35, _), (6, _), (7, _), (8, _), (9, _), (10, _), (11, _), (12, _), (4, _)]) ⟨rfl, rfl, rfl, rfl, rfl, rfl, rfl, rfl, rfl, rfl, rfl, rfl, rfl, rfl, rfl, trivial⟩ ?_
    refine sSeq ?_
    refine W.region ?_
    refine OpsW.det (det_move rfl) rfl ?_
    refine OpsW.det (det_move rfl) rfl ?_
    refine OpsW.addw rfl rfl (hi_lt hk58 hk64) rfl fun s69 he69 => ?_
    have hz := zero_rr he55 he58 he64 hs64
    have F0 := colz he58 he64 he69 hz
    have hF0 := w_lt hk58 hk64 he69
    clear he42 he48 he53 he55 he58 he64 he69 hz
    refine OpsW.det (det_assign rfl) rfl ?_
    refine sNext ?_
    refine W.keep (F' := [(21, _), (19, _), (18, _), (14, _), (36, _), (35, _), (6, _), (7, _), (8, _), (9, _), (10, _), (11, _), (12, _), (4, _)]) ⟨rfl, rfl, rfl, rfl, rfl, rfl, rfl, rfl, rfl, rfl, rfl, rfl, rfl, rfl, trivial⟩ ?_
    refine sSeq ?_
    refine W.region ?_
    refine OpsW.det (det_move rfl) rfl ?_
    refine OpsW.det (det_move rfl) rfl ?_
    refine OpsW.mul64 rfl rfl (by first | assumption | exact lim_lt _ _ | decide) (by first | assumption | exact lim_lt _ _ | decide) rfl fun hi73 lo73 he73 hs73 hk73 => ?_
    refine OpsW.det (det_move rfl) rfl ?_
    refine OpsW.det (det_extract rfl rfl) rfl ?_
    refine OpsW.det (det_extract rfl rfl) rfl ?_
    refine OpsW.det (det_assign rfl) rfl ?_
    refine OpsW.det (det_assign rfl) rfl ?_
    refine sNext ?_
    refine W.keep (F' := [(16, _), (15, _), (21, _), (19, _), (18, _), (14, _), (36, _), (35, _), (6, _), (7, _), (8, _), (9, _), (10, _), (11, _), (12, _), (4, _)]) ⟨rfl, rfl, rfl, rfl, rfl, rfl, rfl, rfl, rfl, rfl, rfl, rfl, rfl, rfl, rfl, rfl, trivial⟩ ?_
    refine sSeq ?_
    refine W.region ?_
    refine OpsW.det (det_move rfl) rfl ?_
    refine OpsW.det (det_move rfl) rfl ?_
    refine OpsW.add64 (e := 0) rfl rfl rfl (by first | assumption | exact lim_lt _ _ | decide) (by first | assumption | exact lim_lt _ _ | decide) (by first | assumption | decide) rfl fun s79 c79 he79 hs79 hk79 => ?_
    refine OpsW.det (det_move rfl) rfl ?_
    refine OpsW.det (det_extract rfl rfl) rfl ?_
    refine OpsW.det (det_extract rfl rfl) rfl ?_
    refine OpsW.det (det_assign rfl) rfl ?_
    refine OpsW.det (det_assign rfl) rfl ?_
    refine sNext ?_
    refine W.keep (F' := [(17, _), (16, _), (15, _), (21, _), (19, _), (14, _), (36, _), (35, _), (6, _), (7, _), (8, _), (9, _), (10, _), (11, _), (12, _), (4, _)]) ⟨rfl, rfl, rfl, rfl, rfl, rfl, rfl, rfl, rfl, rfl, rfl, rfl, rfl, rfl, rfl, rfl, trivial⟩ ?_
    refine sSeq ?_
    refine W.region ?_
    refine OpsW.det (det_move rfl) rfl ?_
    refine OpsW.det (det_move rfl) rfl ?_
    refine OpsW.addw rfl rfl (hi_lt hk73 hk79) rfl fun s84 he84 => ?_
    refine OpsW.det (det_assign rfl) rfl ?_
    refine sNext ?_
    refine W.keep (F' := [(15, _), (16, _), (21, _), (19, _), (14, _), (36, _), (35, _), (6, _), (7, _), (8, _), (9, _), (10, _), (11, _), (12, _), (4, _)]) ⟨rfl, rfl, rfl, rfl, rfl, rfl, rfl, rfl, rfl, rfl, rfl, rfl, rfl, rfl, rfl, trivial⟩ ?_
    refine sSeq ?_
    refine W.region ?_
    refine OpsW.det (det_move rfl) rfl ?_
    refine OpsW.det (det_move rfl) rfl ?_
    refine OpsW.add64 (e := 0) rfl rfl rfl (by first | assumption | exact lim_lt _ _ | decide) (by first | assumption | exact lim_lt _ _ | decide) (by first | assumption | decide) rfl fun s88 c88 he88 hs88 hk88 => ?_
    refine OpsW.det (det_move rfl) rfl ?_
    refine OpsW.det (det_extract rfl rfl) rfl ?_
    refine OpsW.det (det_extract rfl rfl) rfl ?_
    refine OpsW.det (det_assign rfl) rfl ?_
    refine OpsW.det (det_assign rfl) rfl ?_
    refine sNext ?_
    refine W.keep (F' := [(17, _), (16, _), (15, _), (21, _), (19, _), (14, _), (36, _), (35, _), (7, _), (8, _), (9, _), (10, _), (11, _), (12, _), (4, _)]) ⟨rfl, rfl, rfl, rfl, rfl, rfl, rfl, rfl, rfl, rfl, rfl, rfl, rfl, rfl, rfl, trivial⟩ ?_
    refine sSeq ?_
    refine W.region ?_
    refine OpsW.det (det_move rfl) rfl ?_
    refine OpsW.det (det_move rfl) rfl ?_
    refine OpsW.addw rfl rfl (col_lt (lim_lt _ _) hy hG0 ht1 he73 he79 he84 he88) rfl fun s93 he93 => ?_
    have E1 := col he73 he79 he84 he88 he93
    have hG1 : s93 < 18446744073709551616 := by rw [he93]; exact col_lt (lim_lt _ _) hy hG0 ht1 he73 he79 he84 he88
    clear he73 he79 he84 he88 he93
    refine OpsW.det (det_assign rfl) rfl ?_
    refine sNext ?_
    refine W.keep (F' := [(18, _), (16, _), (21, _), (19, _), (14, _), (36, _), (35, _), (7, _), (8, _), (9, _), (10, _), (11, _), (12, _), (4, _)]) ⟨rfl, rfl, rfl, rfl, rfl, rfl, rfl, rfl, rfl, rfl, rfl, rfl, rfl, rfl, trivial⟩ ?_
    refine sSeq ?_
    refine W.region ?_
    refine OpsW.det (det_move rfl) rfl ?_
    refine OpsW.mul64 (b := 6034159408538082302) rfl rfl (by first | assumption | exact lim_lt _ _ | decide) (by first | assumption | exact lim_lt _ _ | decide) rfl fun hi96 lo96 he96 hs96 hk96 => ?_
    refine OpsW.det (det_move rfl) rfl ?_
    refine OpsW.det (det_extract rfl rfl) rfl ?_
    refine OpsW.det (det_extract rfl rfl) rfl ?_
    refine OpsW.det (det_assign rfl) rfl ?_
    refine OpsW.det (det_assign rfl) rfl ?_
    refine sNext ?_
    refine W.keep (F' := [(20, _), (15, _), (18, _), (16, _), (21, _), (19, _), (14, _), (36, _), (35, _), (7, _), (8, _), (9, _), (10, _), (11, _), (12, _), (4, _)]) ⟨rfl, rfl, rfl, rfl, rfl, rfl, rfl, rfl, rfl, rfl, rfl, rfl, rfl, rfl, rfl, rfl, trivial⟩ ?_
    refine sSeq ?_
    refine W.region ?_
    refine OpsW.det (det_move rfl) rfl ?_
    refine OpsW.det (det_move rfl) rfl ?_
    refine OpsW.add64 (e := 0) rfl rfl rfl (by first | assumption | exact lim_lt _ _ | decide) (by first | assumption | exact lim_lt _ _ | decide) (by first | assumption | decide) rfl fun s102 c102 he102 hs102 hk102 => ?_
    refine OpsW.det (det_move rfl) rfl ?_
    refine OpsW.det (det_extract rfl rfl) rfl ?_
    refine OpsW.det (det_extract rfl rfl) rfl ?_
    refine OpsW.det (det_assign rfl) rfl ?_
    refine OpsW.det (det_assign rfl) rfl ?_
    refine sNext ?_
    refine W.keep (F' := [(17, _), (20, _), (15, _), (18, _), (16, _), (19, _), (14, _), (36, _), (35, _), (7, _), (8, _), (9, _), (10, _), (11, _), (12, _), (4, _)]) ⟨rfl, rfl, rfl, rfl, rfl, rfl, rfl, rfl, rfl, rfl, rfl, rfl, rfl, rfl, rfl, rfl, trivial⟩ ?_
    refine sSeq ?_
    refine W.region ?_
    refine OpsW.det (det_move rfl) rfl ?_
    refine OpsW.det (det_move rfl) rfl ?_
    refine OpsW.addw rfl rfl (hi_lt hk96 hk102) rfl fun s107 he107 => ?_
    refine OpsW.det (det_assign rfl) rfl ?_
    refine sNext ?_
    refine W.keep (F' := [(15, _), (20, _), (18, _), (16, _), (19, _), (14, _), (36, _), (35, _), (7, _), (8, _), (9, _), (10, _), (11, _), (12, _), (4, _)]) ⟨rfl, rfl, rfl, rfl, rfl, rfl, rfl, rfl, rfl, rfl, rfl, rfl, rfl, rfl, rfl, trivial⟩ ?_
    refine sSeq ?_
    refine W.region ?_
    refine OpsW.det (det_move rfl) rfl ?_
    refine OpsW.det (det_move rfl) rfl ?_
    refine OpsW.add64 (e := 0) rfl rfl rfl (by first | assumption | exact lim_lt _ _ | decide) (by first | assumption | exact lim_lt _ _ | decide) (by first | assumption | decide) rfl fun s111 c111 he111 hs111 hk111 => ?_
    refine OpsW.det (det_move rfl) rfl ?_
    refine OpsW.det (det_extract rfl rfl) rfl ?_
    refine OpsW.det (det_extract rfl rfl) rfl ?_
    refine OpsW.det (det_assign rfl) rfl ?_
    refine OpsW.det (det_assign rfl) rfl ?_
    refine sNext ?_
    refine W.keep (F' := [(17, _), (5, _), (15, _), (18, _), (19, _), (14, _), (36, _), (35, _), (7, _), (8, _), (9, _), (10, _), (11, _), (12, _), (4, _)]) ⟨rfl, rfl, rfl, rfl, rfl, rfl, rfl, rfl, rfl, rfl, rfl, rfl, rfl, rfl, rfl, trivial⟩ ?_
    refine sSeq ?_
    refine W.region ?_
    refine OpsW.det (det_move rfl) rfl ?_
    refine OpsW.det (det_move rfl) rfl ?_
    refine OpsW.addw rfl rfl (col_lt hs55 (by decide) hF0 hs88 he96 he102 he107 he111) rfl fun s116 he116 => ?_
    have F1 := col he96 he102 he107 he111 he116
    have hF1 : s116 < 18446744073709551616 := by rw [he116]; exact col_lt hs55 (by decide) hF0 hs88 he96 he102 he107 he111
    clear he96 he102 he107 he111 he116
    refine OpsW.det (det_assign rfl) rfl ?_
    refine sNext ?_
    refine W.keep (F' := [(21, _), (5, _), (18, _), (19, _), (14, _), (36, _), (35, _), (7, _), (8, _), (9, _), (10, _), (11, _), (12, _), (4, _)]) ⟨rfl, rfl, rfl, rfl, rfl, rfl, rfl, rfl, rfl, rfl, rfl, rfl, rfl, rfl, trivial⟩ ?_
    refine sSeq ?_
    refine W.region ?_
    refine OpsW.det (det_move rfl) rfl ?_
    refine OpsW.det (det_move rfl) rfl ?_
    refine OpsW.mul64 rfl rfl (by first | assumption | exact lim_lt _ _ | decide) (by first | assumption | exact lim_lt _ _ | decide) rfl fun hi120 lo120 he120 hs120 hk120 => ?_
    refine OpsW.det (det_move rfl) rfl ?_
    refine OpsW.det (det_extract rfl rfl) rfl ?_
    refine OpsW.det (det_extract rfl rfl) rfl ?_
    refine OpsW.det (det_assign rfl) rfl ?_
    refine OpsW.det (det_assign rfl) rfl ?_
    refine sNext ?_
    refine W.keep (F' := [(16, _), (15, _), (21, _), (5, _), (18, _), (19, _), (14, _), (36, _), (35, _), (7, _), (8, _), (9, _), (10, _), (11, _), (12, _), (4, _)]) ⟨rfl, rfl, rfl, rfl, rfl, rfl, rfl, rfl, rfl, rfl, rfl, rfl, rfl, rfl, rfl, rfl, trivial⟩ ?_
    refine sSeq ?_
    refine W.region ?_
    refine OpsW.det (det_move rfl) rfl ?_
    refine OpsW.det (det_move rfl) rfl ?_
    refine OpsW.add64 (e := 0) rfl rfl rfl (by first | assumption | exact lim_lt _ _ | decide) (by first | assumption | exact lim_lt _ _ | decide) (by first | assumption | decide) rfl fun s126 c126 he126 hs126 hk126 => ?_
    refine OpsW.det (det_move rfl) rfl ?_
    refine OpsW.det (det_extract rfl rfl) rfl ?_
    refine OpsW.det (det_extract rfl rfl) rfl ?_
    refine OpsW.det (det_assign rfl) rfl ?_
    refine OpsW.det (det_assign rfl) rfl ?_
    refine sNext ?_
    refine W.keep (F' := [(17, _), (16, _), (15, _), (21, _), (5, _), (19, _), (14, _), (36, _), (35, _), (7, _), (8, _), (9, _), (10, _), (11, _), (12, _), (4, _)]) ⟨rfl, rfl, rfl, rfl, rfl, rfl, rfl, rfl, rfl, rfl, rfl, rfl, rfl, rfl, rfl, rfl, trivial⟩ ?_
    refine sSeq ?_
    refine W.region ?_
    refine OpsW.det (det_move rfl) rfl ?_
    refine OpsW.det (det_move rfl) rfl ?_
    refine OpsW.addw rfl rfl (hi_lt hk120 hk126) rfl fun s131 he131 => ?_
    refine OpsW.det (det_assign rfl) rfl ?_
    refine sNext ?_
    refine W.keep (F' := [(15, _), (16, _), (21, _), (5, _), (19, _), (14, _), (36, _), (35, _), (7, _), (8, _), (9, _), (10, _), (11, _), (12, _), (4, _)]) ⟨rfl, rfl, rfl, rfl, rfl, rfl, rfl, rfl, rfl, rfl, rfl, rfl, rfl, rfl, rfl, trivial⟩ ?_
    refine sSeq ?_
    refine W.region ?_
    refine OpsW.det (det_move rfl) rfl ?_
    refine OpsW.det (det_move rfl) rfl ?_
    refine OpsW.add64 (e := 0) rfl rfl rfl (by first | assumption | exact lim_lt _ _ | decide) (by first | assumption | exact lim_lt _ _ | decide) (by first | assumption | decide) rfl fun s135 c135 he135 hs135 hk135 => ?_
    refine OpsW.det (det_move rfl) rfl ?_
    refine OpsW.det (det_extract rfl rfl) rfl ?_
    refine OpsW.det (det_extract rfl rfl) rfl ?_
    refine OpsW.det (det_assign rfl) rfl ?_
    refine OpsW.det (det_assign rfl) rfl ?_
    refine sNext ?_
    refine W.keep (F' := [(17, _), (16, _), (15, _), (21, _), (5, _), (19, _), (14, _), (36, _), (35, _), (8, _), (9, _), (10, _), (11, _), (12, _), (4, _)]) ⟨rfl, rfl, rfl, rfl, rfl, rfl, rfl, rfl, rfl, rfl, rfl, rfl, rfl, rfl, rfl, trivial⟩ ?_
    refine sSeq ?_
    refine W.region ?_
    refine OpsW.det (det_move rfl) rfl ?_
    refine OpsW.det (det_move rfl) rfl ?_
    refine OpsW.addw rfl rfl (col_lt (lim_lt _ _) hy hG1 ht2 he120 he126 he131 he135) rfl fun s140 he140 => ?_
    have E2 := col he120 he126 he131 he135 he140
    have hG2 : s140 < 18446744073709551616 := by rw [he140]; exact col_lt (lim_lt _ _) hy hG1 ht2 he120 he126 he131 he135
    clear he120 he126 he131 he135 he140
    refine OpsW.det (det_assign rfl) rfl ?_
    refine sNext ?_
    refine W.keep (F' := [(18, _), (16, _), (21, _), (5, _), (19, _), (14, _), (36, _), (35, _), (8, _), (9, _), (10, _), (11, _), (12, _), (4, _)]) ⟨rfl, rfl, rfl, rfl, rfl, rfl, rfl, rfl, rfl, rfl, rfl, rfl, rfl, rfl, trivial⟩ ?_
    refine sSeq ?_
    refine W.region ?_
    refine OpsW.det (det_move rfl) rfl ?_
    refine OpsW.mul64 (b := 3691218898639771653) rfl rfl (by first | assumption | exact lim_lt _ _ | decide) (by first | assumption | exact lim_lt _ _ | decide) rfl fun hi143 lo143 he143 hs143 hk143 => ?_
    refine OpsW.det (det_move rfl) rfl ?_
    refine OpsW.det (det_extract rfl rfl) rfl ?_
    refine OpsW.det (det_extract rfl rfl) rfl ?_
    refine OpsW.det (det_assign rfl) rfl ?_
    refine OpsW.det (det_assign rfl) rfl ?_
    refine sNext ?_
    refine W.keep (F' := [(20, _), (15, _), (18, _), (16, _), (21, _), (5, _), (19, _), (14, _), (36, _), (35, _), (8, _), (9, _), (10, _), (11, _), (12, _), (4, _)]) ⟨rfl, rfl, rfl, rfl, rfl, rfl, rfl, rfl, rfl, rfl, rfl, rfl, rfl, rfl, rfl, rfl, trivial⟩ ?_
    refine sSeq ?_
    refine W.region ?_
    refine OpsW.det (det_move rfl) rfl ?_
    refine OpsW.det (det_move rfl) rfl ?_
    refine OpsW.add64 (e := 0) rfl rfl rfl (by first | assumption | exact lim_lt _ _ | decide) (by first | assumption | exact lim_lt _ _ | decide) (by first | assumption | decide) rfl fun s149 c149 he149 hs149 hk149 => ?_
    refine OpsW.det (det_move rfl) rfl ?_
    refine OpsW.det (det_extract rfl rfl) rfl ?_
    refine OpsW.det (det_extract rfl rfl) rfl ?_
    refine OpsW.det (det_assign rfl) rfl ?_
    refine OpsW.det (det_assign rfl) rfl ?_
    refine sNext ?_
    refine W.keep (F' := [(17, _), (20, _), (15, _), (18, _), (16, _), (5, _), (19, _), (14, _), (36, _), (35, _), (8, _), (9, _), (10, _), (11, _), (12, _), (4, _)]) ⟨rfl, rfl, rfl, rfl, rfl, rfl, rfl, rfl, rfl, rfl, rfl, rfl, rfl, rfl, rfl, rfl, trivial⟩ ?_
    refine sSeq ?_
    refine W.region ?_
    refine OpsW.det (det_move rfl) rfl ?_
    refine OpsW.det (det_move rfl) rfl ?_
    refine OpsW.addw rfl rfl (hi_lt hk143 hk149) rfl fun s154 he154 => ?_
    refine OpsW.det (det_assign rfl) rfl ?_
    refine sNext ?_
    refine W.keep (F' := [(15, _), (20, _), (18, _), (16, _), (5, _), (19, _), (14, _), (36, _), (35, _), (8, _), (9, _), (10, _), (11, _), (12, _), (4, _)]) ⟨rfl, rfl, rfl, rfl, rfl, rfl, rfl, rfl, rfl, rfl, rfl, rfl, rfl, rfl, rfl, trivial⟩ ?_
    refine sSeq ?_
    refine W.region ?_
    refine OpsW.det (det_move rfl) rfl ?_
    refine OpsW.det (det_move rfl) rfl ?_
    refine OpsW.add64 (e := 0) rfl rfl rfl (by first | assumption | exact lim_lt _ _ | decide) (by first | assumption | exact lim_lt _ _ | decide) (by first | assumption | decide) rfl fun s158 c158 he158 hs158 hk158 => ?_
    refine OpsW.det (det_move rfl) rfl ?_
    refine OpsW.det (det_extract rfl rfl) rfl ?_
    refine OpsW.det (det_extract rfl rfl) rfl ?_
    refine OpsW.det (det_assign rfl) rfl ?_
    refine OpsW.det (det_assign rfl) rfl ?_
    refine sNext ?_
    refine W.keep (F' := [(17, _), (6, _), (15, _), (18, _), (5, _), (19, _), (14, _), (36, _), (35, _), (8, _), (9, _), (10, _), (11, _), (12, _), (4, _)]) ⟨rfl, rfl, rfl, rfl, rfl, rfl, rfl, rfl, rfl, rfl, rfl, rfl, rfl, rfl, rfl, trivial⟩ ?_
    refine sSeq ?_
    refine W.region ?_
    refine OpsW.det (det_move rfl) rfl ?_
    refine OpsW.det (det_move rfl) rfl ?_
    refine OpsW.addw rfl rfl (col_lt hs55 (by decide) hF1 hs135 he143 he149 he154 he158) rfl fun s163 he163 => ?_
    have F2 := col he143 he149 he154 he158 he163
    have hF2 : s163 < 18446744073709551616 := by rw [he163]; exact col_lt hs55 (by decide) hF1 hs135 he143 he149 he154 he158
    clear he143 he149 he154 he158 he163
    refine OpsW.det (det_assign rfl) rfl ?_
    refine sNext ?_
    refine W.keep (F' := [(21, _), (6, _), (18, _), (5, _), (19, _), (14, _), (36, _), (35, _), (8, _), (9, _), (10, _), (11, _), (12, _), (4, _)]) ⟨rfl, rfl, rfl, rfl, rfl, rfl, rfl, rfl, rfl, rfl, rfl, rfl, rfl, rfl, trivial⟩ ?_
    refine sSeq ?_
    refine W.region ?_
    refine OpsW.det (det_move rfl) rfl ?_
    refine OpsW.det (det_move rfl) rfl ?_
    refine OpsW.mul64 rfl rfl (by first | assumption | exact lim_lt _ _ | decide) (by first | assumption | exact lim_lt _ _ | decide) rfl fun hi167 lo167 he167 hs167 hk167 => ?_
    refine OpsW.det (det_move rfl) rfl ?_
    refine OpsW.det (det_extract rfl rfl) rfl ?_
    refine OpsW.det (det_extract rfl rfl) rfl ?_
    refine OpsW.det (det_assign rfl) rfl ?_
    refine OpsW.det (det_assign rfl) rfl ?_
    refine sNext ?_
    refine W.keep (F' := [(16, _), (15, _), (21, _), (6, _), (18, _), (5, _), (19, _), (36, _), (35, _), (8, _), (9, _), (10, _), (11, _), (12, _), (4, _)]) ⟨rfl, rfl, rfl, rfl, rfl, rfl, rfl, rfl, rfl, rfl, rfl, rfl, rfl, rfl, rfl, trivial⟩ ?_
    refine sSeq ?_
    refine W.region ?_
    refine OpsW.det (det_move rfl) rfl ?_
    refine OpsW.det (det_move rfl) rfl ?_
    refine OpsW.add64 (e := 0) rfl rfl rfl (by first | assumption | exact lim_lt _ _ | decide) (by first | assumption | exact lim_lt _ _ | decide) (by first | assumption | decide) rfl fun s173 c173 he173 hs173 hk173 => ?_
    refine OpsW.det (det_move rfl) rfl ?_
    refine OpsW.det (det_extract rfl rfl) rfl ?_
    refine OpsW.det (det_extract rfl rfl) rfl ?_
    refine OpsW.det (det_assign rfl) rfl ?_
    refine OpsW.det (det_assign rfl) rfl ?_
    refine sNext ?_
    refine W.keep (F' := [(17, _), (16, _), (15, _), (21, _), (6, _), (5, _), (19, _), (36, _), (35, _), (8, _), (9, _), (10, _), (11, _), (12, _), (4, _)]) ⟨rfl, rfl, rfl, rfl, rfl, rfl, rfl, rfl, rfl, rfl, rfl, rfl, rfl, rfl, rfl, trivial⟩ ?_
    refine sSeq ?_
    refine W.region ?_
    refine OpsW.det (det_move rfl) rfl ?_
    refine OpsW.det (det_move rfl) rfl ?_
    refine OpsW.addw rfl rfl (hi_lt hk167 hk173) rfl fun s178 he178 => ?_
    refine OpsW.det (det_assign rfl) rfl ?_
    refine sNext ?_
    refine W.keep (F' := [(15, _), (16, _), (21, _), (6, _), (5, _), (19, _), (36, _), (35, _), (8, _), (9, _), (10, _), (11, _), (12, _), (4, _)]) ⟨rfl, rfl, rfl, rfl, rfl, rfl, rfl, rfl, rfl, rfl, rfl, rfl, rfl, rfl, trivial⟩ ?_
    refine sSeq ?_
    refine W.region ?_
    refine OpsW.det (det_move rfl) rfl ?_
    refine OpsW.det (det_move rfl) rfl ?_
    refine OpsW.add64 (e := 0) rfl rfl rfl (by first | assumption | exact lim_lt _ _ | decide) (by first | assumption | exact lim_lt _ _ | decide) (by first | assumption | decide) rfl fun s182 c182 he182 hs182 hk182 => ?_
    refine OpsW.det (det_move rfl) rfl ?_
    refine OpsW.det (det_extract rfl rfl) rfl ?_
    refine OpsW.det (det_extract rfl rfl) rfl ?_
    refine OpsW.det (det_assign rfl) rfl ?_
    refine OpsW.det (det_assign rfl) rfl ?_
    refine sNext ?_
    refine W.keep (F' := [(17, _), (16, _), (15, _), (21, _), (6, _), (5, _), (19, _), (36, _), (35, _), (9, _), (10, _), (11, _), (12, _), (4, _)]) ⟨rfl, rfl, rfl, rfl, rfl, rfl, rfl, rfl, rfl, rfl, rfl, rfl, rfl, rfl, trivial⟩ ?_
    refine sSeq ?_
    refine W.region ?_
    refine OpsW.det (det_move rfl) rfl ?_
    refine OpsW.det (det_move rfl) rfl ?_
    refine OpsW.addw rfl rfl (col_lt (lim_lt _ _) hy hG2 ht3 he167 he173 he178 he182) rfl fun s187 he187 => ?_
    have E3 := col he167 he173 he178 he182 he187
    have hG3 : s187 < 18446744073709551616 := by rw [he187]; exact col_lt (lim_lt _ _) hy hG2 ht3 he167 he173 he178 he182
    clear he167 he173 he178 he182 he187
    refine OpsW.det (det_assign rfl) rfl ?_
    refine sNext ?_
    refine W.keep (F' := [(18, _), (16, _), (21, _), (6, _), (5, _), (19, _), (36, _), (35, _), (9, _), (10, _), (11, _), (12, _), (4, _)]) ⟨rfl, rfl, rfl, rfl, rfl, rfl, rfl, rfl, rfl, rfl, rfl, rfl, rfl, trivial⟩ ?_
    refine sSeq ?_
    refine W.region ?_
    refine OpsW.det (det_move rfl) rfl ?_
    refine OpsW.mul64 (b := 8353516859464449352) rfl rfl (by first | assumption | exact lim_lt _ _ | decide) (by first | assumption | exact lim_lt _ _ | decide) rfl fun hi190 lo190 he190 hs190 hk190 => ?_
    refine OpsW.det (det_move rfl) rfl ?_
    refine OpsW.det (det_extract rfl rfl) rfl ?_
    refine OpsW.det (det_extract rfl rfl) rfl ?_
    refine OpsW.det (det_assign rfl) rfl ?_
    refine OpsW.det (det_assign rfl) rfl ?_
    refine sNext ?_
    refine W.keep (F' := [(20, _), (15, _), (18, _), (16, _), (21, _), (6, _), (5, _), (36, _), (35, _), (9, _), (10, _), (11, _), (12, _), (4, _)]) ⟨rfl, rfl, rfl, rfl, rfl, rfl, rfl, rfl, rfl, rfl, rfl, rfl, rfl, rfl, trivial⟩ ?_
    refine sSeq ?_
    refine W.region ?_
    refine OpsW.det (det_move rfl) rfl ?_
    refine OpsW.det (det_move rfl) rfl ?_
    refine OpsW.add64 (e := 0) rfl rfl rfl (by first | assumption | exact lim_lt _ _ | decide) (by first | assumption | exact lim_lt _ _ | decide) (by first | assumption | decide) rfl fun s196 c196 he196 hs196 hk196 => ?_
    refine OpsW.det (det_move rfl) rfl ?_
    refine OpsW.det (det_extract rfl rfl) rfl ?_
    refine OpsW.det (det_extract rfl rfl) rfl ?_
    refine OpsW.det (det_assign rfl) rfl ?_
    refine OpsW.det (det_assign rfl) rfl ?_
    refine sNext ?_
    refine W.keep (F' := [(17, _), (20, _), (15, _), (18, _), (16, _), (6, _), (5, _), (36, _), (35, _), (9, _), (10, _), (11, _), (12, _), (4, _)]) ⟨rfl, rfl, rfl, rfl, rfl, rfl, rfl, rfl, rfl, rfl, rfl, rfl, rfl, rfl, trivial⟩ ?_
    refine sSeq ?_
    refine W.region ?_
    refine OpsW.det (det_move rfl) rfl ?_
    refine OpsW.det (det_move rfl) rfl ?_
    refine OpsW.addw rfl rfl (hi_lt hk190 hk196) rfl fun s201 he201 => ?_
    refine OpsW.det (det_assign rfl) rfl ?_
    refine sNext ?_
    refine W.keep (F' := [(15, _), (20, _), (18, _), (16, _), (6, _), (5, _), (36, _), (35, _), (9, _), (10, _), (11, _), (12, _), (4, _)]) ⟨rfl, rfl, rfl, rfl, rfl, rfl, rfl, rfl, rfl, rfl, rfl, rfl, rfl, trivial⟩ ?_
    refine sSeq ?_
    refine W.region ?_
    refine OpsW.det (det_move rfl) rfl ?_
    refine OpsW.det (det_move rfl) rfl ?_
    refine OpsW.add64 (e := 0) rfl rfl rfl (by first | assumption | exact lim_lt _ _ | decide) (by first | assumption | exact lim_lt _ _ | decide) (by first | assumption | decide) rfl fun s205 c205 he205 hs205 hk205 => ?_
    refine OpsW.det (det_move rfl) rfl ?_
    refine OpsW.det (det_extract rfl rfl) rfl ?_
    refine OpsW.det (det_extract rfl rfl) rfl ?_
    refine OpsW.det (det_assign rfl) rfl ?_
    refine OpsW.det (det_assign rfl) rfl ?_
    refine sNext ?_
    refine W.keep (F' := [(17, _), (7, _), (15, _), (18, _), (6, _), (5, _), (36, _), (35, _), (9, _), (10, _), (11, _), (12, _), (4, _)]) ⟨rfl, rfl, rfl, rfl, rfl, rfl, rfl, rfl, rfl, rfl, rfl, rfl, rfl, trivial⟩ ?_
    refine sSeq ?_
    refine W.region ?_
    refine OpsW.det (det_move rfl) rfl ?_
    refine OpsW.det (det_move rfl) rfl ?_
    refine OpsW.addw rfl rfl (col_lt hs55 (by decide) hF2 hs182 he190 he196 he201 he205) rfl fun s210 he210 => ?_
    have F3 := col he190 he196 he201 he205 he210
    have hF3 : s210 < 18446744073709551616 := by rw [he210]; exact col_lt hs55 (by decide) hF2 hs182 he190 he196 he201 he205
    clear he190 he196 he201 he205 he210
    refine OpsW.det (det_assign rfl) rfl ?_
    refine sNext ?_
    refine W.keep (F' := [(21, _), (7, _), (18, _), (6, _), (5, _), (36, _), (35, _), (9, _), (10, _), (11, _), (12, _), (4, _)]) ⟨rfl, rfl, rfl, rfl, rfl, rfl, rfl, rfl, rfl, rfl, rfl, rfl, trivial⟩ ?_
    refine W.region ?_
    refine OpsW.det (det_move rfl) rfl ?_
    refine OpsW.det (det_move rfl) rfl ?_
    refine OpsW.addw rfl rfl (top_rr E0 E1 E2 E3 F0 F1 F2 F3 hT hXv hy hs55) rfl fun s213 he213 => ?_
    have hl213 : s213 < 18446744073709551616 := by rw [he213]; exact (top_rr E0 E1 E2 E3 F0 F1 F2 F3 hT hXv hy hs55)
    refine OpsW.det (det_assign rfl) rfl ?_
    refine sLast ?_
    refine bNext ?_
    refine W.keep (F' := [(8, _), (7, _), (6, _), (5, _), (36, _), (35, _), (9, _), (10, _), (11, _), (12, _), (4, _)]) ⟨rfl, rfl, rfl, rfl, rfl, rfl, rfl, rfl, rfl, rfl, rfl, trivial⟩ ?_
    refine W.region ?_
    refine OpsW.det (det_addN (b := 1) rfl rfl (idx_ok hlt (by decide))) rfl ?_
    refine OpsW.det (det_move rfl) rfl ?_
    refine sLast ?_
    have hS := sum_rr E0 E1 E2 E3 F0 F1 F2 F3 he213
    rw [val_lim4 (m := X) (Nat.lt_trans hX (by decide))] at hS
    exact rEnd (i + 1, s111, s158, s205, s213) ⟨hlt, hs111, hs158, hs205, hl213, _, inv_lt hM hs55, inv_step hI hS⟩ ⟨rfl, rfl, rfl, rfl, rfl, rfl, rfl, rfl, rfl, rfl, rfl, trivial⟩ (List.Sublist.refl _) (step_lt hlt)
  · skip
    have hi6 : i = 4 := by simp only [decide_eq_false_iff_not] at hc37; omega
    subst hi6
    have hE := end_rr hI hY
    refine sExit ?_
    refine xLoop ?_
    refine xHere ?_
    refine W.keep (F' := [(5, _), (6, _), (7, _), (8, _), (4, _)]) ⟨rfl, rfl, rfl, rfl, rfl, trivial⟩ ?_
    refine sSeq ?_
    refine W.region ?_
    refine OpsW.det (det_move rfl) rfl ?_
    refine OpsW.det (det_move rfl) rfl ?_
    refine OpsW.det (det_move rfl) rfl ?_
    refine OpsW.det (det_move rfl) rfl ?_
    refine OpsW.det (det_build rfl bld33) rfl ?_
    refine OpsW.det (det_call en66 rfl (fun w hb ho => rreduce_ws ht0 ht1 ht2 ht3 hT ho.blocks)) rfl ?_
    refine OpsW.det (det_build rfl bld35) rfl ?_
    refine OpsW.store sz35 rfl rfl rfl rfl rfl (Upd.here) rfl ?_
    refine sNext ?_
    refine W.keep (F' := [(4, _)]) ⟨rfl, trivial⟩ ?_
    refine sRet ?_
    exact done1 Tryd.results30 (rv_cellA ty35 rfl (List.Mem.head _) rfl) (congrArg enc4 hE)

end Go.Cu
