/-
  Part 5 of the joined texts of the curves' laws: The scalars: products: the walk. Conditions: numbers below the order.
  Conditions: those that each theorem states.
-/
import Derived.Test.YtbchpfmfiokbgaaDoorR4
import Derived.Test.YtbchpfmfiokbgaaDoorR2
/- The scalars: products: the walk. Conditions: numbers below the order. -/
namespace Go.Cu
open Go Go.Vm Go.RowKit Go.Proofs 
attribute [local irreducible] W OpsW Det Fresh New Writes Vm.Pure Makes Changes ExternTo BuildTo ZeroTo FieldTo IndexTo BinTo SliceTo Vm.Enters
set_option linter.unusedVariables false
set_option linter.unusedSimpArgs false
variable {T : Nat → TypeId × Nat × Nat}

theorem rreduce_ws {a0 a1 a2 a3 : Nat} (h0 : a0 < 18446744073709551616) (h1 : a1 < 18446744073709551616) (h2 : a2 < 18446744073709551616) (h3 : a3 < 18446744073709551616) (hV : val4 a0 a1 a2 a3 < 2 * rr) {w : World} (hG : Blocks (GH T) w) :
    Vm.Pure Tryd.prog 66 #[.agg #[u64 a0, u64 a1, u64 a2, u64 a3], u64 0] w (enc4 (val4 a0 a1 a2 a3 % rr)) := by
  have h := rreduce_ok (V := val4 a0 a1 a2 a3) hV hG
  have e := lim4 h0 h1 h2 h3
  unfold enc4 at e
  rw [e] at h
  exact h
theorem idx33 {m i : Nat} (h : i < 4) : IndexTo Tryd.prog 33 (.agg #[u64 (lim (m) 0), u64 (lim (m) 1), u64 (lim (m) 2), u64 (lim (m) 3)]) (.int .i64 (i : Nat)) (u64 (lim m i)) := by
  have : i = 0 ∨ i = 1 ∨ i = 2 ∨ i = 3 := by omega
  rcases this with rfl | rfl | rfl | rfl <;> exact IndexTo.of fun _ => by kernel_rfl

theorem bld33 {v0 v1 v2 v3 : Int} : BuildTo Tryd.prog 33 [(0, .int .u64 v0), (1, .int .u64 v1), (2, .int .u64 v2), (3, .int .u64 v3)] (.agg #[.int .u64 v0, .int .u64 v1, .int .u64 v2, .int .u64 v3]) := BuildTo.of fun _ => by kernel_rfl
set_option maxHeartbeats 1000000 in
theorem RMul_w_ok {X Y : Nat} (hX : X < rr) (hY : Y < rr) {w : World} (hG : Blocks (GH T) w)  : Vm.Pure Tryd.prog 30 #[.agg #[u64 (lim (X) 0), u64 (lim (X) 1), u64 (lim (X) 2), u64 (lim (X) 3)], .agg #[u64 (lim (Y) 0), u64 (lim (Y) 1), u64 (lim (Y) 2), u64 (lim (Y) 3)]] w (enc4 (X * Y * inv_rr % rr)) := by
  refine pure_of_W (n := 222) (args := [.agg #[u64 (lim (X) 0), u64 (lim (X) 1), u64 (lim (X) 2), u64 (lim (X) 3)], .agg #[u64 (lim (Y) 0), u64 (lim (Y) 1), u64 (lim (Y) 2), u64 (lim (Y) 3)]]) Tryd.func30 rfl Tryd.ntmps30 (Nat.le_of_ble_eq_true rfl) hG ?_
  refine sStart ?_
  refine sSeq ?_
  refine W.region ?_
  refine OpsW.fresh (fr_box rfl rfl) rfl fun b2 => ?_
  refine OpsW.fresh (fr_box rfl rfl) rfl fun b3 => ?_
  refine OpsW.fresh (fr_alloc z35) rfl fun b4 => ?_
  refine sNext ?_
  refine W.keep (F' := [(4, _), (3, _), (2, _)]) ⟨rfl, rfl, rfl, trivial⟩ ?_
  refine sSeq ?_
  refine W.region ?_
  refine OpsW.det (det_assign rfl) rfl ?_
  refine OpsW.det (det_assign rfl) rfl ?_
  refine OpsW.det (det_assign rfl) rfl ?_
  refine OpsW.det (det_assign rfl) rfl ?_
  refine sNext ?_
  refine sSeq ?_
  refine W.draw mixed 16 [[], [0], [0, 1], [], [3], [3, 4], [], [6], [6, 7], [], [9], [9, 10], [0, 1, 2], [0, 1, 2, 3, 4, 5, 12], [0, 1, 2, 3, 4, 5, 6, 7, 8, 12, 13], [0, 1, 2, 3, 4, 5, 6, 7, 8, 9, 10, 11, 12, 13, 14]] (cl_lt (by decide)) ?_
  refine HeadR.start (cl_lt (by decide)) ?_
  refine HeadR.det rfl (fun β hβ => (det_fieldAddr fl35_0 rfl)) ?_
  refine HeadR.det rfl (fun β hβ => (det_indexAddr_arr u33 sz25 rfl rfl ⟨by decide, by decide⟩)) ?_
  refine HeadR.det rfl (fun β hβ => (det_loadC ty25 rfl (List.Mem.tail _ (List.Mem.tail _ (List.Mem.head _))) rfl)) ?_
  refine HeadR.det rfl (fun β hβ => (det_fieldAddr fl35_0 rfl)) ?_
  refine HeadR.det rfl (fun β hβ => (det_indexAddr_arr u33 sz25 rfl rfl ⟨by decide, by decide⟩)) ?_
  refine HeadR.det rfl (fun β hβ => (det_loadC ty25 rfl (List.Mem.tail _ (List.Mem.tail _ (List.Mem.head _))) rfl)) ?_
  refine HeadR.det rfl (fun β hβ => (det_fieldAddr fl35_0 rfl)) ?_
  refine HeadR.det rfl (fun β hβ => (det_indexAddr_arr u33 sz25 rfl rfl ⟨by decide, by decide⟩)) ?_
  refine HeadR.det rfl (fun β hβ => (det_loadC ty25 rfl (List.Mem.tail _ (List.Mem.tail _ (List.Mem.head _))) rfl)) ?_
  refine HeadR.det rfl (fun β hβ => (det_fieldAddr fl35_0 rfl)) ?_
  refine HeadR.det rfl (fun β hβ => (det_indexAddr_arr u33 sz25 rfl rfl ⟨by decide, by decide⟩)) ?_
  refine HeadR.det rfl (fun β hβ => (det_loadC ty25 rfl (List.Mem.tail _ (List.Mem.tail _ (List.Mem.head _))) rfl)) ?_
  refine HeadR.det rfl (fun β hβ => (det_assign rfl)) ?_
  refine HeadR.det rfl (fun β hβ => (det_assign rfl)) ?_
  refine HeadR.det rfl (fun β hβ => (det_assign rfl)) ?_
  refine HeadR.det rfl (fun β hβ => (det_assign rfl)) ?_
  refine HeadR.done ⟨by kernel_rfl, fun β hβ => ?_⟩
  refine OpsW.norm (F' := [(22, _), (23, _), (24, _), (25, _), (26, _), (27, _), (28, _), (29, _), (30, _), (31, _), (32, _), (33, _), (9, _), (10, _), (11, _), (12, _), (8, _), (7, _), (6, _), (5, _), (4, _), (3, _), (2, _)]) (H' := [(_, _), (_, _), (_, _)]) rfl rfl ?_
  refine sNext ?_
  refine W.keep (F' := [(9, _), (10, _), (11, _), (12, _), (8, _), (7, _), (6, _), (5, _), (4, _), (3, _)]) ⟨rfl, rfl, rfl, rfl, rfl, rfl, rfl, rfl, rfl, rfl, trivial⟩ ?_
  refine sSeq ?_
  refine sSeq ?_
  refine W.region ?_
  refine OpsW.det (det_fieldAddr fl35_0 rfl) rfl ?_
  refine OpsW.det (det_loadA ty33 rfl (List.Mem.tail _ (List.Mem.head _)) rfl) rfl ?_
  refine OpsW.det (det_move rfl) rfl ?_
  refine sNext ?_
  refine W.keep (F' := [(36, _), (35, _), (9, _), (10, _), (11, _), (12, _), (8, _), (7, _), (6, _), (5, _), (4, _)]) ⟨rfl, rfl, rfl, rfl, rfl, rfl, rfl, rfl, rfl, rfl, rfl, trivial⟩ ?_
  refine sBlock ?_
  refine sLoop (σ := Nat × Nat × Nat × Nat × Nat) (fun k => [(36, .int .i64 (k.1 : Nat)), (35, .agg #[u64 (lim (Y) 0), u64 (lim (Y) 1), u64 (lim (Y) 2), u64 (lim (Y) 3)]), (5, u64 k.2.1), (6, u64 k.2.2.1), (7, u64 k.2.2.2.1), (8, u64 k.2.2.2.2), (9, u64 (lim X 0)), (10, u64 (lim X 1)), (11, u64 (lim X 2)), (12, u64 (lim X 3)), (4, .pointer (some ⟨b4, 0, none⟩))]) (fun k => [(b4, blk [.int .u64 0, .int .u64 0, .int .u64 0, .int .u64 0] 35)]) (fun k => k.1 ≤ 4 ∧ k.2.1 < 18446744073709551616 ∧ k.2.2.1 < 18446744073709551616 ∧ k.2.2.2.1 < 18446744073709551616 ∧ k.2.2.2.2 < 18446744073709551616 ∧ ∃ M, M < 18446744073709551616 ^ k.1 ∧ val4 (k.2.1) (k.2.2.1) (k.2.2.2.1) (k.2.2.2.2) * 18446744073709551616 ^ k.1 = X * (Y % 18446744073709551616 ^ k.1) + M * rr) (fun k => 4 - k.1) (0, 0, 0, 0, 0) ⟨by decide, by decide, by decide, by decide, by decide, 0, by decide, by simp [val4, Nat.mod_one]⟩ ⟨rfl, rfl, rfl, rfl, rfl, rfl, rfl, rfl, rfl, rfl, rfl, trivial⟩ (List.Sublist.cons_cons _ (List.nil_sublist _)) ?_
  rintro ⟨i, t0, t1, t2, t3⟩ ⟨hi, ht0, ht1, ht2, ht3, M, hM, hI⟩
  refine W.norm (F' := [(36, .int .i64 (i : Nat)), (35, .agg #[u64 (lim (Y) 0), u64 (lim (Y) 1), u64 (lim (Y) 2), u64 (lim (Y) 3)]), (5, u64 t0), (6, u64 t1), (7, u64 t2), (8, u64 t3), (9, u64 (lim X 0)), (10, u64 (lim X 1)), (11, u64 (lim X 2)), (12, u64 (lim X 3)), (4, .pointer (some ⟨b4, 0, none⟩))]) (H' := [(b4, blk [.int .u64 0, .int .u64 0, .int .u64 0, .int .u64 0] 35)]) rfl rfl ?_
  have hT : val4 t0 t1 t2 t3 < 2 * rr := inv_top hI hM hX
  have hXv : val4 (lim X 0) (lim X 1) (lim X 2) (lim X 3) < rr := by rw [val_lim4 (m := X) (Nat.lt_trans hX (by decide))]; exact hX
  have hy := lim_lt Y i
  refine sSeq ?_
  refine W.region ?_
  refine OpsW.det (det_lss rfl rfl) rfl ?_
  refine sNext ?_
  refine sSeq ?_
  refine W.cond rfl (fun hc37 => ?_) (fun hc37 => ?_)
  · skip
    have hlt : i < 4 := by simp only [decide_eq_true_eq] at hc37; omega
    refine sSkip ?_
    refine sSeq ?_
    refine sBlock ?_
    refine sSeq ?_
    refine W.region ?_
    refine OpsW.det (det_index rfl rfl (idx33 hlt)) rfl ?_
    refine OpsW.det (det_assign rfl) rfl ?_
    refine sNext ?_
    refine W.keep (F' := [(14, _), (36, _), (35, _), (5, _), (6, _), (7, _), (8, _), (9, _), (10, _), (11, _), (12, _), (4, _)]) ⟨rfl, rfl, rfl, rfl, rfl, rfl, rfl, rfl, rfl, rfl, rfl, rfl, trivial⟩ ?_
    refine sSeq ?_
    refine W.region ?_
    refine OpsW.det (det_move rfl) rfl ?_
    refine OpsW.det (det_move rfl) rfl ?_
    refine OpsW.mul64 rfl rfl (by first | assumption | exact lim_lt _ _ | decide) (by first | assumption | exact lim_lt _ _ | decide) rfl fun hi42 lo42 he42 hs42 hk42 => ?_
    refine OpsW.det (det_move rfl) rfl ?_
    refine OpsW.det (det_extract rfl rfl) rfl ?_
    refine OpsW.det (det_extract rfl rfl) rfl ?_
    refine OpsW.det (det_assign rfl) rfl ?_
    refine OpsW.det (det_assign rfl) rfl ?_
    refine sNext ?_
    refine W.keep (F' := [(16, _), (15, _), (14, _), (36, _), (35, _), (5, _), (6, _), (7, _), (8, _), (9, _), (10, _), (11, _), (12, _), (4, _)]) ⟨rfl, rfl, rfl, rfl, rfl, rfl, rfl, rfl, rfl, rfl, rfl, rfl, rfl, rfl, trivial⟩ ?_
    refine sSeq ?_
    refine W.region ?_
    refine OpsW.det (det_move rfl) rfl ?_
    refine OpsW.det (det_move rfl) rfl ?_
    refine OpsW.add64 (e := 0) rfl rfl rfl (by first | assumption | exact lim_lt _ _ | decide) (by first | assumption | exact lim_lt _ _ | decide) (by first | assumption | decide) rfl fun s48 c48 he48 hs48 hk48 => ?_
    refine OpsW.det (det_move rfl) rfl ?_
    refine OpsW.det (det_extract rfl rfl) rfl ?_
    refine OpsW.det (det_extract rfl rfl) rfl ?_
    refine OpsW.det (det_assign rfl) rfl ?_
    refine OpsW.det (det_assign rfl) rfl ?_
    refine sNext ?_
    refine W.keep (F' := [(17, _), (16, _), (15, _), (14, _), (36, _), (35, _), (6, _), (7, _), (8, _), (9, _), (10, _), (11, _), (12, _), (4, _)]) ⟨rfl, rfl, rfl, rfl, rfl, rfl, rfl, rfl, rfl, rfl, rfl, rfl, rfl, rfl, trivial⟩ ?_
    refine sSeq ?_
    refine W.region ?_
    refine OpsW.det (det_move rfl) rfl ?_
    refine OpsW.det (det_move rfl) rfl ?_
    refine OpsW.addw rfl rfl (hi_lt hk42 hk48) rfl fun s53 he53 => ?_
    have E0 := col0 he42 he48 he53
    have hG0 := w_lt hk42 hk48 he53
    refine OpsW.det (det_assign rfl) rfl ?_
    refine sNext ?_
    refine W.keep (F' := [(18, _), (16, _), (14, _), (36, _), (35, _), (6, _), (7, _), (8, _), (9, _), (10, _), (11, _), (12, _), (4, _)]) ⟨rfl, rfl, rfl, rfl, rfl, rfl, rfl, rfl, rfl, rfl, rfl, rfl, rfl, trivial⟩ ?_
    refine sSeq ?_
    refine W.region ?_
    refine OpsW.det (det_move rfl) rfl ?_
    refine OpsW.mulw (b := 18446744069414584319) rfl rfl rfl fun s55 he55 hs55 => ?_
    refine OpsW.det (det_assign rfl) rfl ?_
    refine sNext ?_
    refine W.keep (F' := [(19, _), (18, _), (16, _), (14, _), (36, _), (35, _), (6, _), (7, _), (8, _), (9, _), (10, _), (11, _), (12, _), (4, _)]) ⟨rfl, rfl, rfl, rfl, rfl, rfl, rfl, rfl, rfl, rfl, rfl, rfl, rfl, rfl, trivial⟩ ?_
    refine sSeq ?_
    refine W.region ?_
    refine OpsW.det (det_move rfl) rfl ?_
    refine OpsW.mul64 (b := 18446744069414584321) rfl rfl (by first | assumption | exact lim_lt _ _ | decide) (by first | assumption | exact lim_lt _ _ | decide) rfl fun hi58 lo58 he58 hs58 hk58 => ?_
    refine OpsW.det (det_move rfl) rfl ?_
    refine OpsW.det (det_extract rfl rfl) rfl ?_
    refine OpsW.det (det_extract rfl rfl) rfl ?_
    refine OpsW.det (det_assign rfl) rfl ?_
    refine OpsW.det (det_assign rfl) rfl ?_
    refine sNext ?_
    refine W.keep (F' := [(20, _), (15, _), (19, _), (18, _), (16, _), (14, _), (36, _), (35, _), (6, _), (7, _), (8, _), (9, _), (10, _), (11, _), (12, _), (4, _)]) ⟨rfl, rfl, rfl, rfl, rfl, rfl, rfl, rfl, rfl, rfl, rfl, rfl, rfl, rfl, rfl, rfl, trivial⟩ ?_
    refine sSeq ?_
    refine W.region ?_
    refine OpsW.det (det_move rfl) rfl ?_
    refine OpsW.det (det_move rfl) rfl ?_
    refine OpsW.add64 (e := 0) rfl rfl rfl (by first | assumption | exact lim_lt _ _ | decide) (by first | assumption | exact lim_lt _ _ | decide) (by first | assumption | decide) rfl fun s64 c64 he64 hs64 hk64 => ?_
    refine OpsW.det (det_move rfl) rfl ?_
    refine OpsW.det (det_extract rfl rfl) rfl ?_
    refine OpsW.det (det_extract rfl rfl) rfl ?_
    refine OpsW.det (det_assign rfl) rfl ?_
    refine sNext ?_
    refine W.keep (F' := [(17, _), (15, _), (19, _), (18, _), (14, _), (36, _), (35, _), (6, _), (7, _), (8, _), (9, _), (10, _), (11, _), (12, _), (4, _)]) ⟨rfl, rfl, rfl, rfl, rfl, rfl, rfl, rfl, rfl, rfl, rfl, rfl, rfl, rfl, rfl, trivial⟩ ?_
    refine sSeq ?_
    refine W.region ?_
    refine OpsW.det (det_move rfl) rfl ?_
    refine OpsW.det (det_move rfl) rfl ?_
    refine OpsW.addw rfl rfl (hi_lt hk58 hk64) rfl fun s69 he69 => ?_
    have hz := zero_rr he55 he58 he64 hs64
    have F0 := colz he58 he64 he69 hz
    have hF0 := w_lt hk58 hk64 he69
    clear he42 he48 he53 he55 he58 he64 he69 hz
    refine OpsW.det (det_assign rfl) rfl ?_
    refine sNext ?_
    refine W.keep (F' := [(21, _), (19, _), (18, _), (14, _), (36, _), (35, _), (6, _), (7, _), (8, _), (9, _), (10, _), (11, _), (12, _), (4, _)]) ⟨rfl, rfl, rfl, rfl, rfl, rfl, rfl, rfl, rfl, rfl, rfl, rfl, rfl, rfl, trivial⟩ ?_
    refine sSeq ?_
    refine W.region ?_
    refine OpsW.det (det_move rfl) rfl ?_
    refine OpsW.det (det_move rfl) rfl ?_
    refine OpsW.mul64 rfl rfl (by first | assumption | exact lim_lt _ _ | decide) (by first | assumption | exact lim_lt _ _ | decide) rfl fun hi73 lo73 he73 hs73 hk73 => ?_
    refine OpsW.det (det_move rfl) rfl ?_
    refine OpsW.det (det_extract rfl rfl) rfl ?_
    refine OpsW.det (det_extract rfl rfl) rfl ?_
    refine OpsW.det (det_assign rfl) rfl ?_
    refine OpsW.det (det_assign rfl) rfl ?_
    refine sNext ?_
    refine W.keep (F' := [(16, _), (15, _), (21, _), (19, _), (18, _), (14, _), (36, _), (35, _), (6, _), (7, _), (8, _), (9, _), (10, _), (11, _), (12, _), (4, _)]) ⟨rfl, rfl, rfl, rfl, rfl, rfl, rfl, rfl, rfl, rfl, rfl, rfl, rfl, rfl, rfl, rfl, trivial⟩ ?_
    refine sSeq ?_
    refine W.region ?_
    refine OpsW.det (det_move rfl) rfl ?_
    refine OpsW.det (det_move rfl) rfl ?_
    refine OpsW.add64 (e := 0) rfl rfl rfl (by first | assumption | exact lim_lt _ _ | decide) (by first | assumption | exact lim_lt _ _ | decide) (by first | assumption | decide) rfl fun s79 c79 he79 hs79 hk79 => ?_
    refine OpsW.det (det_move rfl) rfl ?_
    refine OpsW.det (det_extract rfl rfl) rfl ?_
    refine OpsW.det (det_extract rfl rfl) rfl ?_
    refine OpsW.det (det_assign rfl) rfl ?_
    refine OpsW.det (det_assign rfl) rfl ?_
    refine sNext ?_
    refine W.keep (F' := [(17, _), (16, _), (15, _), (21, _), (19, _), (14, _), (36, _), (35, _), (6, _), (7, _), (8, _), (9, _), (10, _), (11, _), (12, _), (4, _)]) ⟨rfl, rfl, rfl, rfl, rfl, rfl, rfl, rfl, rfl, rfl, rfl, rfl, rfl, rfl, rfl, rfl, trivial⟩ ?_
    refine sSeq ?_
    refine W.region ?_
    refine OpsW.det (det_move rfl) rfl ?_
    refine OpsW.det (det_move rfl) rfl ?_
    refine OpsW.addw rfl rfl (hi_lt hk73 hk79) rfl fun s84 he84 => ?_
    refine OpsW.det (det_assign rfl) rfl ?_
    refine sNext ?_
    refine W.keep (F' := [(15, _), (16, _), (21, _), (19, _), (14, _), (36, _), (35, _), (6, _), (7, _), (8, _), (9, _), (10, _), (11, _), (12, _), (4, _)]) ⟨rfl, rfl, rfl, rfl, rfl, rfl, rfl, rfl, rfl, rfl, rfl, rfl, rfl, rfl, rfl, trivial⟩ ?_
    refine sSeq ?_
    refine W.region ?_
    refine OpsW.det (det_move rfl) rfl ?_
    refine OpsW.det (det_move rfl) rfl ?_
    refine OpsW.add64 (e := 0) rfl rfl rfl (by first | assumption | exact lim_lt _ _ | decide) (by first | assumption | exact lim_lt _ _ | decide) (by first | assumption | decide) rfl fun s88 c88 he88 hs88 hk88 => ?_
    refine OpsW.det (det_move rfl) rfl ?_
    refine OpsW.det (det_extract rfl rfl) rfl ?_
    refine OpsW.det (det_extract rfl rfl) rfl ?_
    refine OpsW.det (det_assign rfl) rfl ?_
    refine OpsW.det (det_assign rfl) rfl ?_
    refine sNext ?_
    refine W.keep (F' := [(17, _), (16, _), (15, _), (21, _), (19, _), (14, _), (36, _), (35, _), (7, _), (8, _), (9, _), (10, _), (11, _), (12, _), (4, _)]) ⟨rfl, rfl, rfl, rfl, rfl, rfl, rfl, rfl, rfl, rfl, rfl, rfl, rfl, rfl, rfl, trivial⟩ ?_
    refine sSeq ?_
    refine W.region ?_
    refine OpsW.det (det_move rfl) rfl ?_
    refine OpsW.det (det_move rfl) rfl ?_
    refine OpsW.addw rfl rfl (col_lt (lim_lt _ _) hy hG0 ht1 he73 he79 he84 he88) rfl fun s93 he93 => ?_
    have E1 := col he73 he79 he84 he88 he93
    have hG1 : s93 < 18446744073709551616 := by rw [he93]; exact col_lt (lim_lt _ _) hy hG0 ht1 he73 he79 he84 he88
    clear he73 he79 he84 he88 he93
    refine OpsW.det (det_assign rfl) rfl ?_
    refine sNext ?_
    refine W.keep (F' := [(18, _), (16, _), (21, _), (19, _), (14, _), (36, _), (35, _), (7, _), (8, _), (9, _), (10, _), (11, _), (12, _), (4, _)]) ⟨rfl, rfl, rfl, rfl, rfl, rfl, rfl, rfl, rfl, rfl, rfl, rfl, rfl, rfl, trivial⟩ ?_
    refine sSeq ?_
    refine W.region ?_
    refine OpsW.det (det_move rfl) rfl ?_
    refine OpsW.mul64 (b := 6034159408538082302) rfl rfl (by first | assumption | exact lim_lt _ _ | decide) (by first | assumption | exact lim_lt _ _ | decide) rfl fun hi96 lo96 he96 hs96 hk96 => ?_
    refine OpsW.det (det_move rfl) rfl ?_
    refine OpsW.det (det_extract rfl rfl) rfl ?_
    refine OpsW.det (det_extract rfl rfl) rfl ?_
    refine OpsW.det (det_assign rfl) rfl ?_
    refine OpsW.det (det_assign rfl) rfl ?_
    refine sNext ?_
    refine W.keep (F' := [(20, _), (15, _), (18, _), (16, _), (21, _), (19, _), (14, _), (36, _), (35, _), (7, _), (8, _), (9, _), (10, _), (11, _), (12, _), (4, _)]) ⟨rfl, rfl, rfl, rfl, rfl, rfl, rfl, rfl, rfl, rfl, rfl, rfl, rfl, rfl, rfl, rfl, trivial⟩ ?_
    refine sSeq ?_
    refine W.region ?_
    refine OpsW.det (det_move rfl) rfl ?_
    refine OpsW.det (det_move rfl) rfl ?_
    refine OpsW.add64 (e := 0) rfl rfl rfl (by first | assumption | exact lim_lt _ _ | decide) (by first | assumption | exact lim_lt _ _ | decide) (by first | assumption | decide) rfl fun s102 c102 he102 hs102 hk102 => ?_
    refine OpsW.det (det_move rfl) rfl ?_
    refine OpsW.det (det_extract rfl rfl) rfl ?_
    refine OpsW.det (det_extract rfl rfl) rfl ?_
    refine OpsW.det (det_assign rfl) rfl ?_
    refine OpsW.det (det_assign rfl) rfl ?_
    refine sNext ?_
    refine W.keep (F' := [(17, _), (20, _), (15, _), (18, _), (16, _), (19, _), (14, _), (36, _), (35, _), (7, _), (8, _), (9, _), (10, _), (11, _), (12, _), (4, _)]) ⟨rfl, rfl, rfl, rfl, rfl, rfl, rfl, rfl, rfl, rfl, rfl, rfl, rfl, rfl, rfl, rfl, trivial⟩ ?_
    refine sSeq ?_
    refine W.region ?_
    refine OpsW.det (det_move rfl) rfl ?_
    refine OpsW.det (det_move rfl) rfl ?_
    refine OpsW.addw rfl rfl (hi_lt hk96 hk102) rfl fun s107 he107 => ?_
    refine OpsW.det (det_assign rfl) rfl ?_
    refine sNext ?_
    refine W.keep (F' := [(15, _), (20, _), (18, _), (16, _), (19, _), (14, _), (36, _), (35, _), (7, _), (8, _), (9, _), (10, _), (11, _), (12, _), (4, _)]) ⟨rfl, rfl, rfl, rfl, rfl, rfl, rfl, rfl, rfl, rfl, rfl, rfl, rfl, rfl, rfl, trivial⟩ ?_
    refine sSeq ?_
    refine W.region ?_
    refine OpsW.det (det_move rfl) rfl ?_
    refine OpsW.det (det_move rfl) rfl ?_
    refine OpsW.add64 (e := 0) rfl rfl rfl (by first | assumption | exact lim_lt _ _ | decide) (by first | assumption | exact lim_lt _ _ | decide) (by first | assumption | decide) rfl fun s111 c111 he111 hs111 hk111 => ?_
    refine OpsW.det (det_move rfl) rfl ?_
    refine OpsW.det (det_extract rfl rfl) rfl ?_
    refine OpsW.det (det_extract rfl rfl) rfl ?_
    refine OpsW.det (det_assign rfl) rfl ?_
    refine OpsW.det (det_assign rfl) rfl ?_
    refine sNext ?_
    refine W.keep (F' := [(17, _), (5, _), (15, _), (18, _), (19, _), (14, _), (36, _), (35, _), (7, _), (8, _), (9, _), (10, _), (11, _), (12, _), (4, _)]) ⟨rfl, rfl, rfl, rfl, rfl, rfl, rfl, rfl, rfl, rfl, rfl, rfl, rfl, rfl, rfl, trivial⟩ ?_
    refine sSeq ?_
    refine W.region ?_
    refine OpsW.det (det_move rfl) rfl ?_
    refine OpsW.det (det_move rfl) rfl ?_
    refine OpsW.addw rfl rfl (col_lt hs55 (by decide) hF0 hs88 he96 he102 he107 he111) rfl fun s116 he116 => ?_
    have F1 := col he96 he102 he107 he111 he116
    have hF1 : s116 < 18446744073709551616 := by rw [he116]; exact col_lt hs55 (by decide) hF0 hs88 he96 he102 he107 he111
    clear he96 he102 he107 he111 he116
    refine OpsW.det (det_assign rfl) rfl ?_
    refine sNext ?_
    refine W.keep (F' := [(21, _), (5, _), (18, _), (19, _), (14, _), (36, _), (35, _), (7, _), (8, _), (9, _), (10, _), (11, _), (12, _), (4, _)]) ⟨rfl, rfl, rfl, rfl, rfl, rfl, rfl, rfl, rfl, rfl, rfl, rfl, rfl, rfl, trivial⟩ ?_
    refine sSeq ?_
    refine W.region ?_
    refine OpsW.det (det_move rfl) rfl ?_
    refine OpsW.det (det_move rfl) rfl ?_
    refine OpsW.mul64 rfl rfl (by first | assumption | exact lim_lt _ _ | decide) (by first | assumption | exact lim_lt _ _ | decide) rfl fun hi120 lo120 he120 hs120 hk120 => ?_
    refine OpsW.det (det_move rfl) rfl ?_
    refine OpsW.det (det_extract rfl rfl) rfl ?_
    refine OpsW.det (det_extract rfl rfl) rfl ?_
    refine OpsW.det (det_assign rfl) rfl ?_
    refine OpsW.det (det_assign rfl) rfl ?_
    refine sNext ?_
    refine W.keep (F' := [(16, _), (15, _), (21, _), (5, _), (18, _), (19, _), (14, _), (36, _), (35, _), (7, _), (8, _), (9, _), (10, _), (11, _), (12, _), (4, _)]) ⟨rfl, rfl, rfl, rfl, rfl, rfl, rfl, rfl, rfl, rfl, rfl, rfl, rfl, rfl, rfl, rfl, trivial⟩ ?_
    refine sSeq ?_
    refine W.region ?_
    refine OpsW.det (det_move rfl) rfl ?_
    refine OpsW.det (det_move rfl) rfl ?_
    refine OpsW.add64 (e := 0) rfl rfl rfl (by first | assumption | exact lim_lt _ _ | decide) (by first | assumption | exact lim_lt _ _ | decide) (by first | assumption | decide) rfl fun s126 c126 he126 hs126 hk126 => ?_
    refine OpsW.det (det_move rfl) rfl ?_
    refine OpsW.det (det_extract rfl rfl) rfl ?_
    refine OpsW.det (det_extract rfl rfl) rfl ?_
    refine OpsW.det (det_assign rfl) rfl ?_
    refine OpsW.det (det_assign rfl) rfl ?_
    refine sNext ?_
    refine W.keep (F' := [(17, _), (16, _), (15, _), (21, _), (5, _), (19, _), (14, _), (36, _), (35, _), (7, _), (8, _), (9, _), (10, _), (11, _), (12, _), (4, _)]) ⟨rfl, rfl, rfl, rfl, rfl, rfl, rfl, rfl, rfl, rfl, rfl, rfl, rfl, rfl, rfl, rfl, trivial⟩ ?_
    refine sSeq ?_
    refine W.region ?_
    refine OpsW.det (det_move rfl) rfl ?_
    refine OpsW.det (det_move rfl) rfl ?_
    refine OpsW.addw rfl rfl (hi_lt hk120 hk126) rfl fun s131 he131 => ?_
    refine OpsW.det (det_assign rfl) rfl ?_
    refine sNext ?_
    refine W.keep (F' := [(15, _), (16, _), (21, _), (5, _), (19, _), (14, _), (36, _), (35, _), (7, _), (8, _), (9, _), (10, _), (11, _), (12, _), (4, _)]) ⟨rfl, rfl, rfl, rfl, rfl, rfl, rfl, rfl, rfl, rfl, rfl, rfl, rfl, rfl, rfl, trivial⟩ ?_
    refine sSeq ?_
    refine W.region ?_
    refine OpsW.det (det_move rfl) rfl ?_
    refine OpsW.det (det_move rfl) rfl ?_
    refine OpsW.add64 (e := 0) rfl rfl rfl (by first | assumption | exact lim_lt _ _ | decide) (by first | assumption | exact lim_lt _ _ | decide) (by first | assumption | decide) rfl fun s135 c135 he135 hs135 hk135 => ?_
    refine OpsW.det (det_move rfl) rfl ?_
    refine OpsW.det (det_extract rfl rfl) rfl ?_
    refine OpsW.det (det_extract rfl rfl) rfl ?_
    refine OpsW.det (det_assign rfl) rfl ?_
    refine OpsW.det (det_assign rfl) rfl ?_
    refine sNext ?_
    refine W.keep (F' := [(17, _), (16, _), (15, _), (21, _), (5, _), (19, _), (14, _), (36, _), (35, _), (8, _), (9, _), (10, _), (11, _), (12, _), (4, _)]) ⟨rfl, rfl, rfl, rfl, rfl, rfl, rfl, rfl, rfl, rfl, rfl, rfl, rfl, rfl, rfl, trivial⟩ ?_
    refine sSeq ?_
    refine W.region ?_
    refine OpsW.det (det_move rfl) rfl ?_
    refine OpsW.det (det_move rfl) rfl ?_
    refine OpsW.addw rfl rfl (col_lt (lim_lt _ _) hy hG1 ht2 he120 he126 he131 he135) rfl fun s140 he140 => ?_
    have E2 := col he120 he126 he131 he135 he140
    have hG2 : s140 < 18446744073709551616 := by rw [he140]; exact col_lt (lim_lt _ _) hy hG1 ht2 he120 he126 he131 he135
    clear he120 he126 he131 he135 he140
    refine OpsW.det (det_assign rfl) rfl ?_
    refine sNext ?_
    refine W.keep (F' := [(18, _), (16, _), (21, _), (5, _), (19, _), (14, _), (36, _), (35, _), (8, _), (9, _), (10, _), (11, _), (12, _), (4, _)]) ⟨rfl, rfl, rfl, rfl, rfl, rfl, rfl, rfl, rfl, rfl, rfl, rfl, rfl, rfl, trivial⟩ ?_
    refine sSeq ?_
    refine W.region ?_
    refine OpsW.det (det_move rfl) rfl ?_
    refine OpsW.mul64 (b := 3691218898639771653) rfl rfl (by first | assumption | exact lim_lt _ _ | decide) (by first | assumption | exact lim_lt _ _ | decide) rfl fun hi143 lo143 he143 hs143 hk143 => ?_
    refine OpsW.det (det_move rfl) rfl ?_
    refine OpsW.det (det_extract rfl rfl) rfl ?_
    refine OpsW.det (det_extract rfl rfl) rfl ?_
    refine OpsW.det (det_assign rfl) rfl ?_
    refine OpsW.det (det_assign rfl) rfl ?_
    refine sNext ?_
    refine W.keep (F' := [(20, _), (15, _), (18, _), (16, _), (21, _), (5, _), (19, _), (14, _), (36, _), (35, _), (8, _), (9, _), (10, _), (11, _), (12, _), (4, _)]) ⟨rfl, rfl, rfl, rfl, rfl, rfl, rfl, rfl, rfl, rfl, rfl, rfl, rfl, rfl, rfl, rfl, trivial⟩ ?_
    refine sSeq ?_
    refine W.region ?_
    refine OpsW.det (det_move rfl) rfl ?_
    refine OpsW.det (det_move rfl) rfl ?_
    refine OpsW.add64 (e := 0) rfl rfl rfl (by first | assumption | exact lim_lt _ _ | decide) (by first | assumption | exact lim_lt _ _ | decide) (by first | assumption | decide) rfl fun s149 c149 he149 hs149 hk149 => ?_
    refine OpsW.det (det_move rfl) rfl ?_
    refine OpsW.det (det_extract rfl rfl) rfl ?_
    refine OpsW.det (det_extract rfl rfl) rfl ?_
    refine OpsW.det (det_assign rfl) rfl ?_
    refine OpsW.det (det_assign rfl) rfl ?_
    refine sNext ?_
    refine W.keep (F' := [(17, _), (20, _), (15, _), (18, _), (16, _), (5, _), (19, _), (14, _), (36, _), (35, _), (8, _), (9, _), (10, _), (11, _), (12, _), (4, _)]) ⟨rfl, rfl, rfl, rfl, rfl, rfl, rfl, rfl, rfl, rfl, rfl, rfl, rfl, rfl, rfl, rfl, trivial⟩ ?_
    refine sSeq ?_
    refine W.region ?_
    refine OpsW.det (det_move rfl) rfl ?_
    refine OpsW.det (det_move rfl) rfl ?_
    refine OpsW.addw rfl rfl (hi_lt hk143 hk149) rfl fun s154 he154 => ?_
    refine OpsW.det (det_assign rfl) rfl ?_
    refine sNext ?_
    refine W.keep (F' := [(15, _), (20, _), (18, _), (16, _), (5, _), (19, _), (14, _), (36, _), (35, _), (8, _), (9, _), (10, _), (11, _), (12, _), (4, _)]) ⟨rfl, rfl, rfl, rfl, rfl, rfl, rfl, rfl, rfl, rfl, rfl, rfl, rfl, rfl, rfl, trivial⟩ ?_
    refine sSeq ?_
    refine W.region ?_
    refine OpsW.det (det_move rfl) rfl ?_
    refine OpsW.det (det_move rfl) rfl ?_
    refine OpsW.add64 (e := 0) rfl rfl rfl (by first | assumption | exact lim_lt _ _ | decide) (by first | assumption | exact lim_lt _ _ | decide) (by first | assumption | decide) rfl fun s158 c158 he158 hs158 hk158 => ?_
    refine OpsW.det (det_move rfl) rfl ?_
    refine OpsW.det (det_extract rfl rfl) rfl ?_
    refine OpsW.det (det_extract rfl rfl) rfl ?_
    refine OpsW.det (det_assign rfl) rfl ?_
    refine OpsW.det (det_assign rfl) rfl ?_
    refine sNext ?_
    refine W.keep (F' := [(17, _), (6, _), (15, _), (18, _), (5, _), (19, _), (14, _), (36, _), (35, _), (8, _), (9, _), (10, _), (11, _), (12, _), (4, _)]) ⟨rfl, rfl, rfl, rfl, rfl, rfl, rfl, rfl, rfl, rfl, rfl, rfl, rfl, rfl, rfl, trivial⟩ ?_
    refine sSeq ?_
    refine W.region ?_
    refine OpsW.det (det_move rfl) rfl ?_
    refine OpsW.det (det_move rfl) rfl ?_
    refine OpsW.addw rfl rfl (col_lt hs55 (by decide) hF1 hs135 he143 he149 he154 he158) rfl fun s163 he163 => ?_
    have F2 := col he143 he149 he154 he158 he163
    have hF2 : s163 < 18446744073709551616 := by rw [he163]; exact col_lt hs55 (by decide) hF1 hs135 he143 he149 he154 he158
    clear he143 he149 he154 he158 he163
    refine OpsW.det (det_assign rfl) rfl ?_
    refine sNext ?_
    refine W.keep (F' := [(21, _), (6, _), (18, _), (5, _), (19, _), (14, _), (36, _), (35, _), (8, _), (9, _), (10, _), (11, _), (12, _), (4, _)]) ⟨rfl, rfl, rfl, rfl, rfl, rfl, rfl, rfl, rfl, rfl, rfl, rfl, rfl, rfl, trivial⟩ ?_
    refine sSeq ?_
    refine W.region ?_
    refine OpsW.det (det_move rfl) rfl ?_
    refine OpsW.det (det_move rfl) rfl ?_
    refine OpsW.mul64 rfl rfl (by first | assumption | exact lim_lt _ _ | decide) (by first | assumption | exact lim_lt _ _ | decide) rfl fun hi167 lo167 he167 hs167 hk167 => ?_
    refine OpsW.det (det_move rfl) rfl ?_
    refine OpsW.det (det_extract rfl rfl) rfl ?_
    refine OpsW.det (det_extract rfl rfl) rfl ?_
    refine OpsW.det (det_assign rfl) rfl ?_
    refine OpsW.det (det_assign rfl) rfl ?_
    refine sNext ?_
    refine W.keep (F' := [(16, _), (15, _), (21, _), (6, _), (18, _), (5, _), (19, _), (36, _), (35, _), (8, _), (9, _), (10, _), (11, _), (12, _), (4, _)]) ⟨rfl, rfl, rfl, rfl, rfl, rfl, rfl, rfl, rfl, rfl, rfl, rfl, rfl, rfl, rfl, trivial⟩ ?_
    refine sSeq ?_
    refine W.region ?_
    refine OpsW.det (det_move rfl) rfl ?_
    refine OpsW.det (det_move rfl) rfl ?_
    refine OpsW.add64 (e := 0) rfl rfl rfl (by first | assumption | exact lim_lt _ _ | decide) (by first | assumption | exact lim_lt _ _ | decide) (by first | assumption | decide) rfl fun s173 c173 he173 hs173 hk173 => ?_
    refine OpsW.det (det_move rfl) rfl ?_
    refine OpsW.det (det_extract rfl rfl) rfl ?_
    refine OpsW.det (det_extract rfl rfl) rfl ?_
    refine OpsW.det (det_assign rfl) rfl ?_
    refine OpsW.det (det_assign rfl) rfl ?_
    refine sNext ?_
    refine W.keep (F' := [(17, _), (16, _), (15, _), (21, _), (6, _), (5, _), (19, _), (36, _), (35, _), (8, _), (9, _), (10, _), (11, _), (12, _), (4, _)]) ⟨rfl, rfl, rfl, rfl, rfl, rfl, rfl, rfl, rfl, rfl, rfl, rfl, rfl, rfl, rfl, trivial⟩ ?_
    refine sSeq ?_
    refine W.region ?_
    refine OpsW.det (det_move rfl) rfl ?_
    refine OpsW.det (det_move rfl) rfl ?_
    refine OpsW.addw rfl rfl (hi_lt hk167 hk173) rfl fun s178 he178 => ?_
    refine OpsW.det (det_assign rfl) rfl ?_
    refine sNext ?_
    refine W.keep (F' := [(15, _), (16, _), (21, _), (6, _), (5, _), (19, _), (36, _), (35, _), (8, _), (9, _), (10, _), (11, _), (12, _), (4, _)]) ⟨rfl, rfl, rfl, rfl, rfl, rfl, rfl, rfl, rfl, rfl, rfl, rfl, rfl, rfl, trivial⟩ ?_
    refine sSeq ?_
    refine W.region ?_
    refine OpsW.det (det_move rfl) rfl ?_
    refine OpsW.det (det_move rfl) rfl ?_
    refine OpsW.add64 (e := 0) rfl rfl rfl (by first | assumption | exact lim_lt _ _ | decide) (by first | assumption | exact lim_lt _ _ | decide) (by first | assumption | decide) rfl fun s182 c182 he182 hs182 hk182 => ?_
    refine OpsW.det (det_move rfl) rfl ?_
    refine OpsW.det (det_extract rfl rfl) rfl ?_
    refine OpsW.det (det_extract rfl rfl) rfl ?_
    refine OpsW.det (det_assign rfl) rfl ?_
    refine OpsW.det (det_assign rfl) rfl ?_
    refine sNext ?_
    refine W.keep (F' := [(17, _), (16, _), (15, _), (21, _), (6, _), (5, _), (19, _), (36, _), (35, _), (9, _), (10, _), (11, _), (12, _), (4, _)]) ⟨rfl, rfl, rfl, rfl, rfl, rfl, rfl, rfl, rfl, rfl, rfl, rfl, rfl, rfl, trivial⟩ ?_
    refine sSeq ?_
    refine W.region ?_
    refine OpsW.det (det_move rfl) rfl ?_
    refine OpsW.det (det_move rfl) rfl ?_
    refine OpsW.addw rfl rfl (col_lt (lim_lt _ _) hy hG2 ht3 he167 he173 he178 he182) rfl fun s187 he187 => ?_
    have E3 := col he167 he173 he178 he182 he187
    have hG3 : s187 < 18446744073709551616 := by rw [he187]; exact col_lt (lim_lt _ _) hy hG2 ht3 he167 he173 he178 he182
    clear he167 he173 he178 he182 he187
    refine OpsW.det (det_assign rfl) rfl ?_
    refine sNext ?_
    refine W.keep (F' := [(18, _), (16, _), (21, _), (6, _), (5, _), (19, _), (36, _), (35, _), (9, _), (10, _), (11, _), (12, _), (4, _)]) ⟨rfl, rfl, rfl, rfl, rfl, rfl, rfl, rfl, rfl, rfl, rfl, rfl, rfl, trivial⟩ ?_
    refine sSeq ?_
    refine W.region ?_
    refine OpsW.det (det_move rfl) rfl ?_
    refine OpsW.mul64 (b := 8353516859464449352) rfl rfl (by first | assumption | exact lim_lt _ _ | decide) (by first | assumption | exact lim_lt _ _ | decide) rfl fun hi190 lo190 he190 hs190 hk190 => ?_
    refine OpsW.det (det_move rfl) rfl ?_
    refine OpsW.det (det_extract rfl rfl) rfl ?_
    refine OpsW.det (det_extract rfl rfl) rfl ?_
    refine OpsW.det (det_assign rfl) rfl ?_
    refine OpsW.det (det_assign rfl) rfl ?_
    refine sNext ?_
    refine W.keep (F' := [(20, _), (15, _), (18, _), (16, _), (21, _), (6, _), (5, _), (36, _), (35, _), (9, _), (10, _), (11, _), (12, _), (4, _)]) ⟨rfl, rfl, rfl, rfl, rfl, rfl, rfl, rfl, rfl, rfl, rfl, rfl, rfl, rfl, trivial⟩ ?_
    refine sSeq ?_
    refine W.region ?_
    refine OpsW.det (det_move rfl) rfl ?_
    refine OpsW.det (det_move rfl) rfl ?_
    refine OpsW.add64 (e := 0) rfl rfl rfl (by first | assumption | exact lim_lt _ _ | decide) (by first | assumption | exact lim_lt _ _ | decide) (by first | assumption | decide) rfl fun s196 c196 he196 hs196 hk196 => ?_
    refine OpsW.det (det_move rfl) rfl ?_
    refine OpsW.det (det_extract rfl rfl) rfl ?_
    refine OpsW.det (det_extract rfl rfl) rfl ?_
    refine OpsW.det (det_assign rfl) rfl ?_
    refine OpsW.det (det_assign rfl) rfl ?_
    refine sNext ?_
    refine W.keep (F' := [(17, _), (20, _), (15, _), (18, _), (16, _), (6, _), (5, _), (36, _), (35, _), (9, _), (10, _), (11, _), (12, _), (4, _)]) ⟨rfl, rfl, rfl, rfl, rfl, rfl, rfl, rfl, rfl, rfl, rfl, rfl, rfl, rfl, trivial⟩ ?_
    refine sSeq ?_
    refine W.region ?_
    refine OpsW.det (det_move rfl) rfl ?_
    refine OpsW.det (det_move rfl) rfl ?_
    refine OpsW.addw rfl rfl (hi_lt hk190 hk196) rfl fun s201 he201 => ?_
    refine OpsW.det (det_assign rfl) rfl ?_
    refine sNext ?_
    refine W.keep (F' := [(15, _), (20, _), (18, _), (16, _), (6, _), (5, _), (36, _), (35, _), (9, _), (10, _), (11, _), (12, _), (4, _)]) ⟨rfl, rfl, rfl, rfl, rfl, rfl, rfl, rfl, rfl, rfl, rfl, rfl, rfl, trivial⟩ ?_
    refine sSeq ?_
    refine W.region ?_
    refine OpsW.det (det_move rfl) rfl ?_
    refine OpsW.det (det_move rfl) rfl ?_
    refine OpsW.add64 (e := 0) rfl rfl rfl (by first | assumption | exact lim_lt _ _ | decide) (by first | assumption | exact lim_lt _ _ | decide) (by first | assumption | decide) rfl fun s205 c205 he205 hs205 hk205 => ?_
    refine OpsW.det (det_move rfl) rfl ?_
    refine OpsW.det (det_extract rfl rfl) rfl ?_
    refine OpsW.det (det_extract rfl rfl) rfl ?_
    refine OpsW.det (det_assign rfl) rfl ?_
    refine OpsW.det (det_assign rfl) rfl ?_
    refine sNext ?_
    refine W.keep (F' := [(17, _), (7, _), (15, _), (18, _), (6, _), (5, _), (36, _), (35, _), (9, _), (10, _), (11, _), (12, _), (4, _)]) ⟨rfl, rfl, rfl, rfl, rfl, rfl, rfl, rfl, rfl, rfl, rfl, rfl, rfl, trivial⟩ ?_
    refine sSeq ?_
    refine W.region ?_
    refine OpsW.det (det_move rfl) rfl ?_
    refine OpsW.det (det_move rfl) rfl ?_
    refine OpsW.addw rfl rfl (col_lt hs55 (by decide) hF2 hs182 he190 he196 he201 he205) rfl fun s210 he210 => ?_
    have F3 := col he190 he196 he201 he205 he210
    have hF3 : s210 < 18446744073709551616 := by rw [he210]; exact col_lt hs55 (by decide) hF2 hs182 he190 he196 he201 he205
    clear he190 he196 he201 he205 he210
    refine OpsW.det (det_assign rfl) rfl ?_
    refine sNext ?_
    refine W.keep (F' := [(21, _), (7, _), (18, _), (6, _), (5, _), (36, _), (35, _), (9, _), (10, _), (11, _), (12, _), (4, _)]) ⟨rfl, rfl, rfl, rfl, rfl, rfl, rfl, rfl, rfl, rfl, rfl, rfl, trivial⟩ ?_
    refine W.region ?_
    refine OpsW.det (det_move rfl) rfl ?_
    refine OpsW.det (det_move rfl) rfl ?_
    refine OpsW.addw rfl rfl (top_rr E0 E1 E2 E3 F0 F1 F2 F3 hT hXv hy hs55) rfl fun s213 he213 => ?_
    have hl213 : s213 < 18446744073709551616 := by rw [he213]; exact (top_rr E0 E1 E2 E3 F0 F1 F2 F3 hT hXv hy hs55)
    refine OpsW.det (det_assign rfl) rfl ?_
    refine sLast ?_
    refine bNext ?_
    refine W.keep (F' := [(8, _), (7, _), (6, _), (5, _), (36, _), (35, _), (9, _), (10, _), (11, _), (12, _), (4, _)]) ⟨rfl, rfl, rfl, rfl, rfl, rfl, rfl, rfl, rfl, rfl, rfl, trivial⟩ ?_
    refine W.region ?_
    refine OpsW.det (det_addN (b := 1) rfl rfl (idx_ok hlt (by decide))) rfl ?_
    refine OpsW.det (det_move rfl) rfl ?_
    refine sLast ?_
    have hS := sum_rr E0 E1 E2 E3 F0 F1 F2 F3 he213
    rw [val_lim4 (m := X) (Nat.lt_trans hX (by decide))] at hS
    exact rEnd (i + 1, s111, s158, s205, s213) ⟨hlt, hs111, hs158, hs205, hl213, _, inv_lt hM hs55, inv_step hI hS⟩ ⟨rfl, rfl, rfl, rfl, rfl, rfl, rfl, rfl, rfl, rfl, rfl, trivial⟩ (List.Sublist.refl _) (step_lt hlt)
  · skip
    have hi6 : i = 4 := by simp only [decide_eq_false_iff_not] at hc37; omega
    subst hi6
    have hE := end_rr hI hY
    refine sExit ?_
    refine xLoop ?_
    refine xHere ?_
    refine W.keep (F' := [(5, _), (6, _), (7, _), (8, _), (4, _)]) ⟨rfl, rfl, rfl, rfl, rfl, trivial⟩ ?_
    refine sSeq ?_
    refine W.region ?_
    refine OpsW.det (det_move rfl) rfl ?_
    refine OpsW.det (det_move rfl) rfl ?_
    refine OpsW.det (det_move rfl) rfl ?_
    refine OpsW.det (det_move rfl) rfl ?_
    refine OpsW.det (det_build rfl bld33) rfl ?_
    refine OpsW.det (det_call en66 rfl (fun w hb ho => rreduce_ws ht0 ht1 ht2 ht3 hT ho.blocks)) rfl ?_
    refine OpsW.det (det_build rfl bld35) rfl ?_
    refine OpsW.store sz35 rfl rfl rfl rfl rfl (Upd.here) rfl ?_
    refine sNext ?_
    refine W.keep (F' := [(4, _)]) ⟨rfl, trivial⟩ ?_
    refine sRet ?_
    exact done1 Tryd.results30 (rv_cellA ty35 rfl (List.Mem.head _) rfl) (congrArg enc4 hE)

end Go.Cu

/- The scalars: what the functions compute: the walks. Conditions: none. -/
namespace Go.Cu
open Go Go.Vm Go.RowKit Go.Proofs 
attribute [local irreducible] W OpsW Det Fresh New Writes Vm.Pure Makes Changes ExternTo BuildTo ZeroTo FieldTo IndexTo BinTo SliceTo Vm.Enters
set_option linter.unusedVariables false
set_option linter.unusedSimpArgs false
variable {T : Nat → TypeId × Nat × Nat}

theorem montr_mul (x y : Fs) : montr x * montr y * inv_rr % rr = montr (x * y) := by
  unfold montr
  rw [Zp.mul_val, Nat.mul_mod, ← Nat.mul_mod (x.val * R4), ← Nat.mul_mod, Nat.mod_mul_mod,
    show x.val * R4 * (y.val * R4) * inv_rr = x.val * y.val * R4 * (R4 * inv_rr) from by ac_rfl, Nat.mul_mod, show R4 * inv_rr % rr = 1 from by decide +kernel, Nat.mul_one, Nat.mod_mod]
theorem montr_add (x y : Fs) : (montr x + montr y) % rr = montr (x + y) := by
  unfold montr
  rw [Zp.add_val, ← Nat.add_mod, ← Nat.add_mul, Nat.mod_mul_mod]
theorem montr_sub (x y : Fs) : (montr x + (rr - montr y)) % rr = montr (x - y) := by
  unfold montr
  rw [Zp.sub_val, Nat.mod_mul_mod]
  have h1 := Nat.mod_lt (y.val * R4) rr_pos
  have h2 := Nat.div_add_mod (y.val * R4) rr
  have hy := y.lt
  have h3 : (x.val + (rr - y.val)) * R4 + rr * (y.val * R4 / rr) = (x.val * R4 + (rr - y.val * R4 % rr)) + rr * (R4 - 1) := by
    have : (rr - y.val) * R4 + y.val * R4 = rr * R4 := by rw [← Nat.add_mul, Nat.sub_add_cancel (Nat.le_of_lt hy)]
    have h5 : rr * R4 = rr * (R4 - 1) + rr := by rw [← Nat.mul_succ]; rfl
    rw [Nat.add_mul]
    generalize rr * (R4 - 1) = z at *
    omega
  have h4 := congrArg (· % rr) h3
  simp only [Nat.add_mul_mod_self_left] at h4
  rw [h4, Nat.add_mod, Nat.mod_mod, ← Nat.add_mod]
theorem RAdd_ok {x y : Fs} {w : World} (hG : Blocks (GH T) w) : Vm.Pure Tryd.prog 28 #[encR x, encR y] w (encR (x + y)) := (RAdd_w_ok (S := montr x + montr y) rfl (montr_lt x) (montr_lt y) hG).same (congrArg enc4 (montr_add x y))
theorem RSub_ok {x y : Fs} {w : World} (hG : Blocks (GH T) w) : Vm.Pure Tryd.prog 64 #[encR x, encR y] w (encR (x - y)) :=
  (RSub_w_ok (D := montr x + R4 - montr y) (E := montr x + R4 - montr y + rr) (Nat.sub_add_cancel (Nat.le_trans (Nat.le_of_lt (Nat.lt_trans (montr_lt y) (by decide))) (Nat.le_add_left R4 (montr x)))) rfl (montr_lt x) (montr_lt y) hG).same (congrArg enc4 (montr_sub x y))
theorem RMul_ok {x y : Fs} {w : World} (hG : Blocks (GH T) w) : Vm.Pure Tryd.prog 30 #[encR x, encR y] w (encR (x * y)) := (RMul_w_ok (montr_lt x) (montr_lt y) hG).same (congrArg enc4 (montr_mul x y))
theorem rof_words {n : Nat} (h : n < 18446744073709551616) : enc4 n = .agg #[u64 n, .int .u64 0, .int .u64 0, .int .u64 0] := by
  have := lim4 h (by decide : 0 < 18446744073709551616) (by decide : 0 < 18446744073709551616) (by decide : 0 < 18446744073709551616)
  have hv : val4 n 0 0 0 = n := by simp [val4]
  rw [hv] at this
  exact this
def R44 : Nat := val4 14526898881837571181 3129137299524312099 419701826671360399 524908885293268753
theorem ROf_call {n : Nat} {w : World} (hn : n < 18446744073709551616) (hG : Blocks (GH T) w) : Vm.Pure Tryd.prog 30 #[.agg #[u64 n, .int .u64 0, .int .u64 0, .int .u64 0], .agg glo0.toArray] w (encR (Zp.of n)) := by
  have h := RMul_w_ok (X := n) (Y := R44) (Nat.lt_trans hn (by decide)) (by decide) hG
  rw [← rof_words hn]
  refine h.same (congrArg enc4 ?_)
  unfold montr
  show _ = (n % rr) * R4 % rr
  rw [Nat.mod_mul_mod, Nat.mul_assoc, Nat.mul_mod, show R44 * inv_rr % rr = R4 % rr from by decide +kernel, ← Nat.mul_mod]
theorem RPlain_call {x : Fs} {w : World} (hG : Blocks (GH T) w) : Vm.Pure Tryd.prog 30 #[encR x, .agg #[u64 1, .int .u64 0, .int .u64 0, .int .u64 0]] w (enc4 x.val) := by
  have h := RMul_w_ok (X := montr x) (Y := 1) (montr_lt x) (by decide) hG
  rw [← rof_words (n := 1) (by decide)]
  refine h.same (congrArg enc4 ?_)
  unfold montr
  rw [Nat.mul_one, Nat.mod_mul_mod, Nat.mul_assoc, Nat.mul_mod, show R4 * inv_rr % rr = 1 from by decide +kernel, Nat.mul_one, Nat.mod_mod, Nat.mod_eq_of_lt x.lt]
theorem zR : (.agg #[.int .u64 0, .int .u64 0, .int .u64 0, .int .u64 0] : Value) = encR 0 := by kernel_rfl

theorem bld33_0 {v0 : Int} : BuildTo Tryd.prog 33 [(0, .int .u64 v0)] (.agg #[.int .u64 v0, .int .u64 0, .int .u64 0, .int .u64 0]) := BuildTo.of fun _ => by kernel_rfl
theorem bz35 : ZeroTo Tryd.prog 35 (encR 0) := ZeroTo.of fun _ => by kernel_rfl
theorem en30 : Vm.Enters Tryd.prog 30 := Vm.Enters.of fun _ _ => by kernel_rfl
theorem en64 : Vm.Enters Tryd.prog 64 := Vm.Enters.of fun _ _ => by kernel_rfl
theorem ROf_ok {n : Nat} (hn : n < 18446744073709551616) {w : World} (hG : Blocks (GH T) w)  : Vm.Pure Tryd.prog 26 #[u64 n] w (encR (Zp.of n)) := by
  refine pure_of_W (n := 9) (args := [u64 n]) Tryd.func26 rfl Tryd.ntmps26 (Nat.le_of_ble_eq_true rfl) hG ?_
  refine sStart ?_
  refine sSeq ?_
  refine W.region ?_
  refine OpsW.fresh (fr_alloc z35) rfl fun b2 => ?_
  refine sNext ?_
  refine sSeq ?_
  refine W.region ?_
  refine OpsW.det (det_move rfl) rfl ?_
  refine OpsW.det (det_build rfl bld33_0) rfl ?_
  refine OpsW.det (det_build rfl bld35) rfl ?_
  refine OpsW.det (det_loadA_ro ty33 rfl (List.Mem.head _) rfl) rfl ?_
  refine OpsW.det (det_build rfl bld35) rfl ?_
  refine OpsW.det (det_call en30 rfl (fun w hb ho => ROf_call hn ho.blocks)) rfl ?_
  refine OpsW.store sz35 rfl rfl rfl rfl rfl (Upd.here) rfl ?_
  refine sNext ?_
  refine W.keep (F' := [(2, _)]) ⟨rfl, trivial⟩ ?_
  refine sRet ?_
  exact done1 Tryd.results26 (rv_cellA ty35 rfl (List.Mem.head _) rfl) rfl
theorem RNeg_ok {x : Fs} {w : World} (hG : Blocks (GH T) w)  : Vm.Pure Tryd.prog 27 #[encR x] w (encR (0 - x)) := by
  refine pure_of_W (n := 6) (args := [encR x]) Tryd.func27 rfl Tryd.ntmps27 (Nat.le_of_ble_eq_true rfl) hG ?_
  refine sStart ?_
  refine sSeq ?_
  refine W.region ?_
  refine OpsW.fresh (fr_box rfl rfl) rfl fun b1 => ?_
  refine OpsW.fresh (fr_alloc z35) rfl fun b2 => ?_
  refine sNext ?_
  refine W.keep (F' := [(2, _), (1, _)]) ⟨rfl, rfl, trivial⟩ ?_
  refine sSeq ?_
  refine W.region ?_
  refine OpsW.det (det_zero bz35) rfl ?_
  refine OpsW.det (det_loadA ty35 rfl (List.Mem.tail _ (List.Mem.head _)) rfl) rfl ?_
  refine OpsW.det (det_call en64 rfl (fun w hb ho => Cu.RSub_ok ho.blocks)) rfl ?_
  refine OpsW.store sz35 rfl rfl rfl rfl rfl (Upd.here) rfl ?_
  refine sNext ?_
  refine W.keep (F' := [(2, _)]) ⟨rfl, trivial⟩ ?_
  refine sRet ?_
  exact done1 Tryd.results27 (rv_cellA ty35 rfl (List.Mem.head _) rfl) rfl
theorem fld35 {a b c d : Int} : FieldTo Tryd.prog 35 (.agg #[.int .u64 a, .int .u64 b, .int .u64 c, .int .u64 d]) 0 (.agg #[.int .u64 a, .int .u64 b, .int .u64 c, .int .u64 d]) := FieldTo.of fun _ => by kernel_rfl
theorem RPlain_ok {x : Fs} {w : World} (hG : Blocks (GH T) w)  : Vm.Pure Tryd.prog 71 #[encR x] w (enc4 x.val) := by
  refine pure_of_W (n := 8) (args := [encR x]) Tryd.func71 rfl Tryd.ntmps71 (Nat.le_of_ble_eq_true rfl) hG ?_
  refine sStart ?_
  refine sSeq ?_
  refine W.region ?_
  refine OpsW.fresh (fr_box rfl rfl) rfl fun b1 => ?_
  refine OpsW.fresh (fr_alloc z33) rfl fun b2 => ?_
  refine sNext ?_
  refine W.keep (F' := [(2, _), (1, _)]) ⟨rfl, rfl, trivial⟩ ?_
  refine sSeq ?_
  refine W.region ?_
  refine OpsW.det (det_loadA ty35 rfl (List.Mem.tail _ (List.Mem.head _)) rfl) rfl ?_
  refine OpsW.det (det_build rfl bld33_0) rfl ?_
  refine OpsW.det (det_build rfl bld35) rfl ?_
  refine OpsW.det (det_call en30 rfl (fun w hb ho => RPlain_call ho.blocks)) rfl ?_
  refine OpsW.det (det_field rfl fld35) rfl ?_
  refine OpsW.store sz33 rfl rfl rfl rfl rfl (Upd.here) rfl ?_
  refine sNext ?_
  refine W.keep (F' := [(2, _)]) ⟨rfl, trivial⟩ ?_
  refine sRet ?_
  exact done1 Tryd.results71 (rv_cellA ty33 rfl (List.Mem.head _) rfl) rfl
theorem en27 : Vm.Enters Tryd.prog 27 := Vm.Enters.of fun _ _ => by kernel_rfl

end Go.Cu

/- The scalars: their bytes: the walks. Conditions: none. -/
namespace Go.Cu
open Go Go.Vm Go.RowKit Go.Proofs 
attribute [local irreducible] W OpsW Det Fresh New Writes Vm.Pure Makes Changes ExternTo BuildTo ZeroTo FieldTo IndexTo BinTo SliceTo Vm.Enters
set_option linter.unusedVariables false
set_option linter.unusedSimpArgs false
variable {T : Nat → TypeId × Nat × Nat}

/-- Byte j of x, the lowest first. -/
def byt (x j : Nat) : Nat := x / 256 ^ j % 256
def u8 (n : Nat) : Value := .int .u8 (n : Int)
/-- The bytes of x from the n-th down to the k-th. -/
def bytes (x n : Nat) : Nat → List Value
  | 0 => []
  | k + 1 => bytes x n k ++ [u8 (byt x (n - 1 - k))]
theorem bytes_len (x n k : Nat) : (bytes x n k).length = k := by
  induction k with
  | zero => rfl
  | succ k ih => simp [bytes, ih]
theorem slice22 {v : Int} : SliceTo Tryd.prog 22 1 [(0, .int .u8 v)] [.int .u8 v] 5 := SliceTo.of fun _ => by kernel_rfl
theorem wrap_u8 {a : Nat} : IntKind.u8.wrap (a : Int) = ((a % 256 : Nat) : Int) := by simp [IntKind.wrap, IntKind.signed, IntKind.bits]
theorem ty22 : TyS Tryd.prog 22 5 1 1 [.int .u8 0] := ⟨by kernel_rfl, by kernel_rfl, by kernel_rfl, ⟨.int .u8 0, by kernel_rfl, by kernel_rfl⟩, rfl, by decide⟩
theorem byt_eq (x i : Nat) : x / 2 ^ (8 * i) % 256 = byt x i := by unfold byt; rw [Nat.pow_mul]
theorem isSl_at {el s len : Nat} {v : Value} {hp : Hp} {xs : List Value} (h : IsSl el s v len hp xs) (h0 : 0 < len) : ∃ p : Prm, v = .slice (some ⟨p.1, 0, none⟩) len p.2.1 ∧ hp = [(p.1, blk (xs ++ p.2.2) el)] ∧ (xs ++ p.2.2).length = p.2.1 * s := by
  cases h with
  | nil => omega
  | at_ h1 h2 h3 => exact ⟨(_, _, _), rfl, rfl, h2⟩

theorem u25 : Tryd.prog.underlying 25 = some (.int .u64) := by kernel_rfl
theorem u5 : Tryd.prog.underlying 5 = some (.int .u8) := by kernel_rfl
theorem put_ok {x n : Nat} (hx : x < 18446744073709551616) (hn : 0 < n ∧ n ≤ 8) {w : World} (hG : Blocks (GH T) w)  : Makes Tryd.prog 72 #[.slice none 0 0, u64 x, .int .i64 (n : Nat)] w (fun p => .slice (some ⟨p.1, 0, none⟩) n p.2.1) (fun p => [(p.1, blk (bytes x n n ++ p.2.2) 5)]) (fun p => (bytes x n n ++ p.2.2).length = p.2.1 * 1) := by
  refine makes_of_W (n := 23) (args := [.slice none 0 0, u64 x, .int .i64 (n : Nat)]) Tryd.func72 rfl Tryd.ntmps72 (Nat.le_of_ble_eq_true rfl) hG ?_
  refine sStart ?_
  refine sSeq ?_
  refine W.region ?_
  refine OpsW.det (det_assign rfl) rfl ?_
  refine sNext ?_
  refine W.keep (F' := [(0, _), (1, _), (2, _)]) ⟨rfl, rfl, rfl, trivial⟩ ?_
  refine sSeq ?_
  refine sSeq ?_
  refine W.region ?_
  refine OpsW.det (det_move rfl) rfl ?_
  refine OpsW.det (det_subZ (c := ((n - 0 : Nat) : Int) - 1) rfl rfl (by omega) (by omega)) rfl ?_
  refine OpsW.det (det_assign rfl) rfl ?_
  refine sNext ?_
  refine W.keep (F' := [(7, _), (0, _), (1, _)]) ⟨rfl, rfl, rfl, trivial⟩ ?_
  refine sBlock ?_
  refine sLoop (σ := Nat × Value × Hp) (fun s => [(7, .int .i64 (((n - s.1 : Nat) : Int) - 1)), (1, u64 x), (0, s.2.1)]) (fun s => s.2.2) (fun s => s.1 ≤ n ∧ IsSl 5 1 s.2.1 s.1 s.2.2 (bytes x n s.1)) (fun s => n - s.1) (0, .slice none 0 0, []) ⟨Nat.zero_le _, .nil⟩ ⟨rfl, rfl, rfl, trivial⟩ (List.Sublist.refl _) ?_
  rintro ⟨k, v, hp⟩ ⟨hk, hsl⟩
  change IsSl 5 1 v k hp (bytes x n k) at hsl
  change k ≤ n at hk
  refine W.norm (F' := [(7, .int .i64 (((n - k : Nat) : Int) - 1)), (1, u64 x), (0, v)]) (H' := hp) rfl rfl ?_
  refine sSeq ?_
  refine sSeq ?_
  refine W.region ?_
  refine OpsW.det (det_move rfl) rfl ?_
  refine OpsW.det (det_geq rfl rfl) rfl ?_
  refine sNext ?_
  refine W.keep (F' := [(11, _), (7, _), (1, _), (0, _)]) ⟨rfl, rfl, rfl, rfl, trivial⟩ ?_
  refine W.cond rfl (fun hc11 => ?_) (fun hc11 => ?_)
  · skip
    have hkn : k < n := by have h := hc11; simp only [decide_eq_true_eq] at h; omega
    refine W.norm (F' := [(11, _), (7, .int .i64 ((n - 1 - k : Nat) : Int)), (1, u64 x), (0, v)]) (H' := hp) (by rw [show ((n - k : Nat) : Int) - 1 = ((n - 1 - k : Nat) : Int) by omega]) rfl ?_
    refine sSkip ?_
    refine sSeq ?_
    refine sBlock ?_
    refine W.region ?_
    refine OpsW.det (det_move rfl) rfl ?_
    refine OpsW.det (det_move rfl) rfl ?_
    refine OpsW.det (det_move rfl) rfl ?_
    refine OpsW.det ((det_mul rfl rfl).to (v := .int .i64 ((8 * (n - 1 - k) : Nat) : Int)) (by rw [wrap_i64 (by omega)]; congr 1)) rfl ?_
    refine OpsW.det (det_shrN rfl rfl (by omega)) rfl ?_
    refine OpsW.det ((det_conv u25 u5 rfl).to (v := u8 (byt x (n - 1 - k))) (by rw [wrap_u8, byt_eq]; rfl)) rfl ?_
    refine OpsW.fresh (fr_buildSlice rfl slice22) rfl fun b20 => ?_
    refine OpsW.perm (H' := hp ++ [(b20, blk [u8 (byt x (n - 1 - k))] 5)]) List.perm_append_comm ?_
    refine OpsW.append (dd := 21) ty22 rfl hsl rfl (.inl (List.mem_append_right _ (List.Mem.head _))) rfl (fun j u h => by simpa using h) rfl (by show k + 1 ≤ 9223372036854775807; omega) (by show (k + 1) * 1 ≤ 140737488355328; omega) rfl fun v' hp' hsl' => ?_
    refine OpsW.det (det_assign rfl) rfl ?_
    refine sLast ?_
    refine bNext ?_
    refine W.keep (F' := [(0, _), (7, _), (1, _)]) ⟨rfl, rfl, rfl, trivial⟩ ?_
    refine W.region ?_
    refine OpsW.det (det_move rfl) rfl ?_
    refine OpsW.det (det_subZ (c := ((n - (k + 1) : Nat) : Int) - 1) rfl rfl (by omega) (by omega)) rfl ?_
    refine OpsW.det (det_assign rfl) rfl ?_
    refine sLast ?_
    exact rEnd (k + 1, v', hp') ⟨by omega, hsl'⟩ ⟨rfl, rfl, rfl, trivial⟩ (List.sublist_append_left _ _) (by show n - (k + 1) < n - k; omega)
  · skip
    have hkn : k = n := by have h := hc11; simp only [decide_eq_false_iff_not] at h; omega
    subst hkn
    obtain ⟨p, rfl, rfl, hpp⟩ := isSl_at hsl hn.1
    refine sExit ?_
    refine xLoop ?_
    refine xHere ?_
    refine W.keep (F' := [(0, _)]) ⟨rfl, trivial⟩ ?_
    refine sSeq ?_
    refine W.region ?_
    refine OpsW.det (det_move rfl) rfl ?_
    refine OpsW.det (det_assign rfl) rfl ?_
    refine sNext ?_
    refine W.keep (F' := [(6, _)]) ⟨rfl, trivial⟩ ?_
    refine sRet ?_
    exact done1 Tryd.results72 (rv_tmp rfl) ⟨p, hpp, rfl, List.Sublist.refl _⟩

end Go.Cu

/- The scalars: how they are written: the walk. Conditions: none. -/
namespace Go.Cu
open Go Go.Vm Go.RowKit Go.Proofs 
attribute [local irreducible] W OpsW Det Fresh New Writes Vm.Pure Makes Changes ExternTo BuildTo ZeroTo FieldTo IndexTo BinTo SliceTo Vm.Enters
set_option linter.unusedVariables false
set_option linter.unusedSimpArgs false
variable {T : Nat → TypeId × Nat × Nat}

theorem over_app : ∀ {new c : List Value}, new.length ≤ c.length → over new c = some (new ++ c.drop new.length)
  | [], c, _ => by simp [over]
  | v :: new, [], h => by simp at h
  | v :: new, x :: c, h => by
    have := over_app (new := new) (c := c) (by simpa using h)
    simp [over, this]
theorem splice_app {new c : List Value} (h : new.length ≤ c.length) : ∀ {a : List Value}, splice a.length new (a ++ c) = some (a ++ new ++ c.drop new.length)
  | [] => by simpa [splice] using over_app h
  | x :: a => by
    have := splice_app h (a := a)
    simp [splice, this]
theorem byt_lim {V w j : Nat} (hj : j < 8) : byt (lim V w) j = byt V (8 * w + j) := by
  unfold byt lim
  have h1 : 18446744073709551616 ^ w = 256 ^ (8 * w) := by rw [Nat.pow_mul]
  have h2 : (18446744073709551616 : Nat) = 256 ^ j * 256 ^ (8 - j) := by rw [← Nat.pow_add, show j + (8 - j) = 8 by omega]
  rw [h1, h2, Nat.mod_mul_right_div_self, Nat.div_div_eq_div_mul, ← Nat.pow_add]
  exact Nat.mod_mod_of_dvd _ (by rw [show 8 - j = (7 - j) + 1 by omega, Nat.pow_succ]; exact Nat.dvd_mul_left _ _)
theorem bytes_more (x n k : Nat) : ∀ j, bytes x n (k + j) = bytes x n k ++ (List.range j).map fun i => u8 (byt x (n - 1 - (k + i)))
  | 0 => by simp
  | j + 1 => by rw [← Nat.add_assoc, bytes, bytes_more x n k j, List.range_succ]; simp
theorem bytes_all (x n : Nat) : bytes x n n = (List.range n).map fun i => u8 (byt x (n - 1 - i)) := by
  have := bytes_more x n 0 n
  simpa [bytes] using this
theorem bytes_word {V i : Nat} (h : i < 4) : bytes V 32 (8 * i) ++ bytes (lim V (3 - i)) 8 8 = bytes V 32 (8 * (i + 1)) := by
  rw [Nat.mul_succ, bytes_more V 32 (8 * i) 8, bytes_all]
  congr 1
  refine List.map_congr_left fun j hj => ?_
  have hj : j < 8 := by simpa using hj
  rw [byt_lim (by omega)]
  congr 2
  omega
/-- The first i words' bytes, and noughts. -/
def bst (V i : Nat) : List Value := bytes V 32 (8 * i) ++ List.replicate (32 - 8 * i) (u8 0)
theorem bst_put {V i : Nat} (h : i < 4) : splice (8 * i) (bytes (lim V (3 - i)) 8 8) (bst V i) = some (bst V (i + 1)) := by
  have := splice_app (a := bytes V 32 (8 * i)) (new := bytes (lim V (3 - i)) 8 8) (c := List.replicate (32 - 8 * i) (u8 0)) (by rw [bytes_len, List.length_replicate]; omega)
  rw [bytes_len] at this
  unfold bst
  rw [this, bytes_word h, bytes_len, List.drop_replicate]
  congr 3
theorem bytes_one (x n k : Nat) : (bytes x n k).all (·.oneCell') = true := by
  induction k with
  | zero => rfl
  | succ k ih => rw [bytes, List.all_append, ih]; rfl
theorem u52 : Tryd.prog.underlying 52 = some (.array 32 5) := by kernel_rfl
theorem u22 : Tryd.prog.underlying 22 = some (.slice 5) := by kernel_rfl
theorem sz5 : sizeIn Tryd.prog 5 = some 1 := by kernel_rfl
theorem z52 : TyZ Tryd.prog 52 (.agg (bst 0 0).toArray) (bst 0 0) := ⟨fun _ => by kernel_rfl, by kernel_rfl⟩
theorem bst_4 {V : Nat} : bst V 4 = bytes V 32 32 := by unfold bst; simp
/-- How a scalar is written. -/
def rbytes (x : Fs) : List Value := bytes x.val 32 32
theorem rbytes_len (x : Fs) : (rbytes x).length = 32 := bytes_len _ _ _
theorem bst_len {V i : Nat} (h : i ≤ 4) : (bst V i).length = 32 := by unfold bst; rw [List.length_append, bytes_len, List.length_replicate]; omega
theorem cut_all : ∀ {n : Nat} {l : List Value}, l.length = n → takeN n l = some l
  | 0, l, h => by simp [takeN, List.eq_nil_of_length_eq_zero h]
  | n + 1, [], h => by simp at h
  | n + 1, c :: l, h => by simp [takeN, cut_all (n := n) (l := l) (by simpa using h)]
theorem splice_all {new c : List Value} (h : new.length = c.length) : splice 0 new c = some new := by
  have := splice_app (a := []) (new := new) (c := c) (by omega)
  simpa [h] using this
theorem bst_one {V i : Nat} : (bst V i).all (·.oneCell') = true := by
  unfold bst; rw [List.all_append, bytes_one, List.all_replicate]; simp; exact .inr rfl

theorem en71 : Vm.Enters Tryd.prog 71 := Vm.Enters.of fun _ _ => by kernel_rfl
theorem en72 : Vm.Enters Tryd.prog 72 := Vm.Enters.of fun _ _ => by kernel_rfl
theorem sz52 : sizeIn Tryd.prog 52 = some 32 := by kernel_rfl
theorem ty52 : TyA Tryd.prog 52 32 := ⟨by kernel_rfl, by kernel_rfl⟩
theorem RBytes_ok {x : Fs} {w : World} (hG : Blocks (GH T) w)  : Vm.Pure Tryd.prog 32 #[encR x] w (.agg (rbytes x).toArray) := by
  refine pure_of_W (n := 22) (args := [encR x]) Tryd.func32 rfl Tryd.ntmps32 (Nat.le_of_ble_eq_true rfl) hG ?_
  refine sStart ?_
  refine sSeq ?_
  refine W.region ?_
  refine OpsW.fresh (fr_box rfl rfl) rfl fun b1 => ?_
  refine OpsW.fresh (fr_alloc z52) rfl fun b2 => ?_
  refine sNext ?_
  refine W.keep (F' := [(2, _), (1, _)]) ⟨rfl, rfl, trivial⟩ ?_
  refine sSeq ?_
  refine W.region ?_
  refine OpsW.fresh (fr_alloc z52) rfl fun b3 => ?_
  refine sNext ?_
  refine sSeq ?_
  refine W.region ?_
  refine OpsW.det (det_loadA ty35 rfl (List.Mem.tail _ (List.Mem.tail _ (List.Mem.head _))) rfl) rfl ?_
  refine OpsW.det (det_call en71 rfl (fun w hb ho => Cu.RPlain_ok ho.blocks)) rfl ?_
  refine OpsW.fresh (fr_alloc z33) rfl fun b4 => ?_
  refine OpsW.store sz33 rfl rfl rfl rfl rfl (Upd.here) rfl ?_
  refine sNext ?_
  refine W.keep (F' := [(4, _), (3, _), (2, _)]) ⟨rfl, rfl, rfl, trivial⟩ ?_
  refine sSeq ?_
  refine sSeq ?_
  refine W.region ?_
  refine OpsW.det (det_move rfl) rfl ?_
  refine sNext ?_
  refine sBlock ?_
  refine sLoop (σ := Nat) (fun i => [(8, .int .i64 (i : Nat)), (4, .pointer (some ⟨b4, 0, none⟩)), (3, .pointer (some ⟨b3, 0, none⟩)), (2, .pointer (some ⟨b2, 0, none⟩))]) (fun i => [(b4, blk (w4 (lim x.val)) 33), (b3, blk (bst x.val i) 52), (b2, blk (bst 0 0) 52), (b1, blk (w4 (lim (montr x))) 35)]) (fun i => i ≤ 4) (fun i => 4 - i) 0 (by decide) ⟨rfl, rfl, rfl, rfl, trivial⟩ (List.Sublist.refl _) ?_
  intro i hi
  refine sSeq ?_
  refine W.region ?_
  refine OpsW.det (det_lss rfl rfl) rfl ?_
  refine sNext ?_
  refine sSeq ?_
  refine W.cond rfl (fun hc9 => ?_) (fun hc9 => ?_)
  · skip
    have hlt : i < 4 := by have h := hc9; simp only [decide_eq_true_eq] at h; omega
    refine sSkip ?_
    refine sSeq ?_
    refine sBlock ?_
    refine sSeq ?_
    refine W.region ?_
    refine OpsW.det (det_move rfl) rfl ?_
    refine OpsW.det (det_assign rfl) rfl ?_
    refine sNext ?_
    refine W.keep (F' := [(5, _), (8, _), (4, _), (3, _), (2, _)]) ⟨rfl, rfl, rfl, rfl, rfl, trivial⟩ ?_
    refine W.draw mixed 8 [[], [0], [0, 1], [], [3], [3, 4], [3, 4, 5], [3, 4, 5, 6], [0, 1, 2, 3, 4, 5, 6, 7]] (cl_lt (by decide)) ?_
    refine HeadR.start (cl_lt (by decide)) ?_
    refine HeadR.det rfl (fun β hβ => (det_move rfl)) ?_
    refine HeadR.det rfl (fun β hβ => ((det_mul rfl rfl).to (v := .int .i64 ((8 * i : Nat) : Int)) (by rw [wrap_i64 (by omega)]; congr 1))) ?_
    refine HeadR.det rfl (fun β hβ => ((det_sliceArr (lo := some (.tmp 12)) (hi := none) (l := 8 * i) (h := 32) u52 sz5 rfl ⟨_, rfl⟩ rfl (by omega) (by omega)).to (v := .slice (some ⟨b3, 8 * i, none⟩) (32 - 8 * i) (32 - 8 * i)) (by rw [if_neg (by omega)]; simp))) ?_
    refine HeadR.det rfl (fun β hβ => (det_move rfl)) ?_
    refine HeadR.det rfl (fun β hβ => (det_subZ (c := ((3 - i : Nat) : Int)) rfl rfl (by omega) (by omega))) ?_
    refine HeadR.det rfl (fun β hβ => (det_indexAddr_arr u33 sz25 rfl rfl ⟨by omega, by omega⟩)) ?_
    refine HeadR.det rfl (fun β hβ => (det_loadC ty25 rfl (List.Mem.head _) (at4 (f := lim x.val) (i := 3 - i) (by omega) (by omega)))) ?_
    refine HeadR.fresh rfl (fun β hβ => (new_call en72 rfl (fun w hb ho => put_ok (x := lim x.val (3 - i)) (n := 8) (lim_lt _ _) (by decide) ho.blocks))) ?_
    refine HeadR.done ⟨by kernel_rfl, fun β hβ => ?_⟩
    refine OpsW.norm (F' := [(11, _), (12, _), (13, _), (14, _), (15, _), (16, _), (17, _), (18, .slice (some ⟨(β 18).1, 0, none⟩) 8 (β 18).2.1), (5, _), (8, _), (4, _), (3, _), (2, _)]) (H' := [(_, _), (_, _), (_, _), (_, _), (_, _)]) rfl rfl ?_
    generalize β 18 = p18
    refine OpsW.copy u22 sz5 rfl rfl (.inl (List.Mem.head _)) (by rw [bytes_len]; show 8 = min 8 (32 - 8 * i); omega) (fun j u h => by rw [Nat.zero_add, List.getElem?_append_left (List.getElem?_eq_some_iff.1 h).1]; exact h) (bytes_one _ _ _) (Upd.there (Upd.there Upd.here)) (bst_put hlt) rfl ?_
    refine sLast ?_
    refine bNext ?_
    refine W.keep (F' := [(8, _), (4, _), (3, _), (2, _)]) ⟨rfl, rfl, rfl, rfl, trivial⟩ ?_
    refine W.region ?_
    refine OpsW.det (det_addN (b := 1) rfl rfl (idx_ok hlt (by decide))) rfl ?_
    refine OpsW.det (det_move rfl) rfl ?_
    refine sLast ?_
    exact rEnd (i + 1) hlt ⟨rfl, rfl, rfl, rfl, trivial⟩ (List.Sublist.cons _ (List.Sublist.refl _)) (step_lt hlt)
  · skip
    have hi4 : i = 4 := by have h := hc9; simp only [decide_eq_false_iff_not] at h; omega
    subst hi4
    refine sExit ?_
    refine xLoop ?_
    refine xHere ?_
    refine W.keep (F' := [(3, _), (2, _)]) ⟨rfl, rfl, trivial⟩ ?_
    refine sSeq ?_
    refine W.region ?_
    refine OpsW.det (det_loadA ty52 rfl (List.Mem.tail _ (List.Mem.head _)) (show cut 0 32 (bst x.val 4) = some (bst x.val 4) from cut_all (bst_len (Nat.le_refl _)))) rfl ?_
    refine OpsW.store sz52 rfl rfl rfl (bst_len (Nat.le_refl _)) bst_one (Upd.there (Upd.there (Upd.here))) (splice_all (by rw [bst_len (Nat.le_refl _), bst_len (Nat.zero_le _)])) ?_
    refine sNext ?_
    refine W.keep (F' := [(2, _)]) ⟨rfl, trivial⟩ ?_
    refine sRet ?_
    exact done1 Tryd.results32 (rv_cellA ty52 rfl (List.Mem.tail _ (List.Mem.tail _ (List.Mem.head _))) (show cut 0 32 (bst x.val 4) = some (bst x.val 4) from cut_all (bst_len (Nat.le_refl _)))) (congrArg (fun l : List Value => Value.agg l.toArray) bst_4)

end Go.Cu

/- The scalars: of any bytes: the walk. Conditions: none. -/
namespace Go.Cu
open Go Go.Vm Go.RowKit Go.Proofs 
attribute [local irreducible] W OpsW Det Fresh New Writes Vm.Pure Makes Changes ExternTo BuildTo ZeroTo FieldTo IndexTo BinTo SliceTo Vm.Enters
set_option linter.unusedVariables false
set_option linter.unusedSimpArgs false
variable {T : Nat → TypeId × Nat × Nat}

/-- v is a slice of the bytes l, which lie in a block of G'. -/
structure Bs (G' : Hp) (v : Value) (l : List Nat) : Prop where
  shape : ∃ ad cap, v = .slice ad l.length cap
  small : ∀ c ∈ l, c < 256
  all : 0 < l.length → ∃ (b o cap : Nat) (cs : List Value) (e : TypeId) (fr : Nat × Nat), v = .slice (some ⟨b, o, none⟩) l.length cap ∧ (b, Obj.cells cs.toArray e fr) ∈ G' ∧ l.length ≤ cap ∧ ∀ i (h : i < l.length), cs[o + i]? = some (u8 l[i])
theorem Bs.at_ {G' : Hp} {v : Value} {l : List Nat} (hB : Bs G' v l) (i : Nat) (h : i < l.length) : ∃ (b o cap : Nat) (cs : List Value) (e : TypeId) (fr : Nat × Nat), v = .slice (some ⟨b, o, none⟩) l.length cap ∧ (b, Obj.cells cs.toArray e fr) ∈ G' ∧ cs[o + i]? = some (u8 l[i]) := by
  obtain ⟨b, o, cap, cs, e, fr, h1, h2, _, h3⟩ := hB.all (by omega)
  exact ⟨b, o, cap, cs, e, fr, h1, h2, h3 i h⟩
theorem Bs.mono {G' G'' : Hp} {v : Value} {l : List Nat} (h : Bs G' v l) (hs : ∀ p ∈ G', p ∈ G'') : Bs G'' v l :=
  ⟨h.shape, h.small, fun i => by obtain ⟨b, o, cap, cs, e, fr, h1, h2, h3⟩ := h.all i; exact ⟨b, o, cap, cs, e, fr, h1, hs _ h2, h3⟩⟩
theorem blocks_cons {G : Hp} {w : World} {p : Nat × Obj} (h : w.heap[p.1]? = some p.2) (hG : Blocks G w) : Blocks (p :: G) w := fun q hq => by
  rcases List.mem_cons.1 hq with rfl | hq
  · exact h
  · exact hG q hq
theorem blocks_app {G G' : Hp} {w : World} (h : Blocks G w) (h' : Blocks G' w) : Blocks (G ++ G') w := fun q hq => (List.mem_append.1 hq).elim (h q) (h' q)
def bcells (l : List Nat) : List Value := l.map u8
theorem Bs.of {l : List Nat} {b cap : Nat} {spare : List Value} {e : TypeId} {fr : Nat × Nat} (hs : ∀ c ∈ l, c < 256) (hcap : l.length ≤ cap) : Bs [(b, .cells (bcells l ++ spare).toArray e fr)] (.slice (some ⟨b, 0, none⟩) l.length cap) l :=
  ⟨⟨_, _, rfl⟩, hs, fun _ => ⟨b, 0, cap, _, e, fr, rfl, List.mem_singleton.2 rfl, hcap, fun i hi => by rw [Nat.zero_add, List.getElem?_append_left (by simp [bcells]; exact hi)]; simp [bcells, hi]⟩⟩
/-- The number that bytes make, below the order. -/
def wide (l : List Nat) : Fs := l.foldl (fun x c => x * Zp.of 256 + Zp.of c) 0
theorem wide_step {l : List Nat} {i : Nat} (h : i < l.length) : wide (l.take (i + 1)) = wide (l.take i) * Zp.of 256 + Zp.of l[i] := by
  unfold wide
  rw [List.take_succ_eq_append_getElem h, List.foldl_append]
  rfl
theorem z35r : TyZ Tryd.prog 35 (encR 0) (w4 (lim (montr 0))) := ⟨fun _ => by kernel_rfl, rfl⟩
theorem conv_byte {c : Nat} (h : c < 256) : Value.int .u64 (IntKind.u64.wrap (c : Int)) = u64 c := by rw [wrap_u64 (by omega)]; rfl
/-- The first i bytes, and noughts. -/
def cst (l : List Nat) (i : Nat) : List Value := bcells (l.take i) ++ List.replicate (l.length - i) (u8 0)
theorem cst_put {l : List Nat} {i : Nat} (h : i < l.length) : splice i [u8 l[i]] (cst l i) = some (cst l (i + 1)) := by
  have := splice_app (a := bcells (l.take i)) (new := [u8 l[i]]) (c := List.replicate (l.length - i) (u8 0)) (by simp; omega)
  rw [show (bcells (l.take i)).length = i by simp [bcells]; omega] at this
  unfold cst
  rw [this, List.take_succ_eq_append_getElem h, List.drop_replicate]
  simp only [bcells, List.map_append, List.map_cons, List.map_nil, List.length_singleton]
  rw [Nat.sub_sub]
theorem cst_0 (l : List Nat) : zrep [.int .u8 0] l.length = cst l 0 := by
  unfold cst bcells
  simp only [List.take_zero, List.map_nil, List.nil_append, Nat.sub_zero]
  generalize l.length = n
  induction n with
  | zero => rfl
  | succ n ih => simp only [zrep, List.replicate_succ] at ih ⊢; first | exact congrArg _ ih | rw [ih]; rfl
theorem cst_all (l : List Nat) : cst l l.length = bcells l ++ [] := by unfold cst; simp [bcells]

theorem en26 : Vm.Enters Tryd.prog 26 := Vm.Enters.of fun _ _ => by kernel_rfl
theorem en28 : Vm.Enters Tryd.prog 28 := Vm.Enters.of fun _ _ => by kernel_rfl
theorem ty5 : TyC Tryd.prog 5 := ⟨by kernel_rfl, by kernel_rfl⟩
theorem Wide_ok {G' : Hp} {v : Value} {l : List Nat} (hB : Bs G' v l) (hl : l.length ≤ 9223372036854775806) {w : World} (hG : Blocks (G' ++ GH T) w)  : Vm.Pure Tryd.prog 50 #[v] w (encR (wide l)) := by
  obtain ⟨ad, cap, hvv⟩ := hB.shape
  refine pure_of_W (n := 23) (args := [v]) Tryd.func50 rfl Tryd.ntmps50 (Nat.le_of_ble_eq_true rfl) hG ?_
  refine sStart ?_
  refine sSeq ?_
  subst hvv
  refine W.region ?_
  refine OpsW.fresh (fr_alloc z35) rfl fun b2 => ?_
  refine sNext ?_
  refine sSeq ?_
  refine W.region ?_
  refine OpsW.fresh (fr_alloc z35r) rfl fun b3 => ?_
  refine sNext ?_
  refine sSeq ?_
  refine W.region ?_
  refine OpsW.det (det_call en26 rfl (fun w hb ho => ROf_ok (n := 256) (by decide) (fun p hp => ho.look (List.mem_append_right _ hp)))) rfl ?_
  refine OpsW.fresh (fr_alloc z35) rfl fun b4 => ?_
  refine OpsW.store sz35 rfl rfl rfl rfl rfl (Upd.here) rfl ?_
  refine sNext ?_
  refine W.keep (F' := [(4, _), (3, _), (2, _), (0, _)]) ⟨rfl, rfl, rfl, rfl, trivial⟩ ?_
  refine sSeq ?_
  refine sSeq ?_
  refine W.region ?_
  refine OpsW.det (det_move rfl) rfl ?_
  refine OpsW.det (det_len u22 rfl) rfl ?_
  refine OpsW.det (det_move rfl) rfl ?_
  refine sNext ?_
  refine W.keep (F' := [(10, _), (9, _), (8, _), (4, _), (3, _), (2, _)]) ⟨rfl, rfl, rfl, rfl, rfl, rfl, trivial⟩ ?_
  refine sBlock ?_
  refine sLoop (σ := Nat) (fun i => [(10, .int .i64 (i : Nat)), (9, .int .i64 (l.length : Nat)), (8, .slice ad l.length cap), (4, .pointer (some ⟨b4, 0, none⟩)), (3, .pointer (some ⟨b3, 0, none⟩)), (2, .pointer (some ⟨b2, 0, none⟩))]) (fun i => [(b4, blk (w4 (lim (montr (Zp.of 256)))) 35), (b3, blk (w4 (lim (montr (wide (l.take i))))) 35), (b2, blk [.int .u64 0, .int .u64 0, .int .u64 0, .int .u64 0] 35)]) (fun i => i ≤ l.length) (fun i => l.length - i) 0 (Nat.zero_le _) ⟨rfl, rfl, rfl, rfl, rfl, rfl, trivial⟩ (List.Sublist.refl _) ?_
  intro i hi
  refine sSeq ?_
  refine W.region ?_
  refine OpsW.det (det_lss rfl rfl) rfl ?_
  refine sNext ?_
  refine sSeq ?_
  refine W.cond rfl (fun hc11 => ?_) (fun hc11 => ?_)
  · skip
    have hlt : i < l.length := by have h := hc11; simp only [decide_eq_true_eq] at h; omega
    obtain ⟨bk, o, cap', cs, e, fr, hv, hm, hcell⟩ := hB.at_ i hlt
    simp only [Value.slice.injEq] at hv
    obtain ⟨rfl, _, rfl⟩ := hv
    refine sSkip ?_
    refine sSeq ?_
    refine sBlock ?_
    refine sSeq ?_
    refine W.region ?_
    refine OpsW.det (det_indexAddr_sl u22 sz5 rfl rfl ⟨by omega, by omega⟩) rfl ?_
    refine OpsW.det (det_loadC_ro ty5 rfl (List.mem_append_left _ hm) (show cs[o + ((i : Nat) : Int).toNat * 1]? = some (u8 l[i]) by simpa using hcell)) rfl ?_
    refine OpsW.det (det_assign rfl) rfl ?_
    refine sNext ?_
    refine W.keep (F' := [(6, _), (10, _), (9, _), (8, _), (4, _), (3, _), (2, _)]) ⟨rfl, rfl, rfl, rfl, rfl, rfl, rfl, trivial⟩ ?_
    refine W.region ?_
    refine OpsW.det (det_loadA ty35 rfl (List.Mem.tail _ (List.Mem.head _)) rfl) rfl ?_
    refine OpsW.det (det_loadA ty35 rfl (List.Mem.head _) rfl) rfl ?_
    refine OpsW.det (det_call en30 rfl (fun w hb ho => Cu.RMul_ok (fun p hp => ho.look (List.mem_append_right _ hp)))) rfl ?_
    refine OpsW.det (det_move rfl) rfl ?_
    refine OpsW.det ((det_conv u5 u25 rfl).to (conv_byte (hB.small _ (List.getElem_mem hlt)))) rfl ?_
    refine OpsW.det (det_call en26 rfl (fun w hb ho => ROf_ok (Nat.lt_trans (hB.small _ (List.getElem_mem hlt)) (by decide)) (fun p hp => ho.look (List.mem_append_right _ hp)))) rfl ?_
    refine OpsW.det (det_call en28 rfl (fun w hb ho => Cu.RAdd_ok (fun p hp => ho.look (List.mem_append_right _ hp)))) rfl ?_
    refine OpsW.store sz35 rfl rfl rfl rfl rfl (Upd.there (Upd.here)) rfl ?_
    refine sLast ?_
    refine bNext ?_
    refine W.keep (F' := [(10, _), (9, _), (8, _), (4, _), (3, _), (2, _)]) ⟨rfl, rfl, rfl, rfl, rfl, rfl, trivial⟩ ?_
    refine W.region ?_
    refine OpsW.det (det_addN (b := 1) rfl rfl (by omega)) rfl ?_
    refine OpsW.det (det_move rfl) rfl ?_
    refine sLast ?_
    exact rEnd (i + 1) hlt ⟨rfl, rfl, rfl, rfl, rfl, rfl, trivial⟩ (by rw [wide_step hlt]; exact List.Sublist.refl _) (step_lt hlt)
  · skip
    have hi4 : i = l.length := by have h := hc11; simp only [decide_eq_false_iff_not] at h; omega
    subst hi4
    refine sExit ?_
    refine xLoop ?_
    refine xHere ?_
    refine W.keep (F' := [(3, _), (2, _)]) ⟨rfl, rfl, trivial⟩ ?_
    refine sSeq ?_
    refine W.region ?_
    refine OpsW.det (det_loadA ty35 rfl (List.Mem.tail _ (List.Mem.head _)) rfl) rfl ?_
    refine OpsW.store sz35 rfl rfl rfl rfl rfl (Upd.there (Upd.there (Upd.here))) rfl ?_
    refine sNext ?_
    refine W.keep (F' := [(2, _)]) ⟨rfl, trivial⟩ ?_
    refine sRet ?_
    exact done1 Tryd.results50 (rv_cellA ty35 rfl (List.Mem.tail _ (List.Mem.tail _ (List.Mem.head _))) rfl) (congrArg (fun z => encR (wide z)) (List.take_length))

end Go.Cu

/- Copies of bytes: the walk. Conditions: as many bytes as memory has. -/
namespace Go.Cu
open Go Go.Vm Go.RowKit Go.Proofs 
attribute [local irreducible] W OpsW Det Fresh New Writes Vm.Pure Makes Changes ExternTo BuildTo ZeroTo FieldTo IndexTo BinTo SliceTo Vm.Enters
set_option linter.unusedVariables false
set_option linter.unusedSimpArgs false
variable {T : Nat → TypeId × Nat × Nat}

theorem cst_at {l : List Nat} {i k : Nat} (h : i < l.length) (hk : k = i) : splice k [u8 l[i]] (cst l i) = some (cst l (i + 1)) := by subst hk; exact cst_put h
theorem blk_congr {a b : List Value} {n t : Nat} {r : Hp} (h : a = b) : List.Sublist ((n, blk a t) :: r) ((n, blk b t) :: r) := by subst h; exact List.Sublist.refl _


theorem Copy_ok {G' : Hp} {v : Value} {l : List Nat} (hB : Bs G' v l) (hl : l.length ≤ 281474976710656) {w : World} (hG : Blocks (G' ++ GH T) w)  : Makes Tryd.prog 51 #[v] w (fun p => .slice (some ⟨p.1, 0, none⟩) l.length l.length) (fun p => [(p.1, blk (bcells l ++ []) 5)]) (fun _ => True) := by
  obtain ⟨ad, cap, hvv⟩ := hB.shape
  refine makes_of_W (n := 22) (args := [v]) Tryd.func51 rfl Tryd.ntmps51 (Nat.le_of_ble_eq_true rfl) hG ?_
  refine sStart ?_
  refine sSeq ?_
  subst hvv
  refine W.region ?_
  refine OpsW.det (det_assign rfl) rfl ?_
  refine sNext ?_
  refine W.keep (F' := [(0, _)]) ⟨rfl, trivial⟩ ?_
  refine sSeq ?_
  refine W.region ?_
  refine OpsW.det (det_move rfl) rfl ?_
  refine OpsW.det (det_len u22 rfl) rfl ?_
  refine OpsW.fresh (fr_makeSlice ty22 rfl rfl (Nat.le_refl _) (by omega) (by omega)) rfl fun b7 => ?_
  refine OpsW.det (det_assign rfl) rfl ?_
  refine sNext ?_
  refine W.keep (F' := [(3, _), (0, _)]) ⟨rfl, rfl, trivial⟩ ?_
  refine sSeq ?_
  refine sSeq ?_
  refine W.region ?_
  refine OpsW.det (det_move rfl) rfl ?_
  refine OpsW.det (det_len u22 rfl) rfl ?_
  refine OpsW.det (det_move rfl) rfl ?_
  refine sNext ?_
  refine W.keep (F' := [(10, _), (9, _), (3, _), (0, _)]) ⟨rfl, rfl, rfl, rfl, trivial⟩ ?_
  refine sBlock ?_
  refine sLoop (σ := Nat) (fun i => [(10, .int .i64 (i : Nat)), (9, .int .i64 (l.length : Nat)), (3, .slice (some ⟨b7, 0, none⟩) l.length l.length), (0, .slice ad l.length cap)]) (fun i => [(b7, blk (cst l i) 5)]) (fun i => i ≤ l.length) (fun i => l.length - i) 0 (Nat.zero_le _) ⟨rfl, rfl, rfl, rfl, trivial⟩ (blk_congr (cst_0 l).symm) ?_
  intro i hi
  refine sSeq ?_
  refine W.region ?_
  refine OpsW.det (det_lss rfl rfl) rfl ?_
  refine sNext ?_
  refine sSeq ?_
  refine W.cond rfl (fun hc11 => ?_) (fun hc11 => ?_)
  · skip
    have hlt : i < l.length := by have h := hc11; simp only [decide_eq_true_eq] at h; omega
    obtain ⟨bk, o, cap', cs, e, fr, hv, hm, hcell⟩ := hB.at_ i hlt
    simp only [Value.slice.injEq] at hv
    obtain ⟨rfl, _, rfl⟩ := hv
    refine sSkip ?_
    refine sSeq ?_
    refine sBlock ?_
    refine sSeq ?_
    refine W.region ?_
    refine OpsW.det (det_move rfl) rfl ?_
    refine OpsW.det (det_assign rfl) rfl ?_
    refine sNext ?_
    refine W.keep (F' := [(4, _), (10, _), (9, _), (3, _), (0, _)]) ⟨rfl, rfl, rfl, rfl, rfl, trivial⟩ ?_
    refine W.region ?_
    refine OpsW.det (det_move rfl) rfl ?_
    refine OpsW.det (det_move rfl) rfl ?_
    refine OpsW.det (det_move rfl) rfl ?_
    refine OpsW.det (det_move rfl) rfl ?_
    refine OpsW.det (det_indexAddr_sl u22 sz5 rfl rfl ⟨by omega, by omega⟩) rfl ?_
    refine OpsW.det (det_loadC_ro ty5 rfl (List.mem_append_left _ hm) (show cs[o + ((i : Nat) : Int).toNat * 1]? = some (u8 l[i]) by simpa using hcell)) rfl ?_
    refine OpsW.det (det_indexAddr_sl u22 sz5 rfl rfl ⟨by omega, by omega⟩) rfl ?_
    refine OpsW.store sz5 rfl rfl rfl rfl rfl (Upd.here) (cst_at hlt (by omega)) ?_
    refine sLast ?_
    refine bNext ?_
    refine W.keep (F' := [(10, _), (9, _), (3, _), (0, _)]) ⟨rfl, rfl, rfl, rfl, trivial⟩ ?_
    refine W.region ?_
    refine OpsW.det (det_addN (b := 1) rfl rfl (by omega)) rfl ?_
    refine OpsW.det (det_move rfl) rfl ?_
    refine sLast ?_
    exact rEnd (i + 1) hlt ⟨rfl, rfl, rfl, rfl, trivial⟩ (List.Sublist.refl _) (step_lt hlt)
  · skip
    have hi4 : i = l.length := by have h := hc11; simp only [decide_eq_false_iff_not] at h; omega
    subst hi4
    refine sExit ?_
    refine xLoop ?_
    refine xHere ?_
    refine W.keep (F' := [(3, _)]) ⟨rfl, trivial⟩ ?_
    refine sSeq ?_
    refine W.region ?_
    refine OpsW.det (det_move rfl) rfl ?_
    refine OpsW.det (det_assign rfl) rfl ?_
    refine sNext ?_
    refine W.keep (F' := [(2, _)]) ⟨rfl, trivial⟩ ?_
    refine sRet ?_
    exact done1 Tryd.results51 (rv_tmp rfl) ⟨(b7, 0, []), trivial, rfl, blk_congr (cst_all l).symm⟩

end Go.Cu

/- Scalars of bytes, and bits of bytes: the walks. Conditions: as many bytes as memory has. -/
namespace Go.Cu
open Go Go.Vm Go.RowKit Go.Proofs 
attribute [local irreducible] W OpsW Det Fresh New Writes Vm.Pure Makes Changes ExternTo BuildTo ZeroTo FieldTo IndexTo BinTo SliceTo Vm.Enters
set_option linter.unusedVariables false
set_option linter.unusedSimpArgs false
variable {T : Nat → TypeId × Nat × Nat}

def longB (a b c : Nat) : Bool := decide (100 < a) || decide (100 < b) || decide (100 < c)
/-- Bit i of the number that bytes are, the highest byte first. -/
def bitB (l : List Nat) (i : Nat) : Nat := if 8 * l.length ≤ i then 0 else l.getD (l.length - 1 - i / 8) 0 / 2 ^ (i % 8) % 2
theorem bitB_no {l : List Nat} {i : Nat} (h : 8 * l.length ≤ i) : bitB l i = 0 := if_pos h
theorem bitB_yes {l : List Nat} {i : Nat} (h : ¬ 8 * l.length ≤ i) (h2 : l.length - 1 - i / 8 < l.length) : bitB l i = l[l.length - 1 - i / 8] / 2 ^ (i % 8) % 2 := by
  unfold bitB
  rw [if_neg h, List.getD_eq_getElem?_getD, List.getElem?_eq_getElem h2]; rfl
theorem tyc22 : TyC Tryd.prog 22 := ⟨by kernel_rfl, by kernel_rfl⟩
section
variable {P : Program} {K : List Nat} {G : Hp} {w0 : World} {F : Fr} {H : Hp} {ty : TypeId} {pos : String} {after : Array Edge} {x y : Operand} {xt yt : TypeId} {d : Option Tmp} {g : Option (Nat × Bool)}
theorem det_shr8 {a b : Nat} {k : IntKind} (hx : ev F x = some (.int .u8 a)) (hy : ev F y = some (.int k b)) (hb : b ≤ 8) : Det P K G w0 ⟨d, .binOp .shr xt x y yt, ty, pos, after, g⟩ F H (.int .u8 ((a / 2 ^ b : Nat) : Int)) :=
  (det_shr hx hy (by omega)).to (by
    rw [show min (b : Int).toNat IntKind.u8.bits = b from by show min (b : Int).toNat 8 = b; omega]
    congr 1
    rw [Int.fdiv_eq_ediv_of_nonneg _ (by exact Int.natCast_nonneg (2 ^ b)), Int.natCast_ediv]; rfl)
theorem and8 {a : Nat} (ha : a < 256) : bitsOf .and .u8 a 1 = ((a % 2 : Nat) : Int) := by
  have h1 : (BitVec.ofInt IntKind.u8.bits (a : Int)).toNat = a := by
    show (BitVec.ofInt 8 (a : Int)).toNat = a
    rw [BitVec.toNat_ofInt]; omega
  unfold bitsOf
  simp only [BitVec.toNat_and, h1]
  rw [show (BitVec.ofInt IntKind.u8.bits (1 : Int)).toNat = 2 ^ 1 - 1 by rfl, Nat.and_two_pow_sub_one_eq_mod, wrap_u8]
  omega
theorem det_and8 {a : Nat} (hx : ev F x = some (.int .u8 a)) (hy : ev F y = some (.int .u8 1)) (ha : a < 256) : Det P K G w0 ⟨d, .binOp .and xt x y yt, ty, pos, after, g⟩ F H (.int .u8 ((a % 2 : Nat) : Int)) :=
  (det_and hx hy).to (by rw [and8 ha])
end

theorem en50 : Vm.Enters Tryd.prog 50 := Vm.Enters.of fun _ _ => by kernel_rfl
theorem en51 : Vm.Enters Tryd.prog 51 := Vm.Enters.of fun _ _ => by kernel_rfl
theorem u3 : Tryd.prog.underlying 3 = some (.int .i64) := by kernel_rfl
theorem scalar_ok {G' : Hp} {v : Value} {l : List Nat} (hB : Bs G' v l) (hl : l.length ≤ 281474976710656) {w : World} (hG : Blocks (G' ++ GH T) w)  : Vm.Pure Tryd.prog 19 #[v] w (encR (wide l)) := by
  refine pure_of_W (n := 6) (args := [v]) Tryd.func19 rfl Tryd.ntmps19 (Nat.le_of_ble_eq_true rfl) hG ?_
  refine sStart ?_
  refine sSeq ?_
  refine W.region ?_
  refine OpsW.fresh (fr_alloc z35) rfl fun b2 => ?_
  refine sNext ?_
  refine sSeq ?_
  refine W.region ?_
  refine OpsW.det (det_move rfl) rfl ?_
  refine OpsW.new (new_call en51 rfl (fun w hb ho => Copy_ok (G' := G') hB hl ho.blocks)) rfl fun p4 hp4 => ?_
  refine OpsW.det (det_call en50 rfl (fun w hb ho => Wide_ok (G' := [(p4.1, blk (bcells l ++ []) 5)]) (Bs.of hB.small (Nat.le_refl _)) (by omega) (blocks_cons (hb _ (List.Mem.head _)) (fun p hp => ho.look (List.mem_append_right _ hp))))) rfl ?_
  refine OpsW.store sz35 rfl rfl rfl rfl rfl (Upd.there (Upd.here)) rfl ?_
  refine sNext ?_
  refine W.keep (F' := [(2, _)]) ⟨rfl, trivial⟩ ?_
  refine sRet ?_
  exact done1 Tryd.results19 (rv_cellA ty35 rfl (List.Mem.tail _ (List.Mem.head _)) rfl) rfl
theorem long_ok {a b c : Option Addr} {la lb lc ca cb cc : Nat} {w : World} (hG : Blocks (GH T) w)  : Vm.Pure Tryd.prog 16 #[.slice a la ca, .slice b lb cb, .slice c lc cc] w (.bool (longB la lb lc)) := by
  refine pure_of_W (n := 20) (args := [.slice a la ca, .slice b lb cb, .slice c lc cc]) Tryd.func16 rfl Tryd.ntmps16 (Nat.le_of_ble_eq_true rfl) hG ?_
  refine sStart ?_
  refine sSeq ?_
  refine W.region ?_
  refine OpsW.det (det_assign rfl) rfl ?_
  refine sNext ?_
  refine W.keep (F' := [(0, _), (1, _), (2, _)]) ⟨rfl, rfl, rfl, trivial⟩ ?_
  refine sSeq ?_
  refine W.region ?_
  refine OpsW.det (det_move rfl) rfl ?_
  refine OpsW.det (det_len u22 rfl) rfl ?_
  refine OpsW.test (det_gtr rfl rfl) rfl (fun hc9 => ?_) (fun hc9 => ?_)
  · skip
    refine OpsW.det (det_move rfl) rfl ?_
    refine OpsW.guard_no rfl rfl rfl ?_
    refine OpsW.guard_no rfl rfl rfl ?_
    refine OpsW.guard_no rfl rfl rfl ?_
    refine OpsW.det (det_pick rfl rfl) rfl ?_
    refine OpsW.det (det_move rfl) rfl ?_
    refine OpsW.guard_no rfl rfl rfl ?_
    refine OpsW.guard_no rfl rfl rfl ?_
    refine OpsW.guard_no rfl rfl rfl ?_
    refine OpsW.det (det_pick rfl rfl) rfl ?_
    refine OpsW.det (det_assign rfl) rfl ?_
    refine sNext ?_
    refine W.keep (F' := [(6, _)]) ⟨rfl, trivial⟩ ?_
    refine sRet ?_
    exact done1 Tryd.results16 (rv_tmp rfl) (congrArg Value.bool (by unfold longB; simp only [decide_eq_true_eq, decide_eq_false_iff_not] at *; rw [Bool.eq_iff_iff]; simp only [decide_eq_true_eq, Bool.or_eq_true, true_iff]; omega))
  · skip
    refine OpsW.det (det_move rfl) rfl ?_
    refine OpsW.guard_yes rfl rfl ?_
    refine OpsW.det (det_move rfl) rfl ?_
    refine OpsW.guard_yes rfl rfl ?_
    refine OpsW.det (det_len u22 rfl) rfl ?_
    refine OpsW.guard_yes rfl rfl ?_
    refine OpsW.test (det_gtr rfl rfl) rfl (fun hc13 => ?_) (fun hc13 => ?_)
    · skip
      refine OpsW.det (det_pick rfl rfl) rfl ?_
      refine OpsW.det (det_move rfl) rfl ?_
      refine OpsW.guard_no rfl rfl rfl ?_
      refine OpsW.guard_no rfl rfl rfl ?_
      refine OpsW.guard_no rfl rfl rfl ?_
      refine OpsW.det (det_pick rfl rfl) rfl ?_
      refine OpsW.det (det_assign rfl) rfl ?_
      refine sNext ?_
      refine W.keep (F' := [(6, _)]) ⟨rfl, trivial⟩ ?_
      refine sRet ?_
      exact done1 Tryd.results16 (rv_tmp rfl) (congrArg Value.bool (by unfold longB; simp only [decide_eq_true_eq, decide_eq_false_iff_not] at *; rw [Bool.eq_iff_iff]; simp only [decide_eq_true_eq, Bool.or_eq_true, true_iff]; omega))
    · skip
      refine OpsW.det (det_pick rfl rfl) rfl ?_
      refine OpsW.det (det_move rfl) rfl ?_
      refine OpsW.guard_yes rfl rfl ?_
      refine OpsW.det (det_move rfl) rfl ?_
      refine OpsW.guard_yes rfl rfl ?_
      refine OpsW.det (det_len u22 rfl) rfl ?_
      refine OpsW.guard_yes rfl rfl ?_
      refine OpsW.det (det_gtr rfl rfl) rfl ?_
      refine OpsW.det (det_pick rfl rfl) rfl ?_
      refine OpsW.det (det_assign rfl) rfl ?_
      refine sNext ?_
      refine W.keep (F' := [(6, _)]) ⟨rfl, trivial⟩ ?_
      refine sRet ?_
      exact done1 Tryd.results16 (rv_tmp rfl) (congrArg Value.bool (by unfold longB; simp only [decide_eq_true_eq, decide_eq_false_iff_not] at *; rw [Bool.eq_iff_iff]; simp only [decide_eq_true_eq, Bool.or_eq_true, true_iff]; omega))
theorem bit_ok {G' : Hp} {v : Value} {l : List Nat} {i bv : Nat} (hB : Bs G' v l) (hl : l.length ≤ 1000000000000) (hi : i ≤ 10000000000000) {w : World} (hG : Blocks ((bv, blk [v] 22) :: (G' ++ GH T)) w)  : Vm.Pure Tryd.prog 62 #[.int .i64 (i : Nat), .pointer (some ⟨bv, 0, none⟩)] w (.int .i64 (bitB l i : Nat)) := by
  obtain ⟨ad, cap, hvv⟩ := hB.shape
  refine pure_of_W (n := 23) (args := [.int .i64 (i : Nat), .pointer (some ⟨bv, 0, none⟩)]) Tryd.func62 rfl Tryd.ntmps62 (Nat.le_of_ble_eq_true rfl) hG ?_
  refine sStart ?_
  refine sSeq ?_
  subst hvv
  refine W.region ?_
  refine OpsW.det (det_assign rfl) rfl ?_
  refine sNext ?_
  refine W.keep (F' := [(0, _), (1, _)]) ⟨rfl, rfl, trivial⟩ ?_
  refine sSeq ?_
  refine sSeq ?_
  refine W.region ?_
  refine OpsW.det (det_move rfl) rfl ?_
  refine OpsW.det (det_loadC_ro tyc22 rfl (List.Mem.head _) rfl) rfl ?_
  refine OpsW.det (det_len u22 rfl) rfl ?_
  refine OpsW.det ((det_mul rfl rfl).to (v := .int .i64 ((8 * l.length : Nat) : Int)) (by rw [wrap_i64 (by omega)]; congr 1)) rfl ?_
  refine OpsW.det (det_geq rfl rfl) rfl ?_
  refine sNext ?_
  refine W.keep (F' := [(8, _), (0, _), (1, _)]) ⟨rfl, rfl, rfl, trivial⟩ ?_
  refine W.cond rfl (fun hc8 => ?_) (fun hc8 => ?_)
  · skip
    have hge : 8 * l.length ≤ i := by have h := hc8; simp only [decide_eq_true_eq] at h; omega
    refine sSeq ?_
    refine W.region ?_
    refine OpsW.det (det_assign rfl) rfl ?_
    refine sNext ?_
    refine W.keep (F' := [(3, _)]) ⟨rfl, trivial⟩ ?_
    refine sRet ?_
    exact done1 Tryd.results62 (rv_tmp rfl) (by rw [bitB_no hge]; rfl)
  · skip
    have hge : ¬ 8 * l.length ≤ i := by have h := hc8; simp only [decide_eq_false_iff_not] at h; omega
    have hlt : l.length - 1 - i / 8 < l.length := by omega
    obtain ⟨bk, o, cap', cs, e, fr, hv, hm, hcell⟩ := hB.at_ _ hlt
    simp only [Value.slice.injEq] at hv
    obtain ⟨rfl, _, rfl⟩ := hv
    refine sSkip ?_
    refine sSeq ?_
    refine W.region ?_
    refine OpsW.det (det_loadC_ro tyc22 rfl (List.Mem.head _) rfl) rfl ?_
    refine OpsW.det (det_loadC_ro tyc22 rfl (List.Mem.head _) rfl) rfl ?_
    refine OpsW.det (det_len u22 rfl) rfl ?_
    refine OpsW.det (det_subZ (c := ((l.length - 1 : Nat) : Int)) rfl rfl (by omega) (by omega)) rfl ?_
    refine OpsW.det (det_move rfl) rfl ?_
    refine OpsW.det (det_quoN (b := 8) rfl rfl (by decide) (by omega)) rfl ?_
    refine OpsW.det (det_subZ (c := ((l.length - 1 - i / 8 : Nat) : Int)) rfl rfl (by omega) (by omega)) rfl ?_
    refine OpsW.det (det_indexAddr_sl u22 sz5 rfl rfl ⟨by omega, by omega⟩) rfl ?_
    refine OpsW.det (det_loadC_ro ty5 rfl (List.Mem.tail _ (List.mem_append_left _ hm)) (show cs[o + ((l.length - 1 - i / 8 : Nat) : Int).toNat * 1]? = some (u8 l[l.length - 1 - i / 8]) by simpa using hcell)) rfl ?_
    refine OpsW.det (det_move rfl) rfl ?_
    refine OpsW.det (det_remN (b := 8) rfl rfl (by decide)) rfl ?_
    refine OpsW.det (det_shr8 rfl rfl (by omega)) rfl ?_
    refine OpsW.det (det_and8 rfl rfl (Nat.lt_of_le_of_lt (Nat.div_le_self _ _) (hB.small _ (List.getElem_mem hlt)))) rfl ?_
    refine OpsW.det ((det_conv u5 u3 rfl).to (v := .int .i64 ((l[l.length - 1 - i / 8] / 2 ^ (i % 8) % 2 : Nat) : Int)) (by rw [wrap_i64 (by omega)])) rfl ?_
    refine OpsW.det (det_assign rfl) rfl ?_
    refine sNext ?_
    refine W.keep (F' := [(3, _)]) ⟨rfl, trivial⟩ ?_
    refine sRet ?_
    exact done1 Tryd.results62 (rv_tmp rfl) (by rw [bitB_yes hge hlt])

end Go.Cu

/- The first group: so many times: the walk. Conditions: as many bytes as memory has. -/
namespace Go.Cu
open Go Go.Vm Go.RowKit Go.Proofs 
attribute [local irreducible] W OpsW Det Fresh New Writes Vm.Pure Makes Changes ExternTo BuildTo ZeroTo FieldTo IndexTo BinTo SliceTo Vm.Enters
set_option linter.unusedVariables false
set_option linter.unusedSimpArgs false
variable {T : Nat → TypeId × Nat × Nat}

/-- What is carried to digit i. -/
def ov (l : List Nat) : Nat → Nat
  | 0 => 0
  | i + 1 => if bitB l i + ov l i = 1 ∧ bitB l (i + 1) = 1 then 1 else (bitB l i + ov l i) / 2
/-- Digit i: 1, 0 or -1. -/
def dg (l : List Nat) (i : Nat) : Int := if bitB l i + ov l i = 1 then (if bitB l (i + 1) = 1 then -1 else 1) else 0
theorem bitB_le (l : List Nat) (i : Nat) : bitB l i ≤ 1 := by unfold bitB; split <;> omega
theorem ov_le (l : List Nat) : ∀ i, ov l i ≤ 1
  | 0 => by simp [ov]
  | i + 1 => by
    have := ov_le l i
    have := bitB_le l i
    unfold ov
    split <;> omega
def stp (p : Pt) (d : Int) (j : Jac) : Jac := if d = 1 then jadd j p else if d = -1 then jadd j (pneg p) else j
/-- The ladder, m digits down from the highest. -/
def jl (l : List Nat) (p : Pt) : Nat → Jac
  | 0 => (0, 0, 0)
  | m + 1 => stp p (dg l (8 * l.length - m)) (jdbl (jl l p m))
def times (l : List Nat) (p : Pt) : Pt := point (jl l p (8 * l.length + 1))
theorem jl_step {l : List Nat} {p : Pt} {k : Nat} (h : k + 1 ≤ 8 * l.length + 1) : jl l p (8 * l.length + 1 - k) = stp p (dg l k) (jdbl (jl l p (8 * l.length + 1 - (k + 1)))) := by
  obtain ⟨m, hm⟩ : ∃ m, 8 * l.length + 1 - (k + 1) = m := ⟨_, rfl⟩
  rw [show 8 * l.length + 1 - k = m + 1 by omega, hm, jl, show 8 * l.length - m = k by omega]
theorem jl_one {l : List Nat} {p : Pt} {k : Nat} (h : k + 1 ≤ 8 * l.length + 1) (hd : (dg l k == 1) = true) : jl l p (8 * l.length + 1 - k) = jadd (jdbl (jl l p (8 * l.length + 1 - (k + 1)))) p := by
  rw [jl_step h, stp, if_pos (by simpa using hd)]
theorem jl_neg {l : List Nat} {p : Pt} {k : Nat} (h : k + 1 ≤ 8 * l.length + 1) (h1 : (dg l k == 1) = false) (hd : (dg l k == -1) = true) : jl l p (8 * l.length + 1 - k) = jadd (jdbl (jl l p (8 * l.length + 1 - (k + 1)))) (pneg p) := by
  rw [jl_step h, stp, if_neg (by simpa using h1), if_pos (by simpa using hd)]
theorem jl_nil {l : List Nat} {p : Pt} {k : Nat} (h : k + 1 ≤ 8 * l.length + 1) (h1 : (dg l k == 1) = false) (hd : (dg l k == -1) = false) : jl l p (8 * l.length + 1 - k) = jdbl (jl l p (8 * l.length + 1 - (k + 1))) := by
  rw [jl_step h, stp, if_neg (by simpa using h1), if_neg (by simpa using hd)]
def digs (l : List Nat) (i : Nat) : List Value := (List.range i).map fun j => Value.int .i64 (dg l j)
theorem digs_succ (l : List Nat) (i : Nat) : digs l (i + 1) = digs l i ++ [.int .i64 (dg l i)] := by simp [digs, List.range_succ]
theorem digs_at {l : List Nat} {i n k : Nat} {r : List Value} (h : i < n) (hk : k = i) : (digs l n ++ r)[k]? = some (.int .i64 (dg l i)) := by
  subst hk
  rw [List.getElem?_append_left (by simp [digs]; exact h)]
  simp [digs, h]
theorem ty81 : TyS Tryd.prog 81 3 1 8 [.int .i64 0] := ⟨by kernel_rfl, by kernel_rfl, by kernel_rfl, ⟨.int .i64 0, by kernel_rfl, by kernel_rfl⟩, rfl, by decide⟩
theorem slice81 {v : Int} : SliceTo Tryd.prog 81 1 [(0, .int .i64 v)] [.int .i64 v] 3 := SliceTo.of fun _ => by kernel_rfl
theorem dig_n {l : List Nat} {i : Nat} (h : (((bitB l i + ov l i : Nat) : Int) == 1) = false) : Value.int .i64 (IntKind.i64.wrap (bitsOf .and .i64 ((bitB l i + ov l i : Nat) : Int) 1 * ((bitB l i + ov l i : Nat) : Int))) = .int .i64 (dg l i) := by
  have h1 : bitB l i + ov l i ≠ 1 := by have h := h; simp at h; omega
  have h2 := bitB_le l i
  have h3 := ov_le l i
  unfold dg
  rw [if_neg h1]
  have : bitB l i + ov l i = 0 ∨ bitB l i + ov l i = 2 := by omega
  rcases this with e | e <;> rw [e] <;> rfl
theorem dig_1 {l : List Nat} {i : Nat} (h : (((bitB l i + ov l i : Nat) : Int) == 1) = true) (hb : (((bitB l (i + 1) : Nat) : Int) == 1) = false) : Value.int .i64 (IntKind.i64.wrap (bitsOf .and .i64 ((bitB l i + ov l i : Nat) : Int) 1 * ((bitB l i + ov l i : Nat) : Int))) = .int .i64 (dg l i) := by
  have h1 : bitB l i + ov l i = 1 := by have h := h; simp at h; omega
  have h2 : bitB l (i + 1) ≠ 1 := by have h := hb; simp at h; omega
  unfold dg
  rw [if_pos h1, if_neg h2, h1]; rfl
theorem dig_m {l : List Nat} {i : Nat} (h : (((bitB l i + ov l i : Nat) : Int) == 1) = true) (hb : (((bitB l (i + 1) : Nat) : Int) == 1) = true) : Value.int .i64 (IntKind.i64.wrap (bitsOf .and .i64 (-1) 1 * (-1))) = .int .i64 (dg l i) := by
  have h1 : bitB l i + ov l i = 1 := by have h := h; simp at h; omega
  have h2 : bitB l (i + 1) = 1 := by have h := hb; simp at h; omega
  unfold dg
  rw [if_pos h1, if_pos h2]; rfl
theorem ov_n {l : List Nat} {i : Nat} (h : (((bitB l i + ov l i : Nat) : Int) == 1) = false) : (bitB l i + ov l i) / 2 = ov l (i + 1) := by
  have h1 : bitB l i + ov l i ≠ 1 := by have h := h; simp at h; omega
  rw [ov, if_neg (by omega)]
theorem ov_1 {l : List Nat} {i : Nat} (hb : (((bitB l (i + 1) : Nat) : Int) == 1) = false) : (bitB l i + ov l i) / 2 = ov l (i + 1) := by
  have h2 : bitB l (i + 1) ≠ 1 := by have h := hb; simp at h; omega
  rw [ov, if_neg (by omega)]
theorem ov_m {l : List Nat} {i : Nat} (h : (((bitB l i + ov l i : Nat) : Int) == 1) = true) (hb : (((bitB l (i + 1) : Nat) : Int) == 1) = true) : 1 = ov l (i + 1) := by
  have h1 : bitB l i + ov l i = 1 := by have h := h; simp at h; omega
  have h2 : bitB l (i + 1) = 1 := by have h := hb; simp at h; omega
  rw [ov, if_pos ⟨h1, h2⟩]
section
variable {P : Program} {K : List Nat} {G : Hp} {w0 : World} {F : Fr} {H : Hp} {ty : TypeId} {pos : String} {after : Array Edge} {x y : Operand} {xt yt : TypeId} {d : Option Tmp} {g : Option (Nat × Bool)}
theorem det_half {a : Nat} (hx : ev F x = some (.int .i64 a)) (hy : ev F y = some (.int .u64 1)) : Det P K G w0 ⟨d, .binOp .shr xt x y yt, ty, pos, after, g⟩ F H (.int .i64 ((a / 2 : Nat) : Int)) :=
  (det_shr hx hy (by decide)).to (by
    show Value.int .i64 (Int.fdiv a (2 ^ 1)) = _
    rw [Int.fdiv_eq_ediv_of_nonneg _ (by decide)]; rfl)
end
def cellsJ (j : Jac) : List Value := cellsF j.1 ++ cellsF j.2.1 ++ cellsF j.2.2
def cellsP (p : Pt) : List Value := cellsF p.1 ++ cellsF p.2
theorem z74r : TyZ Tryd.prog 74 (encJ (0, 0, 0)) (cellsJ (0, 0, 0)) := ⟨fun _ => by kernel_rfl, rfl⟩
theorem z30r : TyZ Tryd.prog 30 (encP (0, 0)) (cellsP (0, 0)) := ⟨fun _ => by kernel_rfl, rfl⟩

theorem en22 : Vm.Enters Tryd.prog 22 := Vm.Enters.of fun _ _ => by kernel_rfl
theorem en62 : Vm.Enters Tryd.prog 62 := Vm.Enters.of fun _ _ => by kernel_rfl
theorem sz3 : sizeIn Tryd.prog 3 = some 1 := by kernel_rfl
theorem ty3 : TyC Tryd.prog 3 := ⟨by kernel_rfl, by kernel_rfl⟩
theorem u81 : Tryd.prog.underlying 81 = some (.slice 3) := by kernel_rfl
set_option maxHeartbeats 1000000 in
theorem Times_ok {G' : Hp} {v : Value} {l : List Nat} {p : Pt} (hB : Bs G' v l) (hl : l.length ≤ 1000000000000) {w : World} (hG : Blocks (G' ++ GH T) w)  : Vm.Pure Tryd.prog 25 #[encP p, v] w (encP (times l p)) := by
  obtain ⟨ad, cap, hvv⟩ := hB.shape
  refine pure_of_W (n := 77) (args := [encP p, v]) Tryd.func25 rfl Tryd.ntmps25 (Nat.le_of_ble_eq_true rfl) hG ?_
  refine sStart ?_
  refine sSeq ?_
  subst hvv
  refine W.region ?_
  refine OpsW.fresh (fr_box rfl rfl) rfl fun b2 => ?_
  refine OpsW.fresh (fr_box rfl rfl) rfl fun b3 => ?_
  refine OpsW.fresh (fr_alloc z30r) rfl fun b4 => ?_
  refine sNext ?_
  refine W.keep (F' := [(4, _), (3, _), (2, _)]) ⟨rfl, rfl, rfl, trivial⟩ ?_
  refine sSeq ?_
  refine W.region ?_
  refine OpsW.det (det_loadC tyc22 rfl (List.Mem.tail _ (List.Mem.head _)) rfl) rfl ?_
  refine OpsW.det (det_len u22 rfl) rfl ?_
  refine OpsW.det ((det_mul rfl rfl).to (v := .int .i64 ((8 * l.length : Nat) : Int)) (by rw [wrap_i64 (by omega)]; congr 1)) rfl ?_
  refine OpsW.det (det_addN (b := 1) rfl rfl (by omega)) rfl ?_
  refine OpsW.fresh (fr_makeSlice (l := 0) ty81 rfl rfl (Nat.zero_le _) (by omega) (by omega)) rfl fun b17 => ?_
  refine OpsW.det (det_assign rfl) rfl ?_
  refine sNext ?_
  refine W.keep (F' := [(5, _), (4, _), (3, _), (2, _)]) ⟨rfl, rfl, rfl, rfl, trivial⟩ ?_
  refine sSeq ?_
  refine W.region ?_
  refine OpsW.det (det_func1 rfl) rfl ?_
  refine OpsW.det (det_assign rfl) rfl ?_
  refine sNext ?_
  refine W.keep (F' := [(6, _), (5, _), (4, _), (3, _), (2, _)]) ⟨rfl, rfl, rfl, rfl, rfl, trivial⟩ ?_
  refine sSeq ?_
  refine W.region ?_
  refine OpsW.det (det_assign rfl) rfl ?_
  refine sNext ?_
  refine sSeq ?_
  refine sSeq ?_
  refine W.region ?_
  refine OpsW.det (det_loadC tyc22 rfl (List.Mem.tail _ (List.Mem.tail _ (List.Mem.head _))) rfl) rfl ?_
  refine OpsW.det (det_len u22 rfl) rfl ?_
  refine OpsW.det ((det_mul rfl rfl).to (v := .int .i64 ((8 * l.length : Nat) : Int)) (by rw [wrap_i64 (by omega)]; congr 1)) rfl ?_
  refine OpsW.det (det_addN (b := 1) rfl rfl (by omega)) rfl ?_
  refine OpsW.det (det_move rfl) rfl ?_
  refine sNext ?_
  refine W.keep (F' := [(23, _), (22, _), (7, _), (6, _), (5, _), (4, _), (2, _)]) ⟨rfl, rfl, rfl, rfl, rfl, rfl, rfl, trivial⟩ ?_
  refine sBlock ?_
  refine sLoop (σ := Nat × Value × Hp) (fun s => [(23, .int .i64 (s.1 : Nat)), (22, .int .i64 ((8 * l.length + 1 : Nat) : Int)), (7, .int .i64 (ov l s.1 : Nat)), (6, .func (.func 62) #[] #[.pointer (some ⟨b3, 0, none⟩)]), (5, s.2.1), (4, .pointer (some ⟨b4, 0, none⟩)), (2, .pointer (some ⟨b2, 0, none⟩))]) (fun s => s.2.2 ++ [(b4, blk (cellsP (0, 0)) 30), (b3, blk [.slice ad l.length cap] 22), (b2, blk (cellsP p) 30)]) (fun s => s.1 ≤ 8 * l.length + 1 ∧ IsSl 3 1 s.2.1 s.1 s.2.2 (digs l s.1)) (fun s => 8 * l.length + 1 - s.1) (0, .slice (some ⟨b17, 0, none⟩) 0 (8 * l.length + 1), [(b17, blk ([] ++ zrep [.int .i64 0] (8 * l.length + 1)) 3)]) ⟨Nat.zero_le _, .at_ rfl (by simp [zrep_length]) (by show 8 * l.length + 1 ≤ 9223372036854775807; omega)⟩ ⟨rfl, rfl, rfl, rfl, rfl, rfl, rfl, trivial⟩ (List.Sublist.refl _) ?_
  rintro ⟨i, vd, hp⟩ ⟨hi, hsl⟩
  change IsSl 3 1 vd i hp (digs l i) at hsl
  change i ≤ 8 * l.length + 1 at hi
  refine W.norm (F' := [(23, .int .i64 (i : Nat)), (22, .int .i64 ((8 * l.length + 1 : Nat) : Int)), (7, .int .i64 (ov l i : Nat)), (6, .func (.func 62) #[] #[.pointer (some ⟨b3, 0, none⟩)]), (5, vd), (4, .pointer (some ⟨b4, 0, none⟩)), (2, .pointer (some ⟨b2, 0, none⟩))]) (H' := hp ++ [(b4, blk (cellsP (0, 0)) 30), (b3, blk [.slice ad l.length cap] 22), (b2, blk (cellsP p) 30)]) rfl rfl ?_
  refine sSeq ?_
  refine W.region ?_
  refine OpsW.det (det_lss rfl rfl) rfl ?_
  refine sNext ?_
  refine sSeq ?_
  refine W.cond rfl (fun hc24 => ?_) (fun hc24 => ?_)
  · skip
    have hlt : i < 8 * l.length + 1 := by have h := hc24; simp only [decide_eq_true_eq] at h; omega
    refine sSkip ?_
    refine sSeq ?_
    refine sBlock ?_
    refine sSeq ?_
    refine W.region ?_
    refine OpsW.det (det_move rfl) rfl ?_
    refine OpsW.det (det_assign rfl) rfl ?_
    refine sNext ?_
    refine W.keep (F' := [(8, _), (23, _), (22, _), (7, _), (6, _), (5, _), (4, _), (2, _)]) ⟨rfl, rfl, rfl, rfl, rfl, rfl, rfl, rfl, trivial⟩ ?_
    refine sSeq ?_
    refine W.region ?_
    refine OpsW.det (det_move rfl) rfl ?_
    refine OpsW.det (det_move rfl) rfl ?_
    refine OpsW.det (det_callv en62 (caps := [.pointer (some ⟨b3, 0, none⟩)]) rfl rfl (fun w hb ho => bit_ok (G' := G') (bv := b3) (i := i) hB hl (by omega) (blocks_cons (hb _ (List.mem_append_right _ (List.Mem.tail _ (List.Mem.head _)))) ho.blocks))) rfl ?_
    refine OpsW.det (det_move rfl) rfl ?_
    refine OpsW.det (det_addN rfl rfl (by have := bitB_le l i; have := ov_le l i; omega)) rfl ?_
    refine OpsW.det (det_assign rfl) rfl ?_
    refine sNext ?_
    refine W.keep (F' := [(9, _), (8, _), (23, _), (22, _), (6, _), (5, _), (4, _), (2, _)]) ⟨rfl, rfl, rfl, rfl, rfl, rfl, rfl, rfl, trivial⟩ ?_
    refine sSeq ?_
    refine W.region ?_
    refine OpsW.det (det_move rfl) rfl ?_
    refine OpsW.det (det_half rfl rfl) rfl ?_
    refine OpsW.det (det_assign rfl) rfl ?_
    refine sNext ?_
    refine W.keep (F' := [(7, _), (9, _), (8, _), (23, _), (22, _), (6, _), (5, _), (4, _), (2, _)]) ⟨rfl, rfl, rfl, rfl, rfl, rfl, rfl, rfl, rfl, trivial⟩ ?_
    refine sSeq ?_
    refine sSeq ?_
    refine W.region ?_
    refine OpsW.det (det_move rfl) rfl ?_
    refine OpsW.test (det_eql rfl rfl) rfl (fun hc34 => ?_) (fun hc34 => ?_)
    · skip
      refine OpsW.det (det_move rfl) rfl ?_
      refine OpsW.guard_yes rfl rfl ?_
      refine OpsW.det (det_move rfl) rfl ?_
      refine OpsW.guard_yes rfl rfl ?_
      refine OpsW.det (det_move rfl) rfl ?_
      refine OpsW.guard_yes rfl rfl ?_
      refine OpsW.det (det_addN (b := 1) rfl rfl (by omega)) rfl ?_
      refine OpsW.guard_yes rfl rfl ?_
      refine OpsW.det (det_callv en62 (caps := [.pointer (some ⟨b3, 0, none⟩)]) rfl rfl (fun w hb ho => bit_ok (G' := G') (bv := b3) (i := (i + 1)) hB hl (by omega) (blocks_cons (hb _ (List.mem_append_right _ (List.Mem.tail _ (List.Mem.head _)))) ho.blocks))) rfl ?_
      refine OpsW.guard_yes rfl rfl ?_
      refine OpsW.det (det_eql rfl rfl) rfl ?_
      refine OpsW.det (det_pick rfl rfl) rfl ?_
      refine sNext ?_
      refine W.keep (F' := [(41, _), (7, _), (9, _), (23, _), (22, _), (6, _), (5, _), (4, _), (2, _)]) ⟨rfl, rfl, rfl, rfl, rfl, rfl, rfl, rfl, rfl, trivial⟩ ?_
      refine W.cond rfl (fun hc41 => ?_) (fun hc41 => ?_)
      · skip
        refine W.region ?_
        refine OpsW.det (det_assign rfl) rfl ?_
        refine OpsW.det (det_assign rfl) rfl ?_
        refine sNext ?_
        refine W.keep (F' := [(7, _), (9, _), (23, _), (22, _), (6, _), (5, _), (4, _), (2, _)]) ⟨rfl, rfl, rfl, rfl, rfl, rfl, rfl, rfl, trivial⟩ ?_
        refine W.region ?_
        refine OpsW.det (det_move rfl) rfl ?_
        refine OpsW.det (det_move rfl) rfl ?_
        refine OpsW.det (det_and rfl rfl) rfl ?_
        refine OpsW.det (det_move rfl) rfl ?_
        refine OpsW.det ((det_mul rfl rfl).to (v := .int .i64 (dg l i)) (dig_m hc34 hc41)) rfl ?_
        refine OpsW.fresh (fr_buildSlice rfl slice81) rfl fun b47 => ?_
        refine OpsW.perm (H' := hp ++ ((b47, blk [.int .i64 (dg l i)] 3) :: [(b4, blk (cellsP (0, 0)) 30), (b3, blk [.slice ad l.length cap] 22), (b2, blk (cellsP p) 30)])) List.perm_middle ?_
        refine OpsW.append (dd := 48) ty81 rfl hsl rfl (.inl (List.mem_append_right _ (List.Mem.head _))) rfl (fun j u h => by simpa using h) rfl (by show i + 1 ≤ 9223372036854775807; omega) (by show (i + 1) * 8 ≤ 140737488355328; omega) rfl fun v' hp' hsl' => ?_
        refine OpsW.det (det_assign rfl) rfl ?_
        refine sLast ?_
        refine bNext ?_
        refine W.keep (F' := [(5, _), (7, _), (23, _), (22, _), (6, _), (4, _), (2, _)]) ⟨rfl, rfl, rfl, rfl, rfl, rfl, rfl, trivial⟩ ?_
        refine W.region ?_
        refine OpsW.det (det_addN (b := 1) rfl rfl (by omega)) rfl ?_
        refine OpsW.det (det_move rfl) rfl ?_
        refine sLast ?_
        have ho := ov_m hc34 hc41
        exact rEnd (i + 1, v', hp') ⟨hlt, by rw [digs_succ]; exact hsl'⟩ ⟨rfl, rfl, by rw [← ho]; rfl, rfl, rfl, rfl, rfl, trivial⟩ (List.Sublist.append_left (List.Sublist.cons _ (List.Sublist.refl _)) _) (step_lt hlt)
      · skip
        refine sSkip ?_
        refine W.region ?_
        refine OpsW.det (det_move rfl) rfl ?_
        refine OpsW.det (det_move rfl) rfl ?_
        refine OpsW.det (det_and rfl rfl) rfl ?_
        refine OpsW.det (det_move rfl) rfl ?_
        refine OpsW.det ((det_mul rfl rfl).to (v := .int .i64 (dg l i)) (dig_1 hc34 hc41)) rfl ?_
        refine OpsW.fresh (fr_buildSlice rfl slice81) rfl fun b47 => ?_
        refine OpsW.perm (H' := hp ++ ((b47, blk [.int .i64 (dg l i)] 3) :: [(b4, blk (cellsP (0, 0)) 30), (b3, blk [.slice ad l.length cap] 22), (b2, blk (cellsP p) 30)])) List.perm_middle ?_
        refine OpsW.append (dd := 48) ty81 rfl hsl rfl (.inl (List.mem_append_right _ (List.Mem.head _))) rfl (fun j u h => by simpa using h) rfl (by show i + 1 ≤ 9223372036854775807; omega) (by show (i + 1) * 8 ≤ 140737488355328; omega) rfl fun v' hp' hsl' => ?_
        refine OpsW.det (det_assign rfl) rfl ?_
        refine sLast ?_
        refine bNext ?_
        refine W.keep (F' := [(5, _), (7, _), (23, _), (22, _), (6, _), (4, _), (2, _)]) ⟨rfl, rfl, rfl, rfl, rfl, rfl, rfl, trivial⟩ ?_
        refine W.region ?_
        refine OpsW.det (det_addN (b := 1) rfl rfl (by omega)) rfl ?_
        refine OpsW.det (det_move rfl) rfl ?_
        refine sLast ?_
        have ho := ov_1 hc41
        exact rEnd (i + 1, v', hp') ⟨hlt, by rw [digs_succ]; exact hsl'⟩ ⟨rfl, rfl, by rw [← ho]; rfl, rfl, rfl, rfl, rfl, trivial⟩ (List.Sublist.append_left (List.Sublist.cons _ (List.Sublist.refl _)) _) (step_lt hlt)
    · skip
      refine OpsW.det (det_move rfl) rfl ?_
      refine OpsW.guard_no rfl rfl rfl ?_
      refine OpsW.guard_no rfl rfl rfl ?_
      refine OpsW.guard_no rfl rfl rfl ?_
      refine OpsW.guard_no rfl rfl rfl ?_
      refine OpsW.guard_no rfl rfl rfl ?_
      refine OpsW.det (det_pick rfl rfl) rfl ?_
      refine sNext ?_
      refine W.keep (F' := [(41, _), (7, _), (9, _), (23, _), (22, _), (6, _), (5, _), (4, _), (2, _)]) ⟨rfl, rfl, rfl, rfl, rfl, rfl, rfl, rfl, rfl, trivial⟩ ?_
      refine W.cond_false rfl ?_
      refine sSkip ?_
      refine W.region ?_
      refine OpsW.det (det_move rfl) rfl ?_
      refine OpsW.det (det_move rfl) rfl ?_
      refine OpsW.det (det_and rfl rfl) rfl ?_
      refine OpsW.det (det_move rfl) rfl ?_
      refine OpsW.det ((det_mul rfl rfl).to (v := .int .i64 (dg l i)) (dig_n hc34)) rfl ?_
      refine OpsW.fresh (fr_buildSlice rfl slice81) rfl fun b47 => ?_
      refine OpsW.perm (H' := hp ++ ((b47, blk [.int .i64 (dg l i)] 3) :: [(b4, blk (cellsP (0, 0)) 30), (b3, blk [.slice ad l.length cap] 22), (b2, blk (cellsP p) 30)])) List.perm_middle ?_
      refine OpsW.append (dd := 48) ty81 rfl hsl rfl (.inl (List.mem_append_right _ (List.Mem.head _))) rfl (fun j u h => by simpa using h) rfl (by show i + 1 ≤ 9223372036854775807; omega) (by show (i + 1) * 8 ≤ 140737488355328; omega) rfl fun v' hp' hsl' => ?_
      refine OpsW.det (det_assign rfl) rfl ?_
      refine sLast ?_
      refine bNext ?_
      refine W.keep (F' := [(5, _), (7, _), (23, _), (22, _), (6, _), (4, _), (2, _)]) ⟨rfl, rfl, rfl, rfl, rfl, rfl, rfl, trivial⟩ ?_
      refine W.region ?_
      refine OpsW.det (det_addN (b := 1) rfl rfl (by omega)) rfl ?_
      refine OpsW.det (det_move rfl) rfl ?_
      refine sLast ?_
      have ho := ov_n hc34
      exact rEnd (i + 1, v', hp') ⟨hlt, by rw [digs_succ]; exact hsl'⟩ ⟨rfl, rfl, by rw [← ho]; rfl, rfl, rfl, rfl, rfl, trivial⟩ (List.Sublist.append_left (List.Sublist.cons _ (List.Sublist.refl _)) _) (step_lt hlt)
  · skip
    have hiN : i = 8 * l.length + 1 := by have h := hc24; simp only [decide_eq_false_iff_not] at h; omega
    subst hiN
    obtain ⟨pd, rfl, rfl, hpp⟩ := isSl_at hsl (Nat.succ_pos _)
    refine W.norm (F' := _) (H' := [(_, _), (_, _), (_, _), (_, _)]) rfl rfl ?_
    refine sExit ?_
    refine xLoop ?_
    refine xHere ?_
    refine W.keep (F' := [(5, _), (4, _), (2, _)]) ⟨rfl, rfl, rfl, trivial⟩ ?_
    refine sSeq ?_
    refine W.region ?_
    refine OpsW.fresh (fr_alloc z74r) rfl fun b10 => ?_
    refine sNext ?_
    refine sSeq ?_
    refine W.region ?_
    refine OpsW.det (det_loadA ty30 rfl (List.Mem.tail _ (List.Mem.tail _ (List.Mem.tail _ (List.Mem.tail _ (List.Mem.head _))))) rfl) rfl ?_
    refine OpsW.det (det_call en22 rfl (fun w hb ho => PNeg_ok (fun p hp => ho.look (List.mem_append_right _ hp)))) rfl ?_
    refine OpsW.fresh (fr_alloc z30) rfl fun b11 => ?_
    refine OpsW.store sz30 rfl rfl rfl rfl rfl (Upd.here) rfl ?_
    refine sNext ?_
    refine W.keep (F' := [(11, _), (10, _), (5, _), (4, _), (2, _)]) ⟨rfl, rfl, rfl, rfl, rfl, trivial⟩ ?_
    refine sSeq ?_
    refine sSeq ?_
    refine W.region ?_
    refine OpsW.det (det_move rfl) rfl ?_
    refine OpsW.det (det_len u81 rfl) rfl ?_
    refine OpsW.det (det_subZ (c := ((8 * l.length + 1 : Nat) : Int) - 1) rfl rfl (by omega) (by omega)) rfl ?_
    refine OpsW.det (det_assign rfl) rfl ?_
    refine sNext ?_
    refine W.keep (F' := [(12, _), (11, _), (10, _), (5, _), (4, _), (2, _)]) ⟨rfl, rfl, rfl, rfl, rfl, rfl, trivial⟩ ?_
    refine sBlock ?_
    have hjl : jl l p (8 * l.length + 1 - (8 * l.length + 1)) = (0, 0, 0) := by rw [Nat.sub_self]; rfl
    refine sLoop (σ := Nat) (fun k => [(12, .int .i64 (((k : Nat) : Int) - 1)), (11, .pointer (some ⟨b11, 0, none⟩)), (10, .pointer (some ⟨b10, 0, none⟩)), (5, .slice (some ⟨pd.1, 0, none⟩) (8 * l.length + 1) pd.2.1), (4, .pointer (some ⟨b4, 0, none⟩)), (2, .pointer (some ⟨b2, 0, none⟩))]) (fun k => [(b11, blk (cellsP (pneg p)) 30), (b10, blk (cellsJ (jl l p (8 * l.length + 1 - k))) 74), (pd.1, blk (digs l (8 * l.length + 1) ++ pd.2.2) 3), (b4, blk (cellsP (0, 0)) 30), (b3, blk [.slice ad l.length cap] 22), (b2, blk (cellsP p) 30)]) (fun k => k ≤ 8 * l.length + 1) (fun k => k) (8 * l.length + 1) (Nat.le_refl _) ⟨rfl, rfl, rfl, rfl, rfl, rfl, trivial⟩ (by rw [hjl]; exact List.Sublist.refl _) ?_
    intro k hk
    refine sSeq ?_
    refine sSeq ?_
    refine W.region ?_
    refine OpsW.det (det_move rfl) rfl ?_
    refine OpsW.det (det_geq rfl rfl) rfl ?_
    refine sNext ?_
    refine W.keep (F' := [(56, _), (12, _), (11, _), (10, _), (5, _), (4, _), (2, _)]) ⟨rfl, rfl, rfl, rfl, rfl, rfl, rfl, trivial⟩ ?_
    refine W.cond rfl (fun hc56 => ?_) (fun hc56 => ?_)
    · skip
      obtain ⟨k, rfl⟩ : ∃ j, k = j + 1 := ⟨k - 1, by have h := hc56; simp only [decide_eq_true_eq] at h; omega⟩
      refine W.norm (F' := [(56, _), (12, .int .i64 (k : Nat)), (11, _), (10, _), (5, _), (4, _), (2, _)]) (H' := [(_, _), (_, _), (_, _), (_, _), (_, _), (_, _)]) (by rw [show (((k + 1 : Nat) : Int) - 1) = ((k : Nat) : Int) by omega]) rfl ?_
      refine sSkip ?_
      refine sSeq ?_
      refine sBlock ?_
      refine sSeq ?_
      refine W.region ?_
      refine OpsW.det (det_loadA ty74 rfl (List.Mem.tail _ (List.Mem.head _)) rfl) rfl ?_
      refine OpsW.det (det_call en63 rfl (fun w hb ho => jdbl_ok (fun p hp => ho.look (List.mem_append_right _ hp)))) rfl ?_
      refine OpsW.store sz74 rfl rfl rfl rfl rfl (Upd.there (Upd.here)) rfl ?_
      refine sNext ?_
      refine W.keep (F' := [(12, _), (11, _), (10, _), (5, _), (4, _), (2, _)]) ⟨rfl, rfl, rfl, rfl, rfl, rfl, trivial⟩ ?_
      refine sSeq ?_
      refine W.region ?_
      refine OpsW.det (det_move rfl) rfl ?_
      refine OpsW.det (det_move rfl) rfl ?_
      refine OpsW.det (det_indexAddr_sl u81 sz3 rfl rfl ⟨by omega, by omega⟩) rfl ?_
      refine OpsW.det (det_loadC ty3 rfl (List.Mem.tail _ (List.Mem.tail _ (List.Mem.head _))) (digs_at (i := k) (n := 8 * l.length + 1) (by omega) (by omega))) rfl ?_
      refine sNext ?_
      refine W.keep (F' := [(64, _), (12, _), (11, _), (10, _), (5, _), (4, _), (2, _)]) ⟨rfl, rfl, rfl, rfl, rfl, rfl, rfl, trivial⟩ ?_
      refine sBlock ?_
      refine sSeq ?_
      refine W.region ?_
      refine OpsW.det (det_eql rfl rfl) rfl ?_
      refine OpsW.det (det_assign rfl) rfl ?_
      refine sNext ?_
      refine W.keep (F' := [(65, _), (64, _), (12, _), (11, _), (10, _), (5, _), (4, _), (2, _)]) ⟨rfl, rfl, rfl, rfl, rfl, rfl, rfl, rfl, trivial⟩ ?_
      refine W.cond rfl (fun hc65 => ?_) (fun hc65 => ?_)
      · skip
        refine W.region ?_
        refine OpsW.det (det_loadA ty74 rfl (List.Mem.tail _ (List.Mem.head _)) rfl) rfl ?_
        refine OpsW.det (det_loadA ty30 rfl (List.Mem.tail _ (List.Mem.tail _ (List.Mem.tail _ (List.Mem.tail _ (List.Mem.tail _ (List.Mem.head _)))))) rfl) rfl ?_
        refine OpsW.det (det_call en53 rfl (fun w hb ho => jadd_ok (fun p hp => ho.look (List.mem_append_right _ hp)))) rfl ?_
        refine OpsW.store sz74 rfl rfl rfl rfl rfl (Upd.there (Upd.here)) rfl ?_
        refine sLast ?_
        refine bLast ?_
        refine bNext ?_
        refine W.keep (F' := [(12, _), (11, _), (10, _), (5, _), (4, _), (2, _)]) ⟨rfl, rfl, rfl, rfl, rfl, rfl, trivial⟩ ?_
        refine W.region ?_
        refine OpsW.det (det_move rfl) rfl ?_
        refine OpsW.det (det_subZ (c := ((k : Nat) : Int) - 1) rfl rfl (by omega) (by omega)) rfl ?_
        refine OpsW.det (det_assign rfl) rfl ?_
        refine sLast ?_
        exact rEnd k (Nat.le_of_succ_le hk) ⟨rfl, rfl, rfl, rfl, rfl, rfl, trivial⟩ (by rw [jl_one hk hc65]; exact List.Sublist.refl _) (Nat.lt_succ_self _)
      · skip
        refine sSeq ?_
        refine W.region ?_
        refine OpsW.det (det_eql rfl rfl) rfl ?_
        refine OpsW.det (det_assign rfl) rfl ?_
        refine sNext ?_
        refine W.keep (F' := [(70, _), (12, _), (11, _), (10, _), (5, _), (4, _), (2, _)]) ⟨rfl, rfl, rfl, rfl, rfl, rfl, rfl, trivial⟩ ?_
        refine W.cond rfl (fun hc70 => ?_) (fun hc70 => ?_)
        · skip
          refine W.region ?_
          refine OpsW.det (det_loadA ty74 rfl (List.Mem.tail _ (List.Mem.head _)) rfl) rfl ?_
          refine OpsW.det (det_loadA ty30 rfl (List.Mem.head _) rfl) rfl ?_
          refine OpsW.det (det_call en53 rfl (fun w hb ho => jadd_ok (fun p hp => ho.look (List.mem_append_right _ hp)))) rfl ?_
          refine OpsW.store sz74 rfl rfl rfl rfl rfl (Upd.there (Upd.here)) rfl ?_
          refine sLast ?_
          refine bLast ?_
          refine bNext ?_
          refine W.keep (F' := [(12, _), (11, _), (10, _), (5, _), (4, _), (2, _)]) ⟨rfl, rfl, rfl, rfl, rfl, rfl, trivial⟩ ?_
          refine W.region ?_
          refine OpsW.det (det_move rfl) rfl ?_
          refine OpsW.det (det_subZ (c := ((k : Nat) : Int) - 1) rfl rfl (by omega) (by omega)) rfl ?_
          refine OpsW.det (det_assign rfl) rfl ?_
          refine sLast ?_
          exact rEnd k (Nat.le_of_succ_le hk) ⟨rfl, rfl, rfl, rfl, rfl, rfl, trivial⟩ (by rw [jl_neg hk hc65 hc70]; exact List.Sublist.refl _) (Nat.lt_succ_self _)
        · skip
          refine sSkip0 ?_
          refine bLast ?_
          refine bNext ?_
          refine W.keep (F' := [(12, _), (11, _), (10, _), (5, _), (4, _), (2, _)]) ⟨rfl, rfl, rfl, rfl, rfl, rfl, trivial⟩ ?_
          refine W.region ?_
          refine OpsW.det (det_move rfl) rfl ?_
          refine OpsW.det (det_subZ (c := ((k : Nat) : Int) - 1) rfl rfl (by omega) (by omega)) rfl ?_
          refine OpsW.det (det_assign rfl) rfl ?_
          refine sLast ?_
          exact rEnd k (Nat.le_of_succ_le hk) ⟨rfl, rfl, rfl, rfl, rfl, rfl, trivial⟩ (by rw [jl_nil hk hc65 hc70]; exact List.Sublist.refl _) (Nat.lt_succ_self _)
    · skip
      have hk0 : k = 0 := by have h := hc56; simp only [decide_eq_false_iff_not] at h; omega
      subst hk0
      refine sExit ?_
      refine xLoop ?_
      refine xHere ?_
      refine W.keep (F' := [(10, _), (4, _)]) ⟨rfl, rfl, trivial⟩ ?_
      refine sSeq ?_
      refine W.region ?_
      refine OpsW.det (det_loadA ty74 rfl (List.Mem.tail _ (List.Mem.head _)) rfl) rfl ?_
      refine OpsW.det (det_call en54 rfl (fun w hb ho => point_ok (fun p hp => ho.look (List.mem_append_right _ hp)))) rfl ?_
      refine OpsW.store sz30 rfl rfl rfl rfl rfl (Upd.there (Upd.there (Upd.there (Upd.here)))) rfl ?_
      refine sNext ?_
      refine W.keep (F' := [(4, _)]) ⟨rfl, trivial⟩ ?_
      refine sRet ?_
      exact done1 Tryd.results25 (rv_cellA ty30 rfl (List.Mem.tail _ (List.Mem.tail _ (List.Mem.tail _ (List.Mem.head _)))) rfl) rfl

end Go.Cu

/- The first group: products with scalars, sums of lists: the walks. Conditions: as many as memory has. -/
namespace Go.Cu
open Go Go.Vm Go.RowKit Go.Proofs 
attribute [local irreducible] W OpsW Det Fresh New Writes Vm.Pure Makes Changes ExternTo BuildTo ZeroTo FieldTo IndexTo BinTo SliceTo Vm.Enters
set_option linter.unusedVariables false
set_option linter.unusedSimpArgs false
variable {T : Nat → TypeId × Nat × Nat}

def blist (x : Fs) : List Nat := (List.range 32).map fun i => byt x.val (31 - i)
theorem rbytes_eq (x : Fs) : rbytes x = bcells (blist x) := by unfold rbytes bcells blist; rw [bytes_all, List.map_map]; rfl
theorem blist_small (x : Fs) : ∀ c ∈ blist x, c < 256 := by
  intro c hc
  unfold blist at hc
  obtain ⟨i, _, rfl⟩ := List.mem_map.1 hc
  exact Nat.mod_lt _ (by decide)
theorem blist_len (x : Fs) : (blist x).length = 32 := by simp [blist]
theorem rbytes_one (x : Fs) : (rbytes x).all (·.oneCell') = true := bytes_one _ _ _
theorem blist_Bs (x : Fs) (b : Nat) : Bs [(b, blk (rbytes x) 52)] (.slice (some ⟨b, 0, none⟩) 32 32) (blist x) := by
  have h := Bs.of (b := b) (cap := 32) (spare := []) (e := 52) (fr := (0, 0)) (blist_small x) (by rw [blist_len]; exact Nat.le_refl _)
  rw [blist_len, List.append_nil, ← rbytes_eq] at h
  exact h
/-- So many times. -/
def pmul (p : Pt) (x : Fs) : Pt := times (blist x) p
theorem splice_52 (x : Fs) : splice 0 (rbytes x) (bst 0 0) = some (rbytes x) := splice_all (by rw [bst_len (Nat.zero_le _), rbytes_len])
/-- v is a slice of the points l, which lie in a block of G'. -/
structure Pts (G' : Hp) (v : Value) (l : List Pt) : Prop where
  shape : ∃ ad cap, v = .slice ad l.length cap
  at_ : ∀ i (h : i < l.length), ∃ (b o cap : Nat) (cs : List Value) (e : TypeId) (fr : Nat × Nat), v = .slice (some ⟨b, o, none⟩) l.length cap ∧ (b, Obj.cells cs.toArray e fr) ∈ G' ∧ cut (o + i * 12) 12 cs = some (cellsP l[i])
def jsum (l : List Pt) : Jac := l.foldl (fun j p => jadd j p) (0, 0, 0)
def psum (l : List Pt) : Pt := point (jsum l)
theorem jsum_step {l : List Pt} {i : Nat} (h : i < l.length) : jsum (l.take (i + 1)) = jadd (jsum (l.take i)) l[i] := by
  unfold jsum
  rw [List.take_succ_eq_append_getElem h, List.foldl_append]
  rfl
theorem off_i {o i : Nat} : o + ((i : Nat) : Int).toNat * 12 = o + i * 12 := by simp

theorem en25 : Vm.Enters Tryd.prog 25 := Vm.Enters.of fun _ _ => by kernel_rfl
theorem en32 : Vm.Enters Tryd.prog 32 := Vm.Enters.of fun _ _ => by kernel_rfl
theorem u45 : Tryd.prog.underlying 45 = some (.slice 30) := by kernel_rfl
theorem PMul_ok {p : Pt} {x : Fs} {w : World} (hG : Blocks (GH T) w)  : Vm.Pure Tryd.prog 18 #[encP p, encR x] w (encP (pmul p x)) := by
  refine pure_of_W (n := 11) (args := [encP p, encR x]) Tryd.func18 rfl Tryd.ntmps18 (Nat.le_of_ble_eq_true rfl) hG ?_
  refine sStart ?_
  refine sSeq ?_
  refine W.region ?_
  refine OpsW.fresh (fr_box rfl rfl) rfl fun b2 => ?_
  refine OpsW.fresh (fr_box rfl rfl) rfl fun b3 => ?_
  refine OpsW.fresh (fr_alloc z30) rfl fun b4 => ?_
  refine sNext ?_
  refine W.keep (F' := [(4, _), (3, _), (2, _)]) ⟨rfl, rfl, rfl, trivial⟩ ?_
  refine sSeq ?_
  refine W.region ?_
  refine OpsW.det (det_loadA ty35 rfl (List.Mem.tail _ (List.Mem.head _)) rfl) rfl ?_
  refine OpsW.det (det_call en32 rfl (fun w hb ho => Cu.RBytes_ok ho.blocks)) rfl ?_
  refine OpsW.fresh (fr_alloc z52) rfl fun b5 => ?_
  refine OpsW.store sz52 rfl rfl rfl (rbytes_len x) (rbytes_one x) (Upd.here) (splice_52 x) ?_
  refine sNext ?_
  refine W.keep (F' := [(5, _), (4, _), (2, _)]) ⟨rfl, rfl, rfl, trivial⟩ ?_
  refine sSeq ?_
  refine W.draw mixed 3 [[], [], [0, 1], [0, 1, 2]] (cl_lt (by decide)) ?_
  refine HeadR.start (cl_lt (by decide)) ?_
  refine HeadR.det rfl (fun β hβ => (det_loadA ty30 rfl (List.Mem.tail _ (List.Mem.tail _ (List.Mem.tail _ (List.Mem.head _)))) rfl)) ?_
  refine HeadR.det rfl (fun β hβ => ((det_sliceArr (lo := none) (hi := none) (l := 0) (h := 32) u52 sz5 rfl rfl rfl (by decide) (by decide)).to (v := .slice (some ⟨b5, 0, none⟩) 32 32) rfl)) ?_
  refine HeadR.det rfl (fun β hβ => (det_call en25 rfl (fun w hb ho => Times_ok (G' := [(b5, blk (rbytes x) 52)]) (p := p) (blist_Bs x b5) (by rw [blist_len]; decide) (blocks_cons (hb _ (List.Mem.head _)) ho.blocks)))) ?_
  refine HeadR.done ⟨by kernel_rfl, fun β hβ => ?_⟩
  refine OpsW.norm (F' := [(8, _), (9, _), (10, _), (5, _), (4, _), (2, _)]) (H' := [(_, _), (_, _), (_, _), (_, _)]) rfl rfl ?_
  refine OpsW.store sz30 rfl rfl rfl rfl rfl (Upd.there (Upd.here)) rfl ?_
  refine sNext ?_
  refine W.keep (F' := [(4, _)]) ⟨rfl, trivial⟩ ?_
  refine sRet ?_
  exact done1 Tryd.results18 (rv_cellA ty30 rfl (List.Mem.tail _ (List.Mem.head _)) rfl) rfl
theorem PSum_ok {G' : Hp} {v : Value} {l : List Pt} (hB : Pts G' v l) (hl : l.length ≤ 1000000000000) {w : World} (hG : Blocks (G' ++ GH T) w)  : Vm.Pure Tryd.prog 21 #[v] w (encP (psum l)) := by
  obtain ⟨ad, cap, hvv⟩ := hB.shape
  refine pure_of_W (n := 18) (args := [v]) Tryd.func21 rfl Tryd.ntmps21 (Nat.le_of_ble_eq_true rfl) hG ?_
  refine sStart ?_
  refine sSeq ?_
  subst hvv
  refine W.region ?_
  refine OpsW.fresh (fr_alloc z30) rfl fun b2 => ?_
  refine sNext ?_
  refine sSeq ?_
  refine W.region ?_
  refine OpsW.fresh (fr_alloc z74r) rfl fun b3 => ?_
  refine sNext ?_
  refine sSeq ?_
  refine sSeq ?_
  refine W.region ?_
  refine OpsW.det (det_move rfl) rfl ?_
  refine OpsW.det (det_len u45 rfl) rfl ?_
  refine OpsW.det (det_move rfl) rfl ?_
  refine sNext ?_
  refine W.keep (F' := [(8, _), (7, _), (6, _), (3, _), (2, _)]) ⟨rfl, rfl, rfl, rfl, rfl, trivial⟩ ?_
  refine sBlock ?_
  refine sLoop (σ := Nat) (fun i => [(8, .int .i64 (i : Nat)), (7, .int .i64 (l.length : Nat)), (6, .slice ad l.length cap), (3, .pointer (some ⟨b3, 0, none⟩)), (2, .pointer (some ⟨b2, 0, none⟩))]) (fun i => [(b3, blk (cellsJ (jsum (l.take i))) 74), (b2, blk (cellsP (0, 0)) 30)]) (fun i => i ≤ l.length) (fun i => l.length - i) 0 (Nat.zero_le _) ⟨rfl, rfl, rfl, rfl, rfl, trivial⟩ (List.Sublist.refl _) ?_
  intro i hi
  refine sSeq ?_
  refine W.region ?_
  refine OpsW.det (det_lss rfl rfl) rfl ?_
  refine sNext ?_
  refine sSeq ?_
  refine W.cond rfl (fun hc9 => ?_) (fun hc9 => ?_)
  · skip
    have hlt : i < l.length := by have h := hc9; simp only [decide_eq_true_eq] at h; omega
    obtain ⟨bk, o, cap', cs, e, fr, hv, hm, hcell⟩ := hB.at_ i hlt
    simp only [Value.slice.injEq] at hv
    obtain ⟨rfl, _, rfl⟩ := hv
    refine sSkip ?_
    refine sSeq ?_
    refine sBlock ?_
    refine sSeq ?_
    refine W.region ?_
    refine OpsW.det (det_indexAddr_sl u45 sz30 rfl rfl ⟨by omega, by omega⟩) rfl ?_
    refine OpsW.det (det_loadA_ro ty30 rfl (List.mem_append_left _ hm) (show cut (o + ((i : Nat) : Int).toNat * 12) 12 cs = some (cellsP l[i]) by rw [off_i]; exact hcell)) rfl ?_
    refine OpsW.fresh (fr_alloc z30) rfl fun b5 => ?_
    refine OpsW.store sz30 rfl rfl rfl rfl rfl (Upd.here) rfl ?_
    refine sNext ?_
    refine W.keep (F' := [(5, _), (8, _), (7, _), (6, _), (3, _), (2, _)]) ⟨rfl, rfl, rfl, rfl, rfl, rfl, trivial⟩ ?_
    refine W.region ?_
    refine OpsW.det (det_loadA ty74 rfl (List.Mem.tail _ (List.Mem.head _)) rfl) rfl ?_
    refine OpsW.det (det_loadA ty30 rfl (List.Mem.head _) rfl) rfl ?_
    refine OpsW.det (det_call en53 rfl (fun w hb ho => jadd_ok (fun p hp => ho.look (List.mem_append_right _ hp)))) rfl ?_
    refine OpsW.store sz74 rfl rfl rfl rfl rfl (Upd.there (Upd.here)) rfl ?_
    refine sLast ?_
    refine bNext ?_
    refine W.keep (F' := [(8, _), (7, _), (6, _), (3, _), (2, _)]) ⟨rfl, rfl, rfl, rfl, rfl, trivial⟩ ?_
    refine W.region ?_
    refine OpsW.det (det_addN (b := 1) rfl rfl (by omega)) rfl ?_
    refine OpsW.det (det_move rfl) rfl ?_
    refine sLast ?_
    exact rEnd (i + 1) hlt ⟨rfl, rfl, rfl, rfl, rfl, trivial⟩ (by rw [jsum_step hlt]; exact List.Sublist.cons _ (List.Sublist.refl _)) (step_lt hlt)
  · skip
    have hi4 : i = l.length := by have h := hc9; simp only [decide_eq_false_iff_not] at h; omega
    subst hi4
    refine sExit ?_
    refine xLoop ?_
    refine xHere ?_
    refine W.keep (F' := [(3, _), (2, _)]) ⟨rfl, rfl, trivial⟩ ?_
    refine sSeq ?_
    refine W.region ?_
    refine OpsW.det (det_loadA ty74 rfl (List.Mem.head _) rfl) rfl ?_
    refine OpsW.det (det_call en54 rfl (fun w hb ho => point_ok (fun p hp => ho.look (List.mem_append_right _ hp)))) rfl ?_
    refine OpsW.store sz30 rfl rfl rfl rfl rfl (Upd.there (Upd.here)) rfl ?_
    refine sNext ?_
    refine W.keep (F' := [(2, _)]) ⟨rfl, trivial⟩ ?_
    refine sRet ?_
    exact done1 Tryd.results21 (rv_cellA ty30 rfl (List.Mem.tail _ (List.Mem.head _)) rfl) (congrArg (fun z => encP (psum z)) (List.take_length))

end Go.Cu

/- The first group's field: numbers read: the walks. Conditions: none. -/
namespace Go.Cu
open Go Go.Vm Go.RowKit Go.Proofs 
attribute [local irreducible] W OpsW Det Fresh New Writes Vm.Pure Makes Changes ExternTo BuildTo ZeroTo FieldTo IndexTo BinTo SliceTo Vm.Enters
set_option linter.unusedVariables false
set_option linter.unusedSimpArgs false
variable {T : Nat → TypeId × Nat × Nat}

/-- The number that bytes are, the highest first. -/
def beN (l : List Nat) : Nat := l.foldl (fun x c => x * 256 + c) 0
theorem beN_from (l : List Nat) : ∀ a : Nat, l.foldl (fun x c => x * 256 + c) a = a * 256 ^ l.length + beN l := by
  induction l with
  | nil => intro a; simp [beN]
  | cons c l ih =>
    intro a
    unfold beN
    simp only [List.foldl_cons, List.length_cons]
    rw [ih, ih (0 * 256 + c), Nat.pow_succ, Nat.add_mul, Nat.add_mul]
    simp only [Nat.zero_mul, Nat.zero_add]
    rw [Nat.mul_assoc a 256, Nat.mul_comm 256, Nat.add_assoc]
theorem beN_app (a b : List Nat) : beN (a ++ b) = beN a * 256 ^ b.length + beN b := by
  unfold beN; rw [List.foldl_append, beN_from]; rfl
theorem beN_lt {l : List Nat} (h : ∀ c ∈ l, c < 256) : beN l < 256 ^ l.length := by
  induction l with
  | nil => simp [beN]
  | cons c l ih =>
    have h1 := ih fun x hx => h x (List.mem_cons_of_mem _ hx)
    have h2 := h c List.mem_cons_self
    have h3 := beN_from l c
    show beN (c :: l) < _
    unfold beN
    simp only [List.foldl_cons, Nat.zero_mul, Nat.zero_add, List.length_cons]
    rw [h3, Nat.pow_succ]
    have : (c + 1) * 256 ^ l.length ≤ 256 * 256 ^ l.length := Nat.mul_le_mul_right _ h2
    rw [Nat.add_mul] at this
    omega
theorem beN_word {l : List Nat} {i : Nat} (hl : l.length = 48) (hs : ∀ c ∈ l, c < 256) (hi : i < 6) : beN ((l.drop (8 * i)).take 8) = lim (beN l) (5 - i) := by
  have e : l = l.take (8 * i) ++ ((l.drop (8 * i)).take 8 ++ (l.drop (8 * i)).drop 8) := by rw [List.take_append_drop, List.take_append_drop]
  have hb := beN_lt (l := (l.drop (8 * i)).take 8) fun c hc => hs c (List.mem_of_mem_drop (List.mem_of_mem_take hc))
  have hc := beN_lt (l := (l.drop (8 * i)).drop 8) fun c hc => hs c (List.mem_of_mem_drop (List.mem_of_mem_drop hc))
  rw [show ((l.drop (8 * i)).take 8).length = 8 by simp; omega] at hb
  rw [show ((l.drop (8 * i)).drop 8).length = 8 * (5 - i) by simp; omega] at hc
  have hN : beN l = beN (l.take (8 * i)) * 256 ^ (8 + 8 * (5 - i)) + (beN ((l.drop (8 * i)).take 8) * 256 ^ (8 * (5 - i)) + beN ((l.drop (8 * i)).drop 8)) := by
    conv => lhs; rw [e]
    rw [beN_app, beN_app, List.length_append, show ((l.drop (8 * i)).take 8).length = 8 by simp; omega, show ((l.drop (8 * i)).drop 8).length = 8 * (5 - i) by simp; omega]
  unfold lim
  rw [show 18446744073709551616 ^ (5 - i) = 256 ^ (8 * (5 - i)) by rw [Nat.pow_mul]]
  generalize beN ((l.drop (8 * i)).take 8) = b at *
  generalize beN ((l.drop (8 * i)).drop 8) = c at *
  generalize beN (l.take (8 * i)) = a at *
  rw [hN, Nat.pow_add, show a * (256 ^ 8 * 256 ^ (8 * (5 - i))) + (b * 256 ^ (8 * (5 - i)) + c) = c + 256 ^ (8 * (5 - i)) * (b + 256 ^ 8 * a) by
    rw [Nat.mul_add, Nat.mul_comm _ b, show 256 ^ (8 * (5 - i)) * (256 ^ 8 * a) = a * (256 ^ 8 * 256 ^ (8 * (5 - i))) by ac_rfl]; omega, Nat.add_mul_div_left _ _ (Nat.pow_pos (by decide)), Nat.div_eq_of_lt hc, Nat.zero_add, show (18446744073709551616 : Nat) = 256 ^ 8 from rfl, Nat.add_mul_mod_self_left, Nat.mod_eq_of_lt hb]
theorem beN_step {l : List Nat} {i : Nat} (h : i < l.length) : beN (l.take (i + 1)) = beN (l.take i) * 256 + l[i] := by
  unfold beN
  rw [List.take_succ_eq_append_getElem h, List.foldl_append]
  rfl
theorem beN_top {l : List Nat} {i : Nat} (hs : ∀ c ∈ l, c < 256) (hi : i < 8) : beN (l.take i) < 72057594037927936 := by
  have h := beN_lt (l := l.take i) fun c hc => hs c (List.mem_of_mem_take hc)
  have h2 : 256 ^ (l.take i).length ≤ 256 ^ 7 := Nat.pow_le_pow_right (by decide) (by simp; omega)
  exact Nat.lt_of_lt_of_le h h2
section
variable {P : Program} {K : List Nat} {G : Hp} {w0 : World} {F : Fr} {H : Hp} {ty : TypeId} {pos : String} {after : Array Edge} {x y : Operand} {xt yt : TypeId} {d : Option Tmp} {g : Option (Nat × Bool)}
theorem det_orN {a b : Nat} (hx : ev F x = some (.int .u64 ((a * 2 ^ 8 % 18446744073709551616 : Nat) : Int))) (hy : ev F y = some (.int .u64 b)) (ha : a < 72057594037927936) (hb : b < 256) : Det P K G w0 ⟨d, .binOp .or xt x y yt, ty, pos, after, g⟩ F H (.int .u64 ((a * 256 + b : Nat) : Int)) :=
  (det_or hx hy).to (by
    have e : a * 2 ^ 8 % 18446744073709551616 = 2 ^ 8 * a := by rw [Nat.mod_eq_of_lt (by omega)]; omega
    rw [e, (Go.Vm.bits_nat (by omega) (by omega)).2, ← Nat.two_pow_add_eq_or_of_lt (i := 8) (by omega)]
    congr 2
    omega)
end


theorem get_ok {G' : Hp} {b o len cap : Nat} {cs : List Value} {e : TypeId} {fr : Nat × Nat} {l : List Nat} (hl : l.length = 8) (hs : ∀ c ∈ l, c < 256) (hlen : 8 ≤ len ∧ len ≤ cap) (hm : (b, Obj.cells cs.toArray e fr) ∈ G') (hcs : ∀ i (h : i < l.length), cs[o + i]? = some (u8 l[i])) {w : World} (hG : Blocks (G' ++ GH T) w)  : Vm.Pure Tryd.prog 93 #[.slice (some ⟨b, o, none⟩) len cap, .int .i64 8] w (u64 (beN l)) := by
  refine pure_of_W (n := 23) (args := [.slice (some ⟨b, o, none⟩) len cap, .int .i64 8]) Tryd.func93 rfl Tryd.ntmps93 (Nat.le_of_ble_eq_true rfl) hG ?_
  refine sStart ?_
  refine sSeq ?_
  refine W.region ?_
  refine OpsW.det (det_assign rfl) rfl ?_
  refine sNext ?_
  refine W.keep (F' := [(0, _), (1, _)]) ⟨rfl, rfl, trivial⟩ ?_
  refine sSeq ?_
  refine W.region ?_
  refine OpsW.det (det_assign rfl) rfl ?_
  refine sNext ?_
  refine sSeq ?_
  refine sSeq ?_
  refine W.region ?_
  refine OpsW.det (det_move rfl) rfl ?_
  refine OpsW.det (det_move rfl) rfl ?_
  refine OpsW.det ((det_slice (lo := none) (hi := some (.tmp 9)) (l := 0) (h := 8) u22 sz5 rfl rfl ⟨_, rfl⟩ (by decide) (by omega) (by omega)).to (v := .slice (some ⟨b, o, none⟩) 8 cap) (by rw [if_neg (by omega), Nat.zero_mul, Nat.add_zero]; rfl)) rfl ?_
  refine OpsW.det (det_len u22 rfl) rfl ?_
  refine OpsW.det (det_move rfl) rfl ?_
  refine sNext ?_
  refine W.keep (F' := [(12, _), (11, _), (10, _), (5, _)]) ⟨rfl, rfl, rfl, rfl, trivial⟩ ?_
  refine sBlock ?_
  refine sLoop (σ := Nat) (fun i => [(12, .int .i64 (i : Nat)), (11, .int .i64 8), (10, .slice (some ⟨b, o, none⟩) 8 cap), (5, u64 (beN (l.take i)))]) (fun i => []) (fun i => i ≤ l.length) (fun i => l.length - i) 0 (Nat.zero_le _) ⟨rfl, rfl, rfl, rfl, trivial⟩ (List.Sublist.refl _) ?_
  intro i hi
  refine sSeq ?_
  refine W.region ?_
  refine OpsW.det (det_lss rfl rfl) rfl ?_
  refine sNext ?_
  refine sSeq ?_
  refine W.cond rfl (fun hc13 => ?_) (fun hc13 => ?_)
  · skip
    have hlt : i < l.length := by have h := hc13; simp only [decide_eq_true_eq] at h; omega
    refine sSkip ?_
    refine sSeq ?_
    refine sBlock ?_
    refine sSeq ?_
    refine W.region ?_
    refine OpsW.det (det_indexAddr_sl u22 sz5 rfl rfl ⟨by omega, by omega⟩) rfl ?_
    refine OpsW.det (det_loadC_ro ty5 rfl (List.mem_append_left _ hm) (show cs[o + ((i : Nat) : Int).toNat * 1]? = some (u8 l[i]) by simpa using hcs i hlt)) rfl ?_
    refine OpsW.det (det_assign rfl) rfl ?_
    refine sNext ?_
    refine W.keep (F' := [(7, _), (12, _), (11, _), (10, _), (5, _)]) ⟨rfl, rfl, rfl, rfl, rfl, trivial⟩ ?_
    refine W.region ?_
    refine OpsW.det (det_move rfl) rfl ?_
    refine OpsW.det (det_shlN (b := 8) rfl rfl (by decide)) rfl ?_
    refine OpsW.det (det_move rfl) rfl ?_
    refine OpsW.det ((det_conv u5 u25 rfl).to (conv_byte (hs _ (List.getElem_mem hlt)))) rfl ?_
    refine OpsW.det ((det_orN rfl rfl (beN_top hs (by omega)) (hs _ (List.getElem_mem hlt))).to (congrArg u64 (beN_step hlt).symm)) rfl ?_
    refine OpsW.det (det_assign rfl) rfl ?_
    refine sLast ?_
    refine bNext ?_
    refine W.keep (F' := [(5, _), (12, _), (11, _), (10, _)]) ⟨rfl, rfl, rfl, rfl, trivial⟩ ?_
    refine W.region ?_
    refine OpsW.det (det_addN (b := 1) rfl rfl (by omega)) rfl ?_
    refine OpsW.det (det_move rfl) rfl ?_
    refine sLast ?_
    exact rEnd (i + 1) hlt ⟨rfl, rfl, rfl, rfl, trivial⟩ (List.Sublist.refl _) (step_lt hlt)
  · skip
    have hi4 : i = l.length := by have h := hc13; simp only [decide_eq_false_iff_not] at h; omega
    subst hi4
    refine sExit ?_
    refine xLoop ?_
    refine xHere ?_
    refine W.keep (F' := [(5, _)]) ⟨rfl, trivial⟩ ?_
    refine sSeq ?_
    refine W.region ?_
    refine OpsW.det (det_move rfl) rfl ?_
    refine OpsW.det (det_assign rfl) rfl ?_
    refine sNext ?_
    refine W.keep (F' := [(4, _)]) ⟨rfl, trivial⟩ ?_
    refine sRet ?_
    exact done1 Tryd.results93 (rv_tmp rfl) (congrArg (fun z => u64 (beN z)) (List.take_length))

end Go.Cu

/- The first group's field: numbers read: the walks. Conditions: none. -/
namespace Go.Cu
open Go Go.Vm Go.RowKit Go.Proofs 
attribute [local irreducible] W OpsW Det Fresh New Writes Vm.Pure Makes Changes ExternTo BuildTo ZeroTo FieldTo IndexTo BinTo SliceTo Vm.Enters
set_option linter.unusedVariables false
set_option linter.unusedSimpArgs false
variable {T : Nat → TypeId × Nat × Nat}

theorem bor_step (i m k : Nat) : (if lim m i < lim k i + bor i m k then 1 else 0) = bor (i + 1) m k := by
  have h0 : 0 < 18446744073709551616 ^ i := Nat.pow_pos (by decide)
  have h1 := Nat.mod_lt m h0
  have h2 := Nat.mod_lt k h0
  unfold bor
  rw [mod_succ, mod_succ]
  generalize m % 18446744073709551616 ^ i = a at *
  generalize k % 18446744073709551616 ^ i = b at *
  generalize lim m i = x
  generalize lim k i = y
  generalize 18446744073709551616 ^ i = Q at *
  rcases Nat.lt_trichotomy x y with h | h | h
  · have : Q * x + Q ≤ Q * y := by rw [← Nat.mul_succ]; exact Nat.mul_le_mul_left _ h
    rw [if_pos (show x < y + _ by omega), if_pos (by omega)]
  · subst h
    by_cases hab : a < b
    · rw [if_pos (by rw [if_pos hab]; omega), if_pos (by omega)]
    · rw [if_neg (by rw [if_neg hab]; omega), if_neg (by omega)]
  · have : Q * y + Q ≤ Q * x := by rw [← Nat.mul_succ]; exact Nat.mul_le_mul_left _ h
    rw [if_neg (by split <;> omega), if_neg (by omega)]
theorem bor_6 {m : Nat} (hm : m < R6) : ((bor 6 m pp : Int) == 1) = decide (m < pp) := by
  unfold bor
  rw [show 18446744073709551616 ^ 6 = R6 from by decide, Nat.mod_eq_of_lt hm, Nat.mod_eq_of_lt (show pp < R6 by decide)]
  by_cases h : m < pp
  · rw [if_pos h, decide_eq_true h]; rfl
  · rw [if_neg h, decide_eq_false h]; rfl
/-- What fp.Read hands back. -/
def readF (l : List Nat) : Fq × Int := if l.length ≠ 48 then (0, 10) else if beN l < pp then (Zp.of (beN l), 0) else (0, 12)
theorem readF_len {l : List Nat} (h : l.length ≠ 48) : readF l = (0, 10) := if_pos h
theorem readF_no {l : List Nat} (h : l.length = 48) (h2 : ¬ beN l < pp) : readF l = (0, 12) := by unfold readF; rw [if_neg (by omega), if_neg h2]
theorem readF_yes {l : List Nat} (h : l.length = 48) (h2 : beN l < pp) : readF l = (Zp.of (beN l), 0) := by unfold readF; rw [if_neg (by omega), if_pos h2]
theorem readF_post {l : List Nat} {x : Fq} {e : Int} (h : readF l = (x, e)) : Value.tuple #[encF x, .int .i64 e] = .tuple #[encF (readF l).1, .int .i64 (readF l).2] := by rw [h]
/-- The i highest words, and noughts. -/
def hiw (N i j : Nat) : Nat := if 6 ≤ i + j then lim N j else 0
theorem hiw_new {N i : Nat} (h : i < 6) : hiw N (i + 1) (5 - i) = lim N (5 - i) := if_pos (by omega)
theorem hiw_old {N i j : Nat} (h : j ≠ 5 - i) (hi : i < 6) : hiw N (i + 1) j = hiw N i j := by
  unfold hiw
  by_cases hj : 6 ≤ i + j
  · rw [if_pos hj, if_pos (by omega)]
  · rw [if_neg hj, if_neg (by omega)]
theorem hiw_all {N : Nat} : ∀ j, hiw N 6 j = lim N j := fun j => if_pos (by omega)
abbrev w6 (f : Nat → Nat) : List Value := [u64 (f 0), u64 (f 1), u64 (f 2), u64 (f 3), u64 (f 4), u64 (f 5)]
theorem put6 {f f' : Nat → Nat} {v i k : Nat} (h : i < 6) (hk : k = i) (hv : f' i = v) (hf : ∀ j, j ≠ i → f' j = f j) : splice k [u64 v] (w6 f) = some (w6 f') := by
  subst hk
  have : k = 0 ∨ k = 1 ∨ k = 2 ∨ k = 3 ∨ k = 4 ∨ k = 5 := by omega
  rcases this with rfl | rfl | rfl | rfl | rfl | rfl
  · show some [u64 v, u64 (f 1), u64 (f 2), u64 (f 3), u64 (f 4), u64 (f 5)] = some (w6 f'); unfold w6; rw [hv, hf 1 (by decide), hf 2 (by decide), hf 3 (by decide), hf 4 (by decide), hf 5 (by decide)]
  · show some [u64 (f 0), u64 v, u64 (f 2), u64 (f 3), u64 (f 4), u64 (f 5)] = some (w6 f'); unfold w6; rw [hv, hf 0 (by decide), hf 2 (by decide), hf 3 (by decide), hf 4 (by decide), hf 5 (by decide)]
  · show some [u64 (f 0), u64 (f 1), u64 v, u64 (f 3), u64 (f 4), u64 (f 5)] = some (w6 f'); unfold w6; rw [hv, hf 0 (by decide), hf 1 (by decide), hf 3 (by decide), hf 4 (by decide), hf 5 (by decide)]
  · show some [u64 (f 0), u64 (f 1), u64 (f 2), u64 v, u64 (f 4), u64 (f 5)] = some (w6 f'); unfold w6; rw [hv, hf 0 (by decide), hf 1 (by decide), hf 2 (by decide), hf 4 (by decide), hf 5 (by decide)]
  · show some [u64 (f 0), u64 (f 1), u64 (f 2), u64 (f 3), u64 v, u64 (f 5)] = some (w6 f'); unfold w6; rw [hv, hf 0 (by decide), hf 1 (by decide), hf 2 (by decide), hf 3 (by decide), hf 5 (by decide)]
  · show some [u64 (f 0), u64 (f 1), u64 (f 2), u64 (f 3), u64 (f 4), u64 v] = some (w6 f'); unfold w6; rw [hv, hf 0 (by decide), hf 1 (by decide), hf 2 (by decide), hf 3 (by decide), hf 4 (by decide)]
theorem w6_all {N : Nat} : w6 (hiw N 6) = w6 (lim N) := by unfold w6; simp only [hiw_all]
theorem z28w : TyZ Tryd.prog 28 (encF 0) (w6 (hiw 0 0)) := ⟨fun _ => by kernel_rfl, by kernel_rfl⟩
theorem beN_R6 {l : List Nat} (h : l.length = 48) (hs : ∀ c ∈ l, c < 256) : beN l < R6 := by
  have := beN_lt hs
  rw [h] at this
  exact Nat.lt_of_lt_of_le this (by decide)
theorem hiw_zero {N : Nat} : w6 (hiw 0 0) = w6 (hiw N 0) := by
  unfold w6 hiw; rfl
theorem Read_call {n : Nat} {w : World} (hn : n < pp) (hG : Blocks (GH T) w) : Vm.Pure Tryd.prog 57 #[.agg (w6 (lim n)).toArray, .agg glo1.toArray] w (encF (Zp.of n)) := by
  have h := Mul_w_ok (X := n) (Y := R66) hn (by decide) hG
  refine h.same (congrArg enc6 ?_)
  unfold mont
  show _ = (n % pp) * R6 % pp
  rw [Nat.mod_mul_mod, Nat.mul_assoc, Nat.mul_mod, show R66 * inv_pp % pp = R6 % pp from by decide +kernel, ← Nat.mul_mod]

theorem en93 : Vm.Enters Tryd.prog 93 := Vm.Enters.of fun _ _ => by kernel_rfl
theorem en94 : Vm.Enters Tryd.prog 94 := Vm.Enters.of fun _ _ => by kernel_rfl
theorem less_ok {m : Nat} (hm : m < R6) {w : World} (hG : Blocks (GH T) w)  : Vm.Pure Tryd.prog 94 #[.agg #[u64 (lim (m) 0), u64 (lim (m) 1), u64 (lim (m) 2), u64 (lim (m) 3), u64 (lim (m) 4), u64 (lim (m) 5)]] w (.bool (decide (m < pp))) := by
  refine pure_of_W (n := 22) (args := [.agg #[u64 (lim (m) 0), u64 (lim (m) 1), u64 (lim (m) 2), u64 (lim (m) 3), u64 (lim (m) 4), u64 (lim (m) 5)]]) Tryd.func94 rfl Tryd.ntmps94 (Nat.le_of_ble_eq_true rfl) hG ?_
  refine sStart ?_
  refine sSeq ?_
  refine W.region ?_
  refine OpsW.fresh (fr_box rfl rfl) rfl fun b1 => ?_
  refine OpsW.det (det_assign rfl) rfl ?_
  refine sNext ?_
  refine W.keep (F' := [(1, _)]) ⟨rfl, trivial⟩ ?_
  refine sSeq ?_
  refine W.region ?_
  refine OpsW.det (det_assign rfl) rfl ?_
  refine sNext ?_
  refine sSeq ?_
  refine sSeq ?_
  refine W.region ?_
  refine OpsW.det (det_move rfl) rfl ?_
  refine sNext ?_
  refine sBlock ?_
  refine sLoop (σ := Nat) (fun i => [(5, .int .i64 (i : Nat)), (3, u64 (bor i m pp)), (1, .pointer (some ⟨b1, 0, none⟩))]) (fun i => [(b1, blk (w6 (lim m)) 26)]) (fun i => i ≤ 6) (fun i => 6 - i) 0 (by decide) ⟨rfl, by rw [bor_0]; rfl, rfl, trivial⟩ (List.Sublist.refl _) ?_
  intro i hi
  refine sSeq ?_
  refine W.region ?_
  refine OpsW.det (det_lss rfl rfl) rfl ?_
  refine sNext ?_
  refine sSeq ?_
  refine W.cond rfl (fun hc6 => ?_) (fun hc6 => ?_)
  · skip
    have hlt : i < 6 := by have h := hc6; simp only [decide_eq_true_eq] at h; omega
    refine sSkip ?_
    refine sSeq ?_
    refine sBlock ?_
    refine sSeq ?_
    refine W.region ?_
    refine OpsW.det (det_move rfl) rfl ?_
    refine OpsW.det (det_assign rfl) rfl ?_
    refine sNext ?_
    refine W.keep (F' := [(4, _), (5, _), (3, _), (1, _)]) ⟨rfl, rfl, rfl, rfl, trivial⟩ ?_
    refine W.draw mixed 11 [[], [0], [0, 1], [], [3], [3, 4], [], [0, 1, 2, 3, 4, 5, 6], [0, 1, 2, 3, 4, 5, 6, 7], [0, 1, 2, 3, 4, 5, 6, 7, 8], [0, 1, 2, 3, 4, 5, 6, 7, 8], [0, 1, 2, 3, 4, 5, 6, 7, 8, 9, 10]] (cl_lt (by decide)) ?_
    refine HeadR.start (cl_lt (by decide)) ?_
    refine HeadR.det rfl (fun β hβ => (det_move rfl)) ?_
    refine HeadR.det rfl (fun β hβ => (det_indexAddr_arr u26 sz25 rfl rfl ⟨by omega, by omega⟩)) ?_
    refine HeadR.det rfl (fun β hβ => (det_loadC ty25 rfl (List.Mem.head _) (at26 (m := m) hlt (by omega)))) ?_
    refine HeadR.det rfl (fun β hβ => (det_move rfl)) ?_
    refine HeadR.det rfl (fun β hβ => (det_indexAddr_arr u26 sz25 rfl rfl ⟨by omega, by omega⟩)) ?_
    refine HeadR.det rfl (fun β hβ => (det_loadC_ro ty25 rfl (List.Mem.tail _ (List.Mem.tail _ (List.Mem.head _))) (at26 (m := pp) hlt (by omega)))) ?_
    refine HeadR.det rfl (fun β hβ => (det_move rfl)) ?_
    refine HeadR.det rfl (fun β hβ => ((det_extern rfl (run_Sub64 (lim m i) (lim pp i) (bor i m pp) (bor_le _ _ _))).to (v := .tuple #[u64 ((lim m i + 18446744073709551616 - lim pp i - bor i m pp) % 18446744073709551616), u64 (bor (i + 1) m pp)]) (by rw [bor_step]))) ?_
    refine HeadR.det rfl (fun β hβ => (det_move rfl)) ?_
    refine HeadR.det rfl (fun β hβ => (det_extract rfl rfl)) ?_
    refine HeadR.det rfl (fun β hβ => (det_extract rfl rfl)) ?_
    refine HeadR.done ⟨by kernel_rfl, fun β hβ => ?_⟩
    refine OpsW.norm (F' := [(9, _), (10, _), (11, _), (12, _), (13, _), (14, _), (15, _), (16, _), (8, _), (17, _), (18, _), (4, _), (5, _), (3, _), (1, _)]) (H' := [(_, _)]) rfl rfl ?_
    refine OpsW.det (det_assign rfl) rfl ?_
    refine sLast ?_
    refine bNext ?_
    refine W.keep (F' := [(3, _), (5, _), (1, _)]) ⟨rfl, rfl, rfl, trivial⟩ ?_
    refine W.region ?_
    refine OpsW.det (det_addN (b := 1) rfl rfl (idx_ok hlt (by decide))) rfl ?_
    refine OpsW.det (det_move rfl) rfl ?_
    refine sLast ?_
    exact rEnd (i + 1) hlt ⟨rfl, rfl, rfl, trivial⟩ (List.Sublist.refl _) (step_lt hlt)
  · skip
    have hi6 : i = 6 := by have h := hc6; simp only [decide_eq_false_iff_not] at h; omega
    subst hi6
    refine sExit ?_
    refine xLoop ?_
    refine xHere ?_
    refine W.keep (F' := [(3, _)]) ⟨rfl, trivial⟩ ?_
    refine sSeq ?_
    refine W.region ?_
    refine OpsW.det (det_move rfl) rfl ?_
    refine OpsW.det (det_eql rfl rfl) rfl ?_
    refine OpsW.det (det_assign rfl) rfl ?_
    refine sNext ?_
    refine W.keep (F' := [(2, _)]) ⟨rfl, trivial⟩ ?_
    refine sRet ?_
    exact done1 Tryd.results94 (rv_tmp rfl) (congrArg Value.bool (bor_6 hm))
theorem read_at {l : List Nat} {i o : Nat} {cs : List Value} (h48 : l.length = 48) (hi : i < 6) (hcs : ∀ j (h : j < l.length), cs[o + j]? = some (u8 l[j])) : ∀ j (h : j < ((l.drop (8 * i)).take 8).length), cs[o + 8 * i + j]? = some (u8 ((l.drop (8 * i)).take 8)[j]) := fun j h => by
  have hj : j < 8 := by have h := h; simp at h; omega
  rw [Nat.add_assoc, hcs (8 * i + j) (by omega)]
  simp
theorem Read_ok {G' : Hp} {v : Value} {l : List Nat} (hB : Bs G' v l) {w : World} (hG : Blocks (G' ++ GH T) w)  : Vm.Pure Tryd.prog 49 #[v] w (.tuple #[encF (readF l).1, .int .i64 (readF l).2]) := by
  obtain ⟨ad, cap, hvv⟩ := hB.shape
  refine pure_of_W (n := 32) (args := [v]) Tryd.func49 rfl Tryd.ntmps49 (Nat.le_of_ble_eq_true rfl) hG ?_
  refine sStart ?_
  refine sSeq ?_
  subst hvv
  refine W.region ?_
  refine OpsW.fresh (fr_alloc z28) rfl fun b2 => ?_
  refine OpsW.det (det_assign rfl) rfl ?_
  refine sNext ?_
  refine W.keep (F' := [(2, _), (0, _)]) ⟨rfl, rfl, trivial⟩ ?_
  refine sSeq ?_
  refine sSeq ?_
  refine W.region ?_
  refine OpsW.det (det_move rfl) rfl ?_
  refine OpsW.det (det_len u22 rfl) rfl ?_
  refine OpsW.det (det_neq rfl rfl) rfl ?_
  refine sNext ?_
  refine W.keep (F' := [(8, _), (2, _), (0, _)]) ⟨rfl, rfl, rfl, trivial⟩ ?_
  refine W.cond rfl (fun hc8 => ?_) (fun hc8 => ?_)
  · skip
    have hne : l.length ≠ 48 := by have h := hc8; simp at h; omega
    refine sSeq ?_
    refine W.region ?_
    refine OpsW.det (det_zero bz28) rfl ?_
    refine OpsW.store sz28 rfl rfl rfl rfl rfl (Upd.here) rfl ?_
    refine OpsW.det (det_assign rfl) rfl ?_
    refine sNext ?_
    refine W.keep (F' := [(3, _), (2, _)]) ⟨rfl, rfl, trivial⟩ ?_
    refine sRet ?_
    exact done2 Tryd.results49 (rv_cellA ty28 rfl (List.Mem.head _) rfl) (rv_tmp rfl) (readF_post (readF_len hne))
  · skip
    have h48 : l.length = 48 := by have h := hc8; simp at h; omega
    obtain ⟨bk, o, cap', cs, e, fr, hv, hm, hcap, hcs⟩ := hB.all (by omega)
    simp only [Value.slice.injEq] at hv
    obtain ⟨rfl, _, rfl⟩ := hv
    skip
    refine sSkip ?_
    refine sSeq ?_
    refine W.region ?_
    refine OpsW.fresh (fr_alloc z28w) rfl fun b4 => ?_
    refine sNext ?_
    refine W.keep (F' := [(4, _), (2, _), (0, _)]) ⟨rfl, rfl, rfl, trivial⟩ ?_
    refine sSeq ?_
    refine sSeq ?_
    refine W.region ?_
    refine OpsW.det (det_move rfl) rfl ?_
    refine sNext ?_
    refine sBlock ?_
    refine sLoop (σ := Nat) (fun i => [(10, .int .i64 (i : Nat)), (4, .pointer (some ⟨b4, 0, none⟩)), (2, .pointer (some ⟨b2, 0, none⟩)), (0, .slice (some ⟨bk, o, none⟩) l.length cap)]) (fun i => [(b4, blk (w6 (hiw (beN l) i)) 28), (b2, blk [.int .u64 0, .int .u64 0, .int .u64 0, .int .u64 0, .int .u64 0, .int .u64 0] 28)]) (fun i => i ≤ 6) (fun i => 6 - i) 0 (by decide) ⟨rfl, rfl, rfl, rfl, trivial⟩ (by rw [← hiw_zero]; exact List.Sublist.refl _) ?_
    intro i hi
    refine sSeq ?_
    refine W.region ?_
    refine OpsW.det (det_lss rfl rfl) rfl ?_
    refine sNext ?_
    refine sSeq ?_
    refine W.cond rfl (fun hc11 => ?_) (fun hc11 => ?_)
    · skip
      have hlt : i < 6 := by have h := hc11; simp only [decide_eq_true_eq] at h; omega
      refine sSkip ?_
      refine sSeq ?_
      refine sBlock ?_
      refine sSeq ?_
      refine W.region ?_
      refine OpsW.det (det_move rfl) rfl ?_
      refine OpsW.det (det_assign rfl) rfl ?_
      refine sNext ?_
      refine W.keep (F' := [(5, _), (10, _), (4, _), (2, _), (0, _)]) ⟨rfl, rfl, rfl, rfl, rfl, trivial⟩ ?_
      refine W.region ?_
      refine OpsW.det (det_move rfl) rfl ?_
      refine OpsW.det (det_subZ (c := ((5 - i : Nat) : Int)) rfl rfl (by omega) (by omega)) rfl ?_
      refine OpsW.det (det_move rfl) rfl ?_
      refine OpsW.det (det_move rfl) rfl ?_
      refine OpsW.det ((det_mul rfl rfl).to (v := .int .i64 ((8 * i : Nat) : Int)) (by rw [wrap_i64 (by omega)]; congr 1)) rfl ?_
      refine OpsW.det ((det_slice (lo := some (.tmp 17)) (hi := none) (l := 8 * i) (h := l.length) u22 sz5 rfl ⟨_, rfl⟩ rfl (by omega) (by omega) (by omega)).to (v := .slice (some ⟨bk, o + 8 * i, none⟩) (l.length - 8 * i) (cap - 8 * i)) (by rw [if_neg (by omega), Nat.mul_one])) rfl ?_
      refine OpsW.det ((det_call en93 rfl (fun w hb ho => get_ok (G' := G') (l := (l.drop (8 * i)).take 8) (by simp; omega) (fun c hc => hB.small _ (List.mem_of_mem_drop (List.mem_of_mem_take hc))) (by omega) hm (read_at h48 hlt hcs) ho.blocks)).to (congrArg u64 (beN_word h48 hB.small hlt))) rfl ?_
      refine OpsW.det (det_fieldAddr fl28_0 rfl) rfl ?_
      refine OpsW.det (det_indexAddr_arr u26 sz25 rfl rfl ⟨by omega, by omega⟩) rfl ?_
      refine OpsW.store sz25 rfl rfl rfl rfl rfl (Upd.here) (put6 (f' := hiw (beN l) (i + 1)) (by omega) (by omega) (hiw_new hlt) fun j hj => hiw_old hj hlt) ?_
      refine sLast ?_
      refine bNext ?_
      refine W.keep (F' := [(10, _), (4, _), (2, _), (0, _)]) ⟨rfl, rfl, rfl, rfl, trivial⟩ ?_
      refine W.region ?_
      refine OpsW.det (det_addN (b := 1) rfl rfl (idx_ok hlt (by decide))) rfl ?_
      refine OpsW.det (det_move rfl) rfl ?_
      refine sLast ?_
      exact rEnd (i + 1) hlt ⟨rfl, rfl, rfl, rfl, trivial⟩ (List.Sublist.refl _) (step_lt hlt)
    · skip
      have hi6 : i = 6 := by have h := hc11; simp only [decide_eq_false_iff_not] at h; omega
      subst hi6
      refine sExit ?_
      refine xLoop ?_
      refine xHere ?_
      refine W.keep (F' := [(4, _), (2, _)]) ⟨rfl, rfl, trivial⟩ ?_
      refine sSeq ?_
      refine sSeq ?_
      refine W.region ?_
      refine OpsW.det (det_fieldAddr fl28_0 rfl) rfl ?_
      refine OpsW.det (det_loadA ty26 rfl (List.Mem.head _) rfl) rfl ?_
      refine OpsW.det (det_call en94 rfl (fun w hb ho => less_ok (m := beN l) (beN_R6 h48 hB.small) (fun p hp => ho.look (List.mem_append_right _ hp)))) rfl ?_
      refine OpsW.det (det_not rfl) rfl ?_
      refine sNext ?_
      refine W.keep (F' := [(26, _), (4, _), (2, _)]) ⟨rfl, rfl, rfl, trivial⟩ ?_
      refine W.cond rfl (fun hc26 => ?_) (fun hc26 => ?_)
      · skip
        have hlp : ¬ beN l < pp := by have h := hc26; simp at h; omega
        refine sSeq ?_
        refine W.region ?_
        refine OpsW.det (det_zero bz28) rfl ?_
        refine OpsW.store sz28 rfl rfl rfl rfl rfl (Upd.there (Upd.here)) rfl ?_
        refine OpsW.det (det_assign rfl) rfl ?_
        refine sNext ?_
        refine W.keep (F' := [(3, _), (2, _)]) ⟨rfl, rfl, trivial⟩ ?_
        refine sRet ?_
        exact done2 Tryd.results49 (rv_cellA ty28 rfl (List.Mem.tail _ (List.Mem.head _)) rfl) (rv_tmp rfl) (readF_post (readF_no h48 hlp))
      · skip
        have hlp : beN l < pp := by have h := hc26; simp at h; omega
        refine sSkip ?_
        refine sSeq ?_
        refine W.region ?_
        refine OpsW.det (det_loadA ty28 rfl (List.Mem.head _) rfl) rfl ?_
        refine OpsW.det (det_loadA_ro ty26 rfl (List.mem_append_right _ (List.Mem.tail _ (List.Mem.head _))) rfl) rfl ?_
        refine OpsW.det (det_build rfl bld28) rfl ?_
        refine OpsW.det (det_call en57 rfl (fun w hb ho => Read_call hlp (fun p hp => ho.look (List.mem_append_right _ hp)))) rfl ?_
        refine OpsW.store sz28 rfl rfl rfl rfl rfl (Upd.there (Upd.here)) rfl ?_
        refine OpsW.det (det_assign rfl) rfl ?_
        refine sNext ?_
        refine W.keep (F' := [(3, _), (2, _)]) ⟨rfl, rfl, trivial⟩ ?_
        refine sRet ?_
        exact done2 Tryd.results49 (rv_cellA ty28 rfl (List.Mem.tail _ (List.Mem.head _)) rfl) (rv_tmp rfl) (readF_post (readF_yes h48 hlp))

end Go.Cu
