/-
  The first group's laws: which points lie on a line, and points that are not of the group: the walks. Conditions: of the points, as each says.
-/
import Derived.Test.YtbchpfmfiokbgaaDoorG1g
namespace Go.Cu
open Go Go.Vm Go.RowKit Go.Proofs 
attribute [local irreducible] W OpsW Det Fresh New Writes Vm.Pure Makes Changes ExternTo BuildTo ZeroTo FieldTo IndexTo BinTo SliceTo Vm.Enters
set_option linter.unusedVariables false
set_option linter.unusedSimpArgs false
variable {T : Nat → TypeId × Nat × Nat}

theorem nf {p : Prop} [Decidable p] (h : ¬ p) : decide p = false := decide_eq_false h
theorem ny {p : Prop} [Decidable p] (h : ¬ p) : (!decide p) = true := by rw [decide_eq_false h]; rfl

/-- What stands under the root at k. -/
def wcube (k : Nat) : Fq := Zp.of k * Zp.of k * Zp.of k + Zp.of 4
/-- The first of f numbers from k on that has a point of the curve. -/
def wfrom : Nat → Nat → Pt
  | 0, _ => (0, 0)
  | f + 1, k => if (sqrtF (wcube k)).2 = true ∧ (sqrtF (wcube k)).1 ≠ 0 then (Zp.of k, (sqrtF (wcube k)).1) else wfrom f (k + 1)
def wild (n : Nat) : Pt := wfrom 200 n
theorem wild_hit {n k : Nat} (hk : k < n + 200) (hw : wild n = wfrom (n + 200 - k) k) (h1 : (sqrtF (wcube k)).2 = true) (h2 : (!decide ((sqrtF (wcube k)).1 = 0)) = true) : (Zp.of k, (sqrtF (wcube k)).1) = wild n := by
  rw [hw, show n + 200 - k = (n + 200 - (k + 1)) + 1 by omega, wfrom, if_pos ⟨h1, by simpa using h2⟩]
theorem wild_no {n k : Nat} (hk : k < n + 200) (hw : wild n = wfrom (n + 200 - k) k) (h1 : (sqrtF (wcube k)).2 = false) : wild n = wfrom (n + 200 - (k + 1)) (k + 1) := by
  rw [hw, show n + 200 - k = (n + 200 - (k + 1)) + 1 by omega, wfrom, if_neg (by rw [h1]; simp)]
theorem wild_zero {n k : Nat} (hk : k < n + 200) (hw : wild n = wfrom (n + 200 - k) k) (h2 : (!decide ((sqrtF (wcube k)).1 = 0)) = false) : wild n = wfrom (n + 200 - (k + 1)) (k + 1) := by
  rw [hw, show n + 200 - k = (n + 200 - (k + 1)) + 1 by omega, wfrom, if_neg (by
    have h2 : (sqrtF (wcube k)).1 = 0 := by simpa using h2
    rw [h2]; simp)]
theorem wild_end {n k : Nat} (hk : ¬ k < n + 200) (hk2 : k ≤ n + 200) (hw : wild n = wfrom (n + 200 - k) k) : (0, 0) = wild n := by
  rw [hw, show n + 200 - k = 0 by omega, wfrom]

theorem en60 : Vm.Enters Tryd.prog 60 := Vm.Enters.of fun _ _ => by kernel_rfl
theorem en68 : Vm.Enters Tryd.prog 68 := Vm.Enters.of fun _ _ => by kernel_rfl
theorem en69 : Vm.Enters Tryd.prog 69 := Vm.Enters.of fun _ _ => by kernel_rfl
theorem u39 : Tryd.prog.underlying 39 = some (.int .u16) := by kernel_rfl
set_option maxHeartbeats 2000000 in
theorem sidesA_ok {p q r : Pt} (h1 : p = (0, 0)) (h2 : q = pneg r) {w : World} (hG : Blocks (GH T) w)  : Vm.Pure Tryd.prog 29 #[encP p, encP q, encP r] w (.bool true) := by
  refine pure_of_W (n := 140) (args := [encP p, encP q, encP r]) Tryd.func29 rfl Tryd.ntmps29 (Nat.le_of_ble_eq_true rfl) hG ?_
  refine sStart ?_
  refine sSeq ?_
  refine W.region ?_
  refine OpsW.fresh (fr_box rfl rfl) rfl fun b3 => ?_
  refine OpsW.fresh (fr_box rfl rfl) rfl fun b4 => ?_
  refine OpsW.fresh (fr_box rfl rfl) rfl fun b5 => ?_
  refine OpsW.det (det_assign rfl) rfl ?_
  refine sNext ?_
  refine W.keep (F' := [(5, _), (4, _), (3, _)]) ⟨rfl, rfl, rfl, trivial⟩ ?_
  refine sSeq ?_
  refine W.region ?_
  refine OpsW.det (det_zero bz30) rfl ?_
  refine OpsW.fresh (fr_alloc z30) rfl fun b7 => ?_
  refine OpsW.store sz30 rfl rfl rfl rfl rfl (Upd.here) rfl ?_
  refine sNext ?_
  refine W.keep (F' := [(7, _), (5, _), (4, _), (3, _)]) ⟨rfl, rfl, rfl, rfl, trivial⟩ ?_
  refine sSeq ?_
  refine sSeq ?_
  refine W.region ?_
  refine OpsW.det (det_loadA ty30 rfl (List.Mem.tail _ (List.Mem.tail _ (List.Mem.tail _ (List.Mem.head _)))) rfl) rfl ?_
  refine OpsW.det (det_loadA ty30 rfl (List.Mem.head _) rfl) rfl ?_
  refine OpsW.det (Det.to (det_eql30 rfl rfl) (congrArg Value.bool (yb h1))) rfl ?_
  refine OpsW.det (det_move rfl) rfl ?_
  refine OpsW.guard_no rfl rfl rfl ?_
  refine OpsW.guard_no rfl rfl rfl ?_
  refine OpsW.guard_no rfl rfl rfl ?_
  refine OpsW.det (det_pick rfl rfl) rfl ?_
  refine OpsW.det (det_move rfl) rfl ?_
  refine OpsW.guard_no rfl rfl rfl ?_
  refine OpsW.guard_no rfl rfl rfl ?_
  refine OpsW.guard_no rfl rfl rfl ?_
  refine OpsW.det (det_pick rfl rfl) rfl ?_
  refine sNext ?_
  refine W.keep (F' := [(22, _), (7, _), (5, _), (4, _), (3, _)]) ⟨rfl, rfl, rfl, rfl, rfl, trivial⟩ ?_
  refine W.cond_true rfl ?_
  refine sSeq ?_
  refine W.draw mixed 32 [[], [], [0, 1], [0, 1, 2], [0, 1, 2, 3], [0, 1, 2, 3], [0, 1, 2, 3, 5], [0, 1, 2, 3, 4, 5, 6], [0, 1, 2, 3, 4, 5, 6, 7], [0, 1, 2, 3, 4, 5, 6, 7, 8], [0, 1, 2, 3, 4, 5, 6, 7, 8, 9], [0, 1, 2, 3, 4, 5, 6, 7, 8, 9], [0, 1, 2, 3, 4, 5, 6, 7, 8, 9, 10, 11], [0, 1, 2, 3, 4, 5, 6, 7, 8, 9, 10, 11, 12], [0, 1, 2, 3, 4, 5, 6, 7, 8, 9, 10, 11, 12, 13], [0, 1, 2, 3, 4, 5, 6, 7, 8, 9, 10, 11, 12, 13], [0, 1, 2, 3, 4, 5, 6, 7, 8, 9, 10, 11, 12, 13, 15], [0, 1, 2, 3, 4, 5, 6, 7, 8, 9, 10, 11, 12, 13, 14, 15, 16], [0, 1, 2, 3, 4, 5, 6, 7, 8, 9, 10, 11, 12, 13, 14, 15, 16, 17], [0, 1, 2, 3, 4, 5, 6, 7, 8, 9, 10, 11, 12, 13, 14, 15, 16, 17, 18], [0, 1, 2, 3, 4, 5, 6, 7, 8, 9, 10, 11, 12, 13, 14, 15, 16, 17, 18, 19], [0, 1, 2, 3, 4, 5, 6, 7, 8, 9, 10, 11, 12, 13, 14, 15, 16, 17, 18, 19, 20], [0, 1, 2, 3, 4, 5, 6, 7, 8, 9, 10, 11, 12, 13, 14, 15, 16, 17, 18, 19, 20], [0, 1, 2, 3, 4, 5, 6, 7, 8, 9, 10, 11, 12, 13, 14, 15, 16, 17, 18, 19, 20, 21, 22], [0, 1, 2, 3, 4, 5, 6, 7, 8, 9, 10, 11, 12, 13, 14, 15, 16, 17, 18, 19, 20, 21, 22, 23], [0, 1, 2, 3, 4, 5, 6, 7, 8, 9, 10, 11, 12, 13, 14, 15, 16, 17, 18, 19, 20, 21, 22, 23, 24], [0, 1, 2, 3, 4, 5, 6, 7, 8, 9, 10, 11, 12, 13, 14, 15, 16, 17, 18, 19, 20, 21, 22, 23, 24], [0, 1, 2, 3, 4, 5, 6, 7, 8, 9, 10, 11, 12, 13, 14, 15, 16, 17, 18, 19, 20, 21, 22, 23, 24, 26], [0, 1, 2, 3, 4, 5, 6, 7, 8, 9, 10, 11, 12, 13, 14, 15, 16, 17, 18, 19, 20, 21, 22, 23, 24, 25, 26, 27], [0, 1, 2, 3, 4, 5, 6, 7, 8, 9, 10, 11, 12, 13, 14, 15, 16, 17, 18, 19, 20, 21, 22, 23, 24, 25, 26, 27, 28], [0, 1, 2, 3, 4, 5, 6, 7, 8, 9, 10, 11, 12, 13, 14, 15, 16, 17, 18, 19, 20, 21, 22, 23, 24, 25, 26, 27, 28, 29], [0, 1, 2, 3, 4, 5, 6, 7, 8, 9, 10, 11, 12, 13, 14, 15, 16, 17, 18, 19, 20, 21, 22, 23, 24, 25, 26, 27, 28, 29, 30]] (cl_lt (by decide)) ?_
  refine Head.det rfl (fun β hβ => Det.norm (F' := [(22, _), (7, _), (5, _), (4, _), (3, _)]) (H' := [(_, _), (_, _), (_, _), (_, _)]) rfl rfl (det_loadA ty30 rfl (List.Mem.tail _ (List.Mem.tail _ (List.Mem.tail _ (List.Mem.head _)))) rfl)) ?_
  refine Head.norm (k' := 1) (es' := [.det 23 _]) rfl rfl ?_
  refine Head.det rfl (fun β hβ => Det.norm (F' := [(22, _), (7, _), (5, _), (4, _), (3, _)]) (H' := [(_, _), (_, _), (_, _), (_, _)]) rfl rfl (det_loadA ty30 rfl (List.Mem.head _) rfl)) ?_
  refine Head.norm (k' := 2) (es' := [.det 23 _, .det 24 _]) rfl rfl ?_
  refine Head.det rfl (fun β hβ => Det.norm (F' := [(23, _), (24, _), (22, _), (7, _), (5, _), (4, _), (3, _)]) (H' := [(_, _), (_, _), (_, _), (_, _)]) rfl rfl (Det.to (det_eql30 rfl rfl) (congrArg Value.bool (yb h1)))) ?_
  refine Head.norm (k' := 3) (es' := [.det 23 _, .det 24 _, .det 25 _]) rfl rfl ?_
  refine Head.det rfl (fun β hβ => Det.norm (F' := [(23, _), (24, _), (25, _), (22, _), (7, _), (5, _), (4, _), (3, _)]) (H' := [(_, _), (_, _), (_, _), (_, _)]) rfl rfl (det_move rfl)) ?_
  refine Head.norm (k' := 4) (es' := [.det 23 _, .det 24 _, .det 25 _, .det 26 _]) rfl rfl ?_
  refine Head.yes rfl rfl (fun _ _ => rfl) (fun β hβ => Det.norm (F' := [(23, _), (24, _), (25, _), (26, _), (22, _), (7, _), (5, _), (4, _), (3, _)]) (H' := [(_, _), (_, _), (_, _), (_, _)]) rfl rfl (det_loadA ty30 rfl (List.Mem.tail _ (List.Mem.tail _ (List.Mem.head _))) rfl)) ?_
  refine Head.norm (k' := 5) (es' := [.det 23 _, .det 24 _, .det 25 _, .det 26 _, .det 27 _]) rfl rfl ?_
  refine Head.yes rfl rfl (fun _ _ => rfl) (fun β hβ => Det.norm (F' := [(23, _), (24, _), (25, _), (26, _), (22, _), (7, _), (5, _), (4, _), (3, _)]) (H' := [(_, _), (_, _), (_, _), (_, _)]) rfl rfl (det_loadA ty30 rfl (List.Mem.tail _ (List.Mem.head _)) rfl)) ?_
  refine Head.norm (k' := 6) (es' := [.det 23 _, .det 24 _, .det 25 _, .det 26 _, .det 27 _, .det 28 _]) rfl rfl ?_
  refine Head.yes rfl rfl (fun _ _ => rfl) (fun β hβ => Det.norm (F' := [(23, _), (24, _), (25, _), (26, _), (28, _), (22, _), (7, _), (5, _), (4, _), (3, _)]) (H' := [(_, _), (_, _), (_, _), (_, _)]) rfl rfl (det_call en22 rfl (fun w hb ho => PNeg_ok ho.blocks))) ?_
  refine Head.norm (k' := 7) (es' := [.det 23 _, .det 24 _, .det 25 _, .det 26 _, .det 27 _, .det 28 _, .det 29 _]) rfl rfl ?_
  refine Head.yes rfl rfl (fun _ _ => rfl) (fun β hβ => Det.norm (F' := [(23, _), (24, _), (25, _), (26, _), (27, _), (28, _), (29, _), (22, _), (7, _), (5, _), (4, _), (3, _)]) (H' := [(_, _), (_, _), (_, _), (_, _)]) rfl rfl (Det.to (det_eql30 rfl rfl) (congrArg Value.bool (yb h2)))) ?_
  refine Head.norm (k' := 8) (es' := [.det 23 _, .det 24 _, .det 25 _, .det 26 _, .det 27 _, .det 28 _, .det 29 _, .det 30 _]) rfl rfl ?_
  refine Head.det rfl (fun β hβ => Det.norm (F' := [(23, _), (24, _), (25, _), (26, _), (27, _), (28, _), (29, _), (30, _), (22, _), (7, _), (5, _), (4, _), (3, _)]) (H' := [(_, _), (_, _), (_, _), (_, _)]) rfl rfl (det_pick rfl rfl)) ?_
  refine Head.norm (k' := 9) (es' := [.det 23 _, .det 24 _, .det 25 _, .det 26 _, .det 27 _, .det 28 _, .det 29 _, .det 30 _, .det 31 _]) rfl rfl ?_
  refine Head.det rfl (fun β hβ => Det.norm (F' := [(23, _), (24, _), (25, _), (26, _), (27, _), (28, _), (29, _), (30, _), (31, _), (22, _), (7, _), (5, _), (4, _), (3, _)]) (H' := [(_, _), (_, _), (_, _), (_, _)]) rfl rfl (det_move rfl)) ?_
  refine Head.norm (k' := 10) (es' := [.det 23 _, .det 24 _, .det 25 _, .det 26 _, .det 27 _, .det 28 _, .det 29 _, .det 30 _, .det 31 _, .det 32 _]) rfl rfl ?_
  refine Head.no rfl rfl (fun _ _ => rfl) ?_
  refine Head.norm (k' := 11) (es' := [.det 23 _, .det 24 _, .det 25 _, .det 26 _, .det 27 _, .det 28 _, .det 29 _, .det 30 _, .det 31 _, .det 32 _, .det 33 _]) rfl rfl ?_
  refine Head.no rfl rfl (fun _ _ => rfl) ?_
  refine Head.norm (k' := 12) (es' := [.det 23 _, .det 24 _, .det 25 _, .det 26 _, .det 27 _, .det 28 _, .det 29 _, .det 30 _, .det 31 _, .det 32 _, .det 33 _, .det 34 _]) rfl rfl ?_
  refine Head.no rfl rfl (fun _ _ => rfl) ?_
  refine Head.norm (k' := 13) (es' := [.det 23 _, .det 24 _, .det 25 _, .det 26 _, .det 27 _, .det 28 _, .det 29 _, .det 30 _, .det 31 _, .det 32 _, .det 33 _, .det 34 _, .det 35 _]) rfl rfl ?_
  refine Head.no rfl rfl (fun _ _ => rfl) ?_
  refine Head.norm (k' := 14) (es' := [.det 23 _, .det 24 _, .det 25 _, .det 26 _, .det 27 _, .det 28 _, .det 29 _, .det 30 _, .det 31 _, .det 32 _, .det 33 _, .det 34 _, .det 35 _, .det 36 _]) rfl rfl ?_
  refine Head.un rfl rfl (fun _ _ => rfl) ?_
  refine Head.norm (k' := 15) (es' := [.det 23 _, .det 24 _, .det 25 _, .det 26 _, .det 27 _, .det 28 _, .det 29 _, .det 30 _, .det 31 _, .det 32 _, .det 33 _, .det 34 _, .det 35 _, .det 36 _, .det 37 _]) rfl rfl ?_
  refine Head.un rfl rfl (fun _ _ => rfl) ?_
  refine Head.norm (k' := 16) (es' := [.det 23 _, .det 24 _, .det 25 _, .det 26 _, .det 27 _, .det 28 _, .det 29 _, .det 30 _, .det 31 _, .det 32 _, .det 33 _, .det 34 _, .det 35 _, .det 36 _, .det 37 _, .det 38 _]) rfl rfl ?_
  refine Head.un rfl rfl (fun _ _ => rfl) ?_
  refine Head.norm (k' := 17) (es' := [.det 23 _, .det 24 _, .det 25 _, .det 26 _, .det 27 _, .det 28 _, .det 29 _, .det 30 _, .det 31 _, .det 32 _, .det 33 _, .det 34 _, .det 35 _, .det 36 _, .det 37 _, .det 38 _, .det 39 _]) rfl rfl ?_
  refine Head.un rfl rfl (fun _ _ => rfl) ?_
  refine Head.norm (k' := 18) (es' := [.det 23 _, .det 24 _, .det 25 _, .det 26 _, .det 27 _, .det 28 _, .det 29 _, .det 30 _, .det 31 _, .det 32 _, .det 33 _, .det 34 _, .det 35 _, .det 36 _, .det 37 _, .det 38 _, .det 39 _, .det 40 _]) rfl rfl ?_
  refine Head.no rfl rfl (fun _ _ => rfl) ?_
  refine Head.norm (k' := 19) (es' := [.det 23 _, .det 24 _, .det 25 _, .det 26 _, .det 27 _, .det 28 _, .det 29 _, .det 30 _, .det 31 _, .det 32 _, .det 33 _, .det 34 _, .det 35 _, .det 36 _, .det 37 _, .det 38 _, .det 39 _, .det 40 _, .det 41 _]) rfl rfl ?_
  refine Head.det rfl (fun β hβ => Det.norm (F' := [(23, _), (24, _), (25, _), (26, _), (27, _), (28, _), (29, _), (30, _), (31, _), (32, _), (33, _), (34, _), (35, _), (36, _), (37, _), (38, _), (39, _), (40, _), (41, _), (22, _), (7, _), (5, _), (4, _), (3, _)]) (H' := [(_, _), (_, _), (_, _), (_, _)]) rfl rfl (det_pick rfl rfl)) ?_
  refine Head.norm (k' := 20) (es' := [.det 23 _, .det 24 _, .det 25 _, .det 26 _, .det 27 _, .det 28 _, .det 29 _, .det 30 _, .det 31 _, .det 32 _, .det 33 _, .det 34 _, .det 35 _, .det 36 _, .det 37 _, .det 38 _, .det 39 _, .det 40 _, .det 41 _, .det 42 _]) rfl rfl ?_
  refine Head.det rfl (fun β hβ => Det.norm (F' := [(23, _), (24, _), (25, _), (26, _), (27, _), (28, _), (29, _), (30, _), (31, _), (32, _), (33, _), (34, _), (35, _), (36, _), (37, _), (38, _), (39, _), (40, _), (41, _), (42, _), (22, _), (7, _), (5, _), (4, _), (3, _)]) (H' := [(_, _), (_, _), (_, _), (_, _)]) rfl rfl (det_move rfl)) ?_
  refine Head.norm (k' := 21) (es' := [.det 23 _, .det 24 _, .det 25 _, .det 26 _, .det 27 _, .det 28 _, .det 29 _, .det 30 _, .det 31 _, .det 32 _, .det 33 _, .det 34 _, .det 35 _, .det 36 _, .det 37 _, .det 38 _, .det 39 _, .det 40 _, .det 41 _, .det 42 _, .det 43 _]) rfl rfl ?_
  refine Head.no rfl rfl (fun _ _ => rfl) ?_
  refine Head.norm (k' := 22) (es' := [.det 23 _, .det 24 _, .det 25 _, .det 26 _, .det 27 _, .det 28 _, .det 29 _, .det 30 _, .det 31 _, .det 32 _, .det 33 _, .det 34 _, .det 35 _, .det 36 _, .det 37 _, .det 38 _, .det 39 _, .det 40 _, .det 41 _, .det 42 _, .det 43 _, .det 44 _]) rfl rfl ?_
  refine Head.no rfl rfl (fun _ _ => rfl) ?_
  refine Head.norm (k' := 23) (es' := [.det 23 _, .det 24 _, .det 25 _, .det 26 _, .det 27 _, .det 28 _, .det 29 _, .det 30 _, .det 31 _, .det 32 _, .det 33 _, .det 34 _, .det 35 _, .det 36 _, .det 37 _, .det 38 _, .det 39 _, .det 40 _, .det 41 _, .det 42 _, .det 43 _, .det 44 _, .det 45 _]) rfl rfl ?_
  refine Head.no rfl rfl (fun _ _ => rfl) ?_
  refine Head.norm (k' := 24) (es' := [.det 23 _, .det 24 _, .det 25 _, .det 26 _, .det 27 _, .det 28 _, .det 29 _, .det 30 _, .det 31 _, .det 32 _, .det 33 _, .det 34 _, .det 35 _, .det 36 _, .det 37 _, .det 38 _, .det 39 _, .det 40 _, .det 41 _, .det 42 _, .det 43 _, .det 44 _, .det 45 _, .det 46 _]) rfl rfl ?_
  refine Head.no rfl rfl (fun _ _ => rfl) ?_
  refine Head.norm (k' := 25) (es' := [.det 23 _, .det 24 _, .det 25 _, .det 26 _, .det 27 _, .det 28 _, .det 29 _, .det 30 _, .det 31 _, .det 32 _, .det 33 _, .det 34 _, .det 35 _, .det 36 _, .det 37 _, .det 38 _, .det 39 _, .det 40 _, .det 41 _, .det 42 _, .det 43 _, .det 44 _, .det 45 _, .det 46 _, .det 47 _]) rfl rfl ?_
  refine Head.un rfl rfl (fun _ _ => rfl) ?_
  refine Head.norm (k' := 26) (es' := [.det 23 _, .det 24 _, .det 25 _, .det 26 _, .det 27 _, .det 28 _, .det 29 _, .det 30 _, .det 31 _, .det 32 _, .det 33 _, .det 34 _, .det 35 _, .det 36 _, .det 37 _, .det 38 _, .det 39 _, .det 40 _, .det 41 _, .det 42 _, .det 43 _, .det 44 _, .det 45 _, .det 46 _, .det 47 _, .det 48 _]) rfl rfl ?_
  refine Head.un rfl rfl (fun _ _ => rfl) ?_
  refine Head.norm (k' := 27) (es' := [.det 23 _, .det 24 _, .det 25 _, .det 26 _, .det 27 _, .det 28 _, .det 29 _, .det 30 _, .det 31 _, .det 32 _, .det 33 _, .det 34 _, .det 35 _, .det 36 _, .det 37 _, .det 38 _, .det 39 _, .det 40 _, .det 41 _, .det 42 _, .det 43 _, .det 44 _, .det 45 _, .det 46 _, .det 47 _, .det 48 _, .det 49 _]) rfl rfl ?_
  refine Head.un rfl rfl (fun _ _ => rfl) ?_
  refine Head.norm (k' := 28) (es' := [.det 23 _, .det 24 _, .det 25 _, .det 26 _, .det 27 _, .det 28 _, .det 29 _, .det 30 _, .det 31 _, .det 32 _, .det 33 _, .det 34 _, .det 35 _, .det 36 _, .det 37 _, .det 38 _, .det 39 _, .det 40 _, .det 41 _, .det 42 _, .det 43 _, .det 44 _, .det 45 _, .det 46 _, .det 47 _, .det 48 _, .det 49 _, .det 50 _]) rfl rfl ?_
  refine Head.un rfl rfl (fun _ _ => rfl) ?_
  refine Head.norm (k' := 29) (es' := [.det 23 _, .det 24 _, .det 25 _, .det 26 _, .det 27 _, .det 28 _, .det 29 _, .det 30 _, .det 31 _, .det 32 _, .det 33 _, .det 34 _, .det 35 _, .det 36 _, .det 37 _, .det 38 _, .det 39 _, .det 40 _, .det 41 _, .det 42 _, .det 43 _, .det 44 _, .det 45 _, .det 46 _, .det 47 _, .det 48 _, .det 49 _, .det 50 _, .det 51 _]) rfl rfl ?_
  refine Head.no rfl rfl (fun _ _ => rfl) ?_
  refine Head.norm (k' := 30) (es' := (.det 23 _ :: .det 24 _ :: .det 25 _ :: .det 26 _ :: .det 27 _ :: .det 28 _ :: .det 29 _ :: .det 30 _ :: .det 31 _ :: .det 32 _ :: .det 33 _ :: .det 34 _ :: .det 35 _ :: .det 36 _ :: .det 37 _ :: .det 38 _ :: .det 39 _ :: .det 40 _ :: .det 41 _ :: .det 42 _ :: .det 43 _ :: .det 44 _ :: .det 45 _ :: .det 46 _ :: .det 47 _ :: .det 48 _ :: .det 49 _ :: .det 50 _ :: .det 51 _ :: .det 52 _ :: [])) rfl rfl ?_
  refine Head.det rfl (fun β hβ => Det.norm (F' := ((23, _) :: (24, _) :: (25, _) :: (26, _) :: (27, _) :: (28, _) :: (29, _) :: (30, _) :: (31, _) :: (32, _) :: (33, _) :: (34, _) :: (35, _) :: (36, _) :: (37, _) :: (38, _) :: (39, _) :: (40, _) :: (41, _) :: (42, _) :: (43, _) :: (44, _) :: (45, _) :: (46, _) :: (47, _) :: (48, _) :: (49, _) :: (50, _) :: (51, _) :: (52, _) :: (22, _) :: (7, _) :: (5, _) :: (4, _) :: (3, _) :: [])) (H' := [(_, _), (_, _), (_, _), (_, _)]) rfl rfl (det_pick rfl rfl)) ?_
  refine Head.norm (k' := 31) (es' := (.det 23 _ :: .det 24 _ :: .det 25 _ :: .det 26 _ :: .det 27 _ :: .det 28 _ :: .det 29 _ :: .det 30 _ :: .det 31 _ :: .det 32 _ :: .det 33 _ :: .det 34 _ :: .det 35 _ :: .det 36 _ :: .det 37 _ :: .det 38 _ :: .det 39 _ :: .det 40 _ :: .det 41 _ :: .det 42 _ :: .det 43 _ :: .det 44 _ :: .det 45 _ :: .det 46 _ :: .det 47 _ :: .det 48 _ :: .det 49 _ :: .det 50 _ :: .det 51 _ :: .det 52 _ :: .det 53 _ :: [])) rfl rfl ?_
  refine Head.det rfl (fun β hβ => Det.norm (F' := ((23, _) :: (24, _) :: (25, _) :: (26, _) :: (27, _) :: (28, _) :: (29, _) :: (30, _) :: (31, _) :: (32, _) :: (33, _) :: (34, _) :: (35, _) :: (36, _) :: (37, _) :: (38, _) :: (39, _) :: (40, _) :: (41, _) :: (42, _) :: (43, _) :: (44, _) :: (45, _) :: (46, _) :: (47, _) :: (48, _) :: (49, _) :: (50, _) :: (51, _) :: (52, _) :: (53, _) :: (22, _) :: (7, _) :: (5, _) :: (4, _) :: (3, _) :: [])) (H' := [(_, _), (_, _), (_, _), (_, _)]) rfl rfl (det_assign rfl)) ?_
  refine Head.norm (k' := 32) (es' := (.det 23 _ :: .det 24 _ :: .det 25 _ :: .det 26 _ :: .det 27 _ :: .det 28 _ :: .det 29 _ :: .det 30 _ :: .det 31 _ :: .det 32 _ :: .det 33 _ :: .det 34 _ :: .det 35 _ :: .det 36 _ :: .det 37 _ :: .det 38 _ :: .det 39 _ :: .det 40 _ :: .det 41 _ :: .det 42 _ :: .det 43 _ :: .det 44 _ :: .det 45 _ :: .det 46 _ :: .det 47 _ :: .det 48 _ :: .det 49 _ :: .det 50 _ :: .det 51 _ :: .det 52 _ :: .det 53 _ :: .det 6 _ :: [])) rfl rfl ?_
  refine Head.done ⟨by kernel_rfl, fun β hβ => ?_⟩
  refine OpsW.norm (F' := ((23, _) :: (24, _) :: (25, _) :: (26, _) :: (27, _) :: (28, _) :: (29, _) :: (30, _) :: (31, _) :: (32, _) :: (33, _) :: (34, _) :: (35, _) :: (36, _) :: (37, _) :: (38, _) :: (39, _) :: (40, _) :: (41, _) :: (42, _) :: (43, _) :: (44, _) :: (45, _) :: (46, _) :: (47, _) :: (48, _) :: (49, _) :: (50, _) :: (51, _) :: (52, _) :: (53, _) :: (6, _) :: (22, _) :: (7, _) :: (5, _) :: (4, _) :: (3, _) :: [])) (H' := [(_, _), (_, _), (_, _), (_, _)]) rfl rfl ?_
  refine sNext ?_
  refine W.keep (F' := [(6, _)]) ⟨rfl, trivial⟩ ?_
  refine sRet ?_
  exact done1 Tryd.results29 (rv_tmp rfl) rfl
set_option maxHeartbeats 2000000 in
theorem sidesB_ok {p q r : Pt} (h0 : p ≠ (0, 0)) (h1 : q = (0, 0)) (h2 : p = pneg r) {w : World} (hG : Blocks (GH T) w)  : Vm.Pure Tryd.prog 29 #[encP p, encP q, encP r] w (.bool true) := by
  refine pure_of_W (n := 140) (args := [encP p, encP q, encP r]) Tryd.func29 rfl Tryd.ntmps29 (Nat.le_of_ble_eq_true rfl) hG ?_
  refine sStart ?_
  refine sSeq ?_
  refine W.region ?_
  refine OpsW.fresh (fr_box rfl rfl) rfl fun b3 => ?_
  refine OpsW.fresh (fr_box rfl rfl) rfl fun b4 => ?_
  refine OpsW.fresh (fr_box rfl rfl) rfl fun b5 => ?_
  refine OpsW.det (det_assign rfl) rfl ?_
  refine sNext ?_
  refine W.keep (F' := [(5, _), (4, _), (3, _)]) ⟨rfl, rfl, rfl, trivial⟩ ?_
  refine sSeq ?_
  refine W.region ?_
  refine OpsW.det (det_zero bz30) rfl ?_
  refine OpsW.fresh (fr_alloc z30) rfl fun b7 => ?_
  refine OpsW.store sz30 rfl rfl rfl rfl rfl (Upd.here) rfl ?_
  refine sNext ?_
  refine W.keep (F' := [(7, _), (5, _), (4, _), (3, _)]) ⟨rfl, rfl, rfl, rfl, trivial⟩ ?_
  refine sSeq ?_
  refine sSeq ?_
  refine W.region ?_
  refine OpsW.det (det_loadA ty30 rfl (List.Mem.tail _ (List.Mem.tail _ (List.Mem.tail _ (List.Mem.head _)))) rfl) rfl ?_
  refine OpsW.det (det_loadA ty30 rfl (List.Mem.head _) rfl) rfl ?_
  refine OpsW.det (Det.to (det_eql30 rfl rfl) (congrArg Value.bool (nf h0))) rfl ?_
  refine OpsW.det (det_move rfl) rfl ?_
  refine OpsW.guard_yes rfl rfl ?_
  refine OpsW.det (det_loadA ty30 rfl (List.Mem.tail _ (List.Mem.tail _ (List.Mem.head _))) rfl) rfl ?_
  refine OpsW.guard_yes rfl rfl ?_
  refine OpsW.det (det_loadA ty30 rfl (List.Mem.head _) rfl) rfl ?_
  refine OpsW.guard_yes rfl rfl ?_
  refine OpsW.det (Det.to (det_eql30 rfl rfl) (congrArg Value.bool (yb h1))) rfl ?_
  refine OpsW.det (det_pick rfl rfl) rfl ?_
  refine OpsW.det (det_move rfl) rfl ?_
  refine OpsW.guard_no rfl rfl rfl ?_
  refine OpsW.guard_no rfl rfl rfl ?_
  refine OpsW.guard_no rfl rfl rfl ?_
  refine OpsW.det (det_pick rfl rfl) rfl ?_
  refine sNext ?_
  refine W.keep (F' := [(22, _), (7, _), (5, _), (4, _), (3, _)]) ⟨rfl, rfl, rfl, rfl, rfl, trivial⟩ ?_
  refine W.cond_true rfl ?_
  refine sSeq ?_
  refine W.draw mixed 32 [[], [], [0, 1], [0, 1, 2], [0, 1, 2, 3], [0, 1, 2, 3], [0, 1, 2, 3, 5], [0, 1, 2, 3, 4, 5, 6], [0, 1, 2, 3, 4, 5, 6, 7], [0, 1, 2, 3, 4, 5, 6, 7, 8], [0, 1, 2, 3, 4, 5, 6, 7, 8, 9], [0, 1, 2, 3, 4, 5, 6, 7, 8, 9], [0, 1, 2, 3, 4, 5, 6, 7, 8, 9, 10, 11], [0, 1, 2, 3, 4, 5, 6, 7, 8, 9, 10, 11, 12], [0, 1, 2, 3, 4, 5, 6, 7, 8, 9, 10, 11, 12, 13], [0, 1, 2, 3, 4, 5, 6, 7, 8, 9, 10, 11, 12, 13], [0, 1, 2, 3, 4, 5, 6, 7, 8, 9, 10, 11, 12, 13, 15], [0, 1, 2, 3, 4, 5, 6, 7, 8, 9, 10, 11, 12, 13, 14, 15, 16], [0, 1, 2, 3, 4, 5, 6, 7, 8, 9, 10, 11, 12, 13, 14, 15, 16, 17], [0, 1, 2, 3, 4, 5, 6, 7, 8, 9, 10, 11, 12, 13, 14, 15, 16, 17, 18], [0, 1, 2, 3, 4, 5, 6, 7, 8, 9, 10, 11, 12, 13, 14, 15, 16, 17, 18, 19], [0, 1, 2, 3, 4, 5, 6, 7, 8, 9, 10, 11, 12, 13, 14, 15, 16, 17, 18, 19, 20], [0, 1, 2, 3, 4, 5, 6, 7, 8, 9, 10, 11, 12, 13, 14, 15, 16, 17, 18, 19, 20], [0, 1, 2, 3, 4, 5, 6, 7, 8, 9, 10, 11, 12, 13, 14, 15, 16, 17, 18, 19, 20, 21, 22], [0, 1, 2, 3, 4, 5, 6, 7, 8, 9, 10, 11, 12, 13, 14, 15, 16, 17, 18, 19, 20, 21, 22, 23], [0, 1, 2, 3, 4, 5, 6, 7, 8, 9, 10, 11, 12, 13, 14, 15, 16, 17, 18, 19, 20, 21, 22, 23, 24], [0, 1, 2, 3, 4, 5, 6, 7, 8, 9, 10, 11, 12, 13, 14, 15, 16, 17, 18, 19, 20, 21, 22, 23, 24], [0, 1, 2, 3, 4, 5, 6, 7, 8, 9, 10, 11, 12, 13, 14, 15, 16, 17, 18, 19, 20, 21, 22, 23, 24, 26], [0, 1, 2, 3, 4, 5, 6, 7, 8, 9, 10, 11, 12, 13, 14, 15, 16, 17, 18, 19, 20, 21, 22, 23, 24, 25, 26, 27], [0, 1, 2, 3, 4, 5, 6, 7, 8, 9, 10, 11, 12, 13, 14, 15, 16, 17, 18, 19, 20, 21, 22, 23, 24, 25, 26, 27, 28], [0, 1, 2, 3, 4, 5, 6, 7, 8, 9, 10, 11, 12, 13, 14, 15, 16, 17, 18, 19, 20, 21, 22, 23, 24, 25, 26, 27, 28, 29], [0, 1, 2, 3, 4, 5, 6, 7, 8, 9, 10, 11, 12, 13, 14, 15, 16, 17, 18, 19, 20, 21, 22, 23, 24, 25, 26, 27, 28, 29, 30]] (cl_lt (by decide)) ?_
  refine Head.det rfl (fun β hβ => Det.norm (F' := [(22, _), (7, _), (5, _), (4, _), (3, _)]) (H' := [(_, _), (_, _), (_, _), (_, _)]) rfl rfl (det_loadA ty30 rfl (List.Mem.tail _ (List.Mem.tail _ (List.Mem.tail _ (List.Mem.head _)))) rfl)) ?_
  refine Head.norm (k' := 1) (es' := [.det 23 _]) rfl rfl ?_
  refine Head.det rfl (fun β hβ => Det.norm (F' := [(22, _), (7, _), (5, _), (4, _), (3, _)]) (H' := [(_, _), (_, _), (_, _), (_, _)]) rfl rfl (det_loadA ty30 rfl (List.Mem.head _) rfl)) ?_
  refine Head.norm (k' := 2) (es' := [.det 23 _, .det 24 _]) rfl rfl ?_
  refine Head.det rfl (fun β hβ => Det.norm (F' := [(23, _), (24, _), (22, _), (7, _), (5, _), (4, _), (3, _)]) (H' := [(_, _), (_, _), (_, _), (_, _)]) rfl rfl (Det.to (det_eql30 rfl rfl) (congrArg Value.bool (nf h0)))) ?_
  refine Head.norm (k' := 3) (es' := [.det 23 _, .det 24 _, .det 25 _]) rfl rfl ?_
  refine Head.det rfl (fun β hβ => Det.norm (F' := [(23, _), (24, _), (25, _), (22, _), (7, _), (5, _), (4, _), (3, _)]) (H' := [(_, _), (_, _), (_, _), (_, _)]) rfl rfl (det_move rfl)) ?_
  refine Head.norm (k' := 4) (es' := [.det 23 _, .det 24 _, .det 25 _, .det 26 _]) rfl rfl ?_
  refine Head.no rfl rfl (fun _ _ => rfl) ?_
  refine Head.norm (k' := 5) (es' := [.det 23 _, .det 24 _, .det 25 _, .det 26 _, .det 27 _]) rfl rfl ?_
  refine Head.no rfl rfl (fun _ _ => rfl) ?_
  refine Head.norm (k' := 6) (es' := [.det 23 _, .det 24 _, .det 25 _, .det 26 _, .det 27 _, .det 28 _]) rfl rfl ?_
  refine Head.no rfl rfl (fun _ _ => rfl) ?_
  refine Head.norm (k' := 7) (es' := [.det 23 _, .det 24 _, .det 25 _, .det 26 _, .det 27 _, .det 28 _, .det 29 _]) rfl rfl ?_
  refine Head.no rfl rfl (fun _ _ => rfl) ?_
  refine Head.norm (k' := 8) (es' := [.det 23 _, .det 24 _, .det 25 _, .det 26 _, .det 27 _, .det 28 _, .det 29 _, .det 30 _]) rfl rfl ?_
  refine Head.det rfl (fun β hβ => Det.norm (F' := [(23, _), (24, _), (25, _), (26, _), (27, _), (28, _), (29, _), (30, _), (22, _), (7, _), (5, _), (4, _), (3, _)]) (H' := [(_, _), (_, _), (_, _), (_, _)]) rfl rfl (det_pick rfl rfl)) ?_
  refine Head.norm (k' := 9) (es' := [.det 23 _, .det 24 _, .det 25 _, .det 26 _, .det 27 _, .det 28 _, .det 29 _, .det 30 _, .det 31 _]) rfl rfl ?_
  refine Head.det rfl (fun β hβ => Det.norm (F' := [(23, _), (24, _), (25, _), (26, _), (27, _), (28, _), (29, _), (30, _), (31, _), (22, _), (7, _), (5, _), (4, _), (3, _)]) (H' := [(_, _), (_, _), (_, _), (_, _)]) rfl rfl (det_move rfl)) ?_
  refine Head.norm (k' := 10) (es' := [.det 23 _, .det 24 _, .det 25 _, .det 26 _, .det 27 _, .det 28 _, .det 29 _, .det 30 _, .det 31 _, .det 32 _]) rfl rfl ?_
  refine Head.yes rfl rfl (fun _ _ => rfl) (fun β hβ => Det.norm (F' := [(23, _), (24, _), (25, _), (26, _), (27, _), (28, _), (29, _), (30, _), (31, _), (32, _), (22, _), (7, _), (5, _), (4, _), (3, _)]) (H' := [(_, _), (_, _), (_, _), (_, _)]) rfl rfl (det_loadA ty30 rfl (List.Mem.tail _ (List.Mem.tail _ (List.Mem.head _))) rfl)) ?_
  refine Head.norm (k' := 11) (es' := [.det 23 _, .det 24 _, .det 25 _, .det 26 _, .det 27 _, .det 28 _, .det 29 _, .det 30 _, .det 31 _, .det 32 _, .det 33 _]) rfl rfl ?_
  refine Head.yes rfl rfl (fun _ _ => rfl) (fun β hβ => Det.norm (F' := [(23, _), (24, _), (25, _), (26, _), (27, _), (28, _), (29, _), (30, _), (31, _), (32, _), (22, _), (7, _), (5, _), (4, _), (3, _)]) (H' := [(_, _), (_, _), (_, _), (_, _)]) rfl rfl (det_loadA ty30 rfl (List.Mem.head _) rfl)) ?_
  refine Head.norm (k' := 12) (es' := [.det 23 _, .det 24 _, .det 25 _, .det 26 _, .det 27 _, .det 28 _, .det 29 _, .det 30 _, .det 31 _, .det 32 _, .det 33 _, .det 34 _]) rfl rfl ?_
  refine Head.yes rfl rfl (fun _ _ => rfl) (fun β hβ => Det.norm (F' := [(23, _), (24, _), (25, _), (26, _), (27, _), (28, _), (29, _), (30, _), (31, _), (32, _), (33, _), (34, _), (22, _), (7, _), (5, _), (4, _), (3, _)]) (H' := [(_, _), (_, _), (_, _), (_, _)]) rfl rfl (Det.to (det_eql30 rfl rfl) (congrArg Value.bool (yb h1)))) ?_
  refine Head.norm (k' := 13) (es' := [.det 23 _, .det 24 _, .det 25 _, .det 26 _, .det 27 _, .det 28 _, .det 29 _, .det 30 _, .det 31 _, .det 32 _, .det 33 _, .det 34 _, .det 35 _]) rfl rfl ?_
  refine Head.yes rfl rfl (fun _ _ => rfl) (fun β hβ => Det.norm (F' := [(23, _), (24, _), (25, _), (26, _), (27, _), (28, _), (29, _), (30, _), (31, _), (32, _), (33, _), (34, _), (35, _), (22, _), (7, _), (5, _), (4, _), (3, _)]) (H' := [(_, _), (_, _), (_, _), (_, _)]) rfl rfl (det_move rfl)) ?_
  refine Head.norm (k' := 14) (es' := [.det 23 _, .det 24 _, .det 25 _, .det 26 _, .det 27 _, .det 28 _, .det 29 _, .det 30 _, .det 31 _, .det 32 _, .det 33 _, .det 34 _, .det 35 _, .det 36 _]) rfl rfl ?_
  refine Head.yes rfl rfl (fun _ _ => rfl) (fun β hβ => Det.norm (F' := [(23, _), (24, _), (25, _), (26, _), (27, _), (28, _), (29, _), (30, _), (31, _), (32, _), (33, _), (34, _), (35, _), (36, _), (22, _), (7, _), (5, _), (4, _), (3, _)]) (H' := [(_, _), (_, _), (_, _), (_, _)]) rfl rfl (det_loadA ty30 rfl (List.Mem.tail _ (List.Mem.tail _ (List.Mem.tail _ (List.Mem.head _)))) rfl)) ?_
  refine Head.norm (k' := 15) (es' := [.det 23 _, .det 24 _, .det 25 _, .det 26 _, .det 27 _, .det 28 _, .det 29 _, .det 30 _, .det 31 _, .det 32 _, .det 33 _, .det 34 _, .det 35 _, .det 36 _, .det 37 _]) rfl rfl ?_
  refine Head.yes rfl rfl (fun _ _ => rfl) (fun β hβ => Det.norm (F' := [(23, _), (24, _), (25, _), (26, _), (27, _), (28, _), (29, _), (30, _), (31, _), (32, _), (33, _), (34, _), (35, _), (36, _), (22, _), (7, _), (5, _), (4, _), (3, _)]) (H' := [(_, _), (_, _), (_, _), (_, _)]) rfl rfl (det_loadA ty30 rfl (List.Mem.tail _ (List.Mem.head _)) rfl)) ?_
  refine Head.norm (k' := 16) (es' := [.det 23 _, .det 24 _, .det 25 _, .det 26 _, .det 27 _, .det 28 _, .det 29 _, .det 30 _, .det 31 _, .det 32 _, .det 33 _, .det 34 _, .det 35 _, .det 36 _, .det 37 _, .det 38 _]) rfl rfl ?_
  refine Head.yes rfl rfl (fun _ _ => rfl) (fun β hβ => Det.norm (F' := [(23, _), (24, _), (25, _), (26, _), (27, _), (28, _), (29, _), (30, _), (31, _), (32, _), (33, _), (34, _), (35, _), (36, _), (38, _), (22, _), (7, _), (5, _), (4, _), (3, _)]) (H' := [(_, _), (_, _), (_, _), (_, _)]) rfl rfl (det_call en22 rfl (fun w hb ho => PNeg_ok ho.blocks))) ?_
  refine Head.norm (k' := 17) (es' := [.det 23 _, .det 24 _, .det 25 _, .det 26 _, .det 27 _, .det 28 _, .det 29 _, .det 30 _, .det 31 _, .det 32 _, .det 33 _, .det 34 _, .det 35 _, .det 36 _, .det 37 _, .det 38 _, .det 39 _]) rfl rfl ?_
  refine Head.yes rfl rfl (fun _ _ => rfl) (fun β hβ => Det.norm (F' := [(23, _), (24, _), (25, _), (26, _), (27, _), (28, _), (29, _), (30, _), (31, _), (32, _), (33, _), (34, _), (35, _), (36, _), (37, _), (38, _), (39, _), (22, _), (7, _), (5, _), (4, _), (3, _)]) (H' := [(_, _), (_, _), (_, _), (_, _)]) rfl rfl (Det.to (det_eql30 rfl rfl) (congrArg Value.bool (yb h2)))) ?_
  refine Head.norm (k' := 18) (es' := [.det 23 _, .det 24 _, .det 25 _, .det 26 _, .det 27 _, .det 28 _, .det 29 _, .det 30 _, .det 31 _, .det 32 _, .det 33 _, .det 34 _, .det 35 _, .det 36 _, .det 37 _, .det 38 _, .det 39 _, .det 40 _]) rfl rfl ?_
  refine Head.yes rfl rfl (fun _ _ => rfl) (fun β hβ => Det.norm (F' := [(23, _), (24, _), (25, _), (26, _), (27, _), (28, _), (29, _), (30, _), (31, _), (32, _), (33, _), (34, _), (35, _), (36, _), (37, _), (38, _), (39, _), (40, _), (22, _), (7, _), (5, _), (4, _), (3, _)]) (H' := [(_, _), (_, _), (_, _), (_, _)]) rfl rfl (det_pick rfl rfl)) ?_
  refine Head.norm (k' := 19) (es' := [.det 23 _, .det 24 _, .det 25 _, .det 26 _, .det 27 _, .det 28 _, .det 29 _, .det 30 _, .det 31 _, .det 32 _, .det 33 _, .det 34 _, .det 35 _, .det 36 _, .det 37 _, .det 38 _, .det 39 _, .det 40 _, .det 41 _]) rfl rfl ?_
  refine Head.det rfl (fun β hβ => Det.norm (F' := [(23, _), (24, _), (25, _), (26, _), (27, _), (28, _), (29, _), (30, _), (31, _), (32, _), (33, _), (34, _), (35, _), (36, _), (37, _), (38, _), (39, _), (40, _), (41, _), (22, _), (7, _), (5, _), (4, _), (3, _)]) (H' := [(_, _), (_, _), (_, _), (_, _)]) rfl rfl (det_pick rfl rfl)) ?_
  refine Head.norm (k' := 20) (es' := [.det 23 _, .det 24 _, .det 25 _, .det 26 _, .det 27 _, .det 28 _, .det 29 _, .det 30 _, .det 31 _, .det 32 _, .det 33 _, .det 34 _, .det 35 _, .det 36 _, .det 37 _, .det 38 _, .det 39 _, .det 40 _, .det 41 _, .det 42 _]) rfl rfl ?_
  refine Head.det rfl (fun β hβ => Det.norm (F' := [(23, _), (24, _), (25, _), (26, _), (27, _), (28, _), (29, _), (30, _), (31, _), (32, _), (33, _), (34, _), (35, _), (36, _), (37, _), (38, _), (39, _), (40, _), (41, _), (42, _), (22, _), (7, _), (5, _), (4, _), (3, _)]) (H' := [(_, _), (_, _), (_, _), (_, _)]) rfl rfl (det_move rfl)) ?_
  refine Head.norm (k' := 21) (es' := [.det 23 _, .det 24 _, .det 25 _, .det 26 _, .det 27 _, .det 28 _, .det 29 _, .det 30 _, .det 31 _, .det 32 _, .det 33 _, .det 34 _, .det 35 _, .det 36 _, .det 37 _, .det 38 _, .det 39 _, .det 40 _, .det 41 _, .det 42 _, .det 43 _]) rfl rfl ?_
  refine Head.no rfl rfl (fun _ _ => rfl) ?_
  refine Head.norm (k' := 22) (es' := [.det 23 _, .det 24 _, .det 25 _, .det 26 _, .det 27 _, .det 28 _, .det 29 _, .det 30 _, .det 31 _, .det 32 _, .det 33 _, .det 34 _, .det 35 _, .det 36 _, .det 37 _, .det 38 _, .det 39 _, .det 40 _, .det 41 _, .det 42 _, .det 43 _, .det 44 _]) rfl rfl ?_
  refine Head.no rfl rfl (fun _ _ => rfl) ?_
  refine Head.norm (k' := 23) (es' := [.det 23 _, .det 24 _, .det 25 _, .det 26 _, .det 27 _, .det 28 _, .det 29 _, .det 30 _, .det 31 _, .det 32 _, .det 33 _, .det 34 _, .det 35 _, .det 36 _, .det 37 _, .det 38 _, .det 39 _, .det 40 _, .det 41 _, .det 42 _, .det 43 _, .det 44 _, .det 45 _]) rfl rfl ?_
  refine Head.no rfl rfl (fun _ _ => rfl) ?_
  refine Head.norm (k' := 24) (es' := [.det 23 _, .det 24 _, .det 25 _, .det 26 _, .det 27 _, .det 28 _, .det 29 _, .det 30 _, .det 31 _, .det 32 _, .det 33 _, .det 34 _, .det 35 _, .det 36 _, .det 37 _, .det 38 _, .det 39 _, .det 40 _, .det 41 _, .det 42 _, .det 43 _, .det 44 _, .det 45 _, .det 46 _]) rfl rfl ?_
  refine Head.no rfl rfl (fun _ _ => rfl) ?_
  refine Head.norm (k' := 25) (es' := [.det 23 _, .det 24 _, .det 25 _, .det 26 _, .det 27 _, .det 28 _, .det 29 _, .det 30 _, .det 31 _, .det 32 _, .det 33 _, .det 34 _, .det 35 _, .det 36 _, .det 37 _, .det 38 _, .det 39 _, .det 40 _, .det 41 _, .det 42 _, .det 43 _, .det 44 _, .det 45 _, .det 46 _, .det 47 _]) rfl rfl ?_
  refine Head.un rfl rfl (fun _ _ => rfl) ?_
  refine Head.norm (k' := 26) (es' := [.det 23 _, .det 24 _, .det 25 _, .det 26 _, .det 27 _, .det 28 _, .det 29 _, .det 30 _, .det 31 _, .det 32 _, .det 33 _, .det 34 _, .det 35 _, .det 36 _, .det 37 _, .det 38 _, .det 39 _, .det 40 _, .det 41 _, .det 42 _, .det 43 _, .det 44 _, .det 45 _, .det 46 _, .det 47 _, .det 48 _]) rfl rfl ?_
  refine Head.un rfl rfl (fun _ _ => rfl) ?_
  refine Head.norm (k' := 27) (es' := [.det 23 _, .det 24 _, .det 25 _, .det 26 _, .det 27 _, .det 28 _, .det 29 _, .det 30 _, .det 31 _, .det 32 _, .det 33 _, .det 34 _, .det 35 _, .det 36 _, .det 37 _, .det 38 _, .det 39 _, .det 40 _, .det 41 _, .det 42 _, .det 43 _, .det 44 _, .det 45 _, .det 46 _, .det 47 _, .det 48 _, .det 49 _]) rfl rfl ?_
  refine Head.un rfl rfl (fun _ _ => rfl) ?_
  refine Head.norm (k' := 28) (es' := [.det 23 _, .det 24 _, .det 25 _, .det 26 _, .det 27 _, .det 28 _, .det 29 _, .det 30 _, .det 31 _, .det 32 _, .det 33 _, .det 34 _, .det 35 _, .det 36 _, .det 37 _, .det 38 _, .det 39 _, .det 40 _, .det 41 _, .det 42 _, .det 43 _, .det 44 _, .det 45 _, .det 46 _, .det 47 _, .det 48 _, .det 49 _, .det 50 _]) rfl rfl ?_
  refine Head.un rfl rfl (fun _ _ => rfl) ?_
  refine Head.norm (k' := 29) (es' := [.det 23 _, .det 24 _, .det 25 _, .det 26 _, .det 27 _, .det 28 _, .det 29 _, .det 30 _, .det 31 _, .det 32 _, .det 33 _, .det 34 _, .det 35 _, .det 36 _, .det 37 _, .det 38 _, .det 39 _, .det 40 _, .det 41 _, .det 42 _, .det 43 _, .det 44 _, .det 45 _, .det 46 _, .det 47 _, .det 48 _, .det 49 _, .det 50 _, .det 51 _]) rfl rfl ?_
  refine Head.no rfl rfl (fun _ _ => rfl) ?_
  refine Head.norm (k' := 30) (es' := (.det 23 _ :: .det 24 _ :: .det 25 _ :: .det 26 _ :: .det 27 _ :: .det 28 _ :: .det 29 _ :: .det 30 _ :: .det 31 _ :: .det 32 _ :: .det 33 _ :: .det 34 _ :: .det 35 _ :: .det 36 _ :: .det 37 _ :: .det 38 _ :: .det 39 _ :: .det 40 _ :: .det 41 _ :: .det 42 _ :: .det 43 _ :: .det 44 _ :: .det 45 _ :: .det 46 _ :: .det 47 _ :: .det 48 _ :: .det 49 _ :: .det 50 _ :: .det 51 _ :: .det 52 _ :: [])) rfl rfl ?_
  refine Head.det rfl (fun β hβ => Det.norm (F' := ((23, _) :: (24, _) :: (25, _) :: (26, _) :: (27, _) :: (28, _) :: (29, _) :: (30, _) :: (31, _) :: (32, _) :: (33, _) :: (34, _) :: (35, _) :: (36, _) :: (37, _) :: (38, _) :: (39, _) :: (40, _) :: (41, _) :: (42, _) :: (43, _) :: (44, _) :: (45, _) :: (46, _) :: (47, _) :: (48, _) :: (49, _) :: (50, _) :: (51, _) :: (52, _) :: (22, _) :: (7, _) :: (5, _) :: (4, _) :: (3, _) :: [])) (H' := [(_, _), (_, _), (_, _), (_, _)]) rfl rfl (det_pick rfl rfl)) ?_
  refine Head.norm (k' := 31) (es' := (.det 23 _ :: .det 24 _ :: .det 25 _ :: .det 26 _ :: .det 27 _ :: .det 28 _ :: .det 29 _ :: .det 30 _ :: .det 31 _ :: .det 32 _ :: .det 33 _ :: .det 34 _ :: .det 35 _ :: .det 36 _ :: .det 37 _ :: .det 38 _ :: .det 39 _ :: .det 40 _ :: .det 41 _ :: .det 42 _ :: .det 43 _ :: .det 44 _ :: .det 45 _ :: .det 46 _ :: .det 47 _ :: .det 48 _ :: .det 49 _ :: .det 50 _ :: .det 51 _ :: .det 52 _ :: .det 53 _ :: [])) rfl rfl ?_
  refine Head.det rfl (fun β hβ => Det.norm (F' := ((23, _) :: (24, _) :: (25, _) :: (26, _) :: (27, _) :: (28, _) :: (29, _) :: (30, _) :: (31, _) :: (32, _) :: (33, _) :: (34, _) :: (35, _) :: (36, _) :: (37, _) :: (38, _) :: (39, _) :: (40, _) :: (41, _) :: (42, _) :: (43, _) :: (44, _) :: (45, _) :: (46, _) :: (47, _) :: (48, _) :: (49, _) :: (50, _) :: (51, _) :: (52, _) :: (53, _) :: (22, _) :: (7, _) :: (5, _) :: (4, _) :: (3, _) :: [])) (H' := [(_, _), (_, _), (_, _), (_, _)]) rfl rfl (det_assign rfl)) ?_
  refine Head.norm (k' := 32) (es' := (.det 23 _ :: .det 24 _ :: .det 25 _ :: .det 26 _ :: .det 27 _ :: .det 28 _ :: .det 29 _ :: .det 30 _ :: .det 31 _ :: .det 32 _ :: .det 33 _ :: .det 34 _ :: .det 35 _ :: .det 36 _ :: .det 37 _ :: .det 38 _ :: .det 39 _ :: .det 40 _ :: .det 41 _ :: .det 42 _ :: .det 43 _ :: .det 44 _ :: .det 45 _ :: .det 46 _ :: .det 47 _ :: .det 48 _ :: .det 49 _ :: .det 50 _ :: .det 51 _ :: .det 52 _ :: .det 53 _ :: .det 6 _ :: [])) rfl rfl ?_
  refine Head.done ⟨by kernel_rfl, fun β hβ => ?_⟩
  refine OpsW.norm (F' := ((23, _) :: (24, _) :: (25, _) :: (26, _) :: (27, _) :: (28, _) :: (29, _) :: (30, _) :: (31, _) :: (32, _) :: (33, _) :: (34, _) :: (35, _) :: (36, _) :: (37, _) :: (38, _) :: (39, _) :: (40, _) :: (41, _) :: (42, _) :: (43, _) :: (44, _) :: (45, _) :: (46, _) :: (47, _) :: (48, _) :: (49, _) :: (50, _) :: (51, _) :: (52, _) :: (53, _) :: (6, _) :: (22, _) :: (7, _) :: (5, _) :: (4, _) :: (3, _) :: [])) (H' := [(_, _), (_, _), (_, _), (_, _)]) rfl rfl ?_
  refine sNext ?_
  refine W.keep (F' := [(6, _)]) ⟨rfl, trivial⟩ ?_
  refine sRet ?_
  exact done1 Tryd.results29 (rv_tmp rfl) rfl
set_option maxHeartbeats 2000000 in
theorem sidesC_ok {p q r : Pt} (h0 : p ≠ (0, 0)) (h0' : q ≠ (0, 0)) (h1 : r = (0, 0)) (h2 : p = pneg q) {w : World} (hG : Blocks (GH T) w)  : Vm.Pure Tryd.prog 29 #[encP p, encP q, encP r] w (.bool true) := by
  refine pure_of_W (n := 140) (args := [encP p, encP q, encP r]) Tryd.func29 rfl Tryd.ntmps29 (Nat.le_of_ble_eq_true rfl) hG ?_
  refine sStart ?_
  refine sSeq ?_
  refine W.region ?_
  refine OpsW.fresh (fr_box rfl rfl) rfl fun b3 => ?_
  refine OpsW.fresh (fr_box rfl rfl) rfl fun b4 => ?_
  refine OpsW.fresh (fr_box rfl rfl) rfl fun b5 => ?_
  refine OpsW.det (det_assign rfl) rfl ?_
  refine sNext ?_
  refine W.keep (F' := [(5, _), (4, _), (3, _)]) ⟨rfl, rfl, rfl, trivial⟩ ?_
  refine sSeq ?_
  refine W.region ?_
  refine OpsW.det (det_zero bz30) rfl ?_
  refine OpsW.fresh (fr_alloc z30) rfl fun b7 => ?_
  refine OpsW.store sz30 rfl rfl rfl rfl rfl (Upd.here) rfl ?_
  refine sNext ?_
  refine W.keep (F' := [(7, _), (5, _), (4, _), (3, _)]) ⟨rfl, rfl, rfl, rfl, trivial⟩ ?_
  refine sSeq ?_
  refine sSeq ?_
  refine W.region ?_
  refine OpsW.det (det_loadA ty30 rfl (List.Mem.tail _ (List.Mem.tail _ (List.Mem.tail _ (List.Mem.head _)))) rfl) rfl ?_
  refine OpsW.det (det_loadA ty30 rfl (List.Mem.head _) rfl) rfl ?_
  refine OpsW.det (Det.to (det_eql30 rfl rfl) (congrArg Value.bool (nf h0))) rfl ?_
  refine OpsW.det (det_move rfl) rfl ?_
  refine OpsW.guard_yes rfl rfl ?_
  refine OpsW.det (det_loadA ty30 rfl (List.Mem.tail _ (List.Mem.tail _ (List.Mem.head _))) rfl) rfl ?_
  refine OpsW.guard_yes rfl rfl ?_
  refine OpsW.det (det_loadA ty30 rfl (List.Mem.head _) rfl) rfl ?_
  refine OpsW.guard_yes rfl rfl ?_
  refine OpsW.det (Det.to (det_eql30 rfl rfl) (congrArg Value.bool (nf h0'))) rfl ?_
  refine OpsW.det (det_pick rfl rfl) rfl ?_
  refine OpsW.det (det_move rfl) rfl ?_
  refine OpsW.guard_yes rfl rfl ?_
  refine OpsW.det (det_loadA ty30 rfl (List.Mem.tail _ (List.Mem.head _)) rfl) rfl ?_
  refine OpsW.guard_yes rfl rfl ?_
  refine OpsW.det (det_loadA ty30 rfl (List.Mem.head _) rfl) rfl ?_
  refine OpsW.guard_yes rfl rfl ?_
  refine OpsW.det (Det.to (det_eql30 rfl rfl) (congrArg Value.bool (yb h1))) rfl ?_
  refine OpsW.det (det_pick rfl rfl) rfl ?_
  refine sNext ?_
  refine W.keep (F' := [(22, _), (7, _), (5, _), (4, _), (3, _)]) ⟨rfl, rfl, rfl, rfl, rfl, trivial⟩ ?_
  refine W.cond_true rfl ?_
  refine sSeq ?_
  refine W.draw mixed 32 [[], [], [0, 1], [0, 1, 2], [0, 1, 2, 3], [0, 1, 2, 3], [0, 1, 2, 3, 5], [0, 1, 2, 3, 4, 5, 6], [0, 1, 2, 3, 4, 5, 6, 7], [0, 1, 2, 3, 4, 5, 6, 7, 8], [0, 1, 2, 3, 4, 5, 6, 7, 8, 9], [0, 1, 2, 3, 4, 5, 6, 7, 8, 9], [0, 1, 2, 3, 4, 5, 6, 7, 8, 9, 10, 11], [0, 1, 2, 3, 4, 5, 6, 7, 8, 9, 10, 11, 12], [0, 1, 2, 3, 4, 5, 6, 7, 8, 9, 10, 11, 12, 13], [0, 1, 2, 3, 4, 5, 6, 7, 8, 9, 10, 11, 12, 13], [0, 1, 2, 3, 4, 5, 6, 7, 8, 9, 10, 11, 12, 13, 15], [0, 1, 2, 3, 4, 5, 6, 7, 8, 9, 10, 11, 12, 13, 14, 15, 16], [0, 1, 2, 3, 4, 5, 6, 7, 8, 9, 10, 11, 12, 13, 14, 15, 16, 17], [0, 1, 2, 3, 4, 5, 6, 7, 8, 9, 10, 11, 12, 13, 14, 15, 16, 17, 18], [0, 1, 2, 3, 4, 5, 6, 7, 8, 9, 10, 11, 12, 13, 14, 15, 16, 17, 18, 19], [0, 1, 2, 3, 4, 5, 6, 7, 8, 9, 10, 11, 12, 13, 14, 15, 16, 17, 18, 19, 20], [0, 1, 2, 3, 4, 5, 6, 7, 8, 9, 10, 11, 12, 13, 14, 15, 16, 17, 18, 19, 20], [0, 1, 2, 3, 4, 5, 6, 7, 8, 9, 10, 11, 12, 13, 14, 15, 16, 17, 18, 19, 20, 21, 22], [0, 1, 2, 3, 4, 5, 6, 7, 8, 9, 10, 11, 12, 13, 14, 15, 16, 17, 18, 19, 20, 21, 22, 23], [0, 1, 2, 3, 4, 5, 6, 7, 8, 9, 10, 11, 12, 13, 14, 15, 16, 17, 18, 19, 20, 21, 22, 23, 24], [0, 1, 2, 3, 4, 5, 6, 7, 8, 9, 10, 11, 12, 13, 14, 15, 16, 17, 18, 19, 20, 21, 22, 23, 24], [0, 1, 2, 3, 4, 5, 6, 7, 8, 9, 10, 11, 12, 13, 14, 15, 16, 17, 18, 19, 20, 21, 22, 23, 24, 26], [0, 1, 2, 3, 4, 5, 6, 7, 8, 9, 10, 11, 12, 13, 14, 15, 16, 17, 18, 19, 20, 21, 22, 23, 24, 25, 26, 27], [0, 1, 2, 3, 4, 5, 6, 7, 8, 9, 10, 11, 12, 13, 14, 15, 16, 17, 18, 19, 20, 21, 22, 23, 24, 25, 26, 27, 28], [0, 1, 2, 3, 4, 5, 6, 7, 8, 9, 10, 11, 12, 13, 14, 15, 16, 17, 18, 19, 20, 21, 22, 23, 24, 25, 26, 27, 28, 29], [0, 1, 2, 3, 4, 5, 6, 7, 8, 9, 10, 11, 12, 13, 14, 15, 16, 17, 18, 19, 20, 21, 22, 23, 24, 25, 26, 27, 28, 29, 30]] (cl_lt (by decide)) ?_
  refine Head.det rfl (fun β hβ => Det.norm (F' := [(22, _), (7, _), (5, _), (4, _), (3, _)]) (H' := [(_, _), (_, _), (_, _), (_, _)]) rfl rfl (det_loadA ty30 rfl (List.Mem.tail _ (List.Mem.tail _ (List.Mem.tail _ (List.Mem.head _)))) rfl)) ?_
  refine Head.norm (k' := 1) (es' := [.det 23 _]) rfl rfl ?_
  refine Head.det rfl (fun β hβ => Det.norm (F' := [(22, _), (7, _), (5, _), (4, _), (3, _)]) (H' := [(_, _), (_, _), (_, _), (_, _)]) rfl rfl (det_loadA ty30 rfl (List.Mem.head _) rfl)) ?_
  refine Head.norm (k' := 2) (es' := [.det 23 _, .det 24 _]) rfl rfl ?_
  refine Head.det rfl (fun β hβ => Det.norm (F' := [(23, _), (24, _), (22, _), (7, _), (5, _), (4, _), (3, _)]) (H' := [(_, _), (_, _), (_, _), (_, _)]) rfl rfl (Det.to (det_eql30 rfl rfl) (congrArg Value.bool (nf h0)))) ?_
  refine Head.norm (k' := 3) (es' := [.det 23 _, .det 24 _, .det 25 _]) rfl rfl ?_
  refine Head.det rfl (fun β hβ => Det.norm (F' := [(23, _), (24, _), (25, _), (22, _), (7, _), (5, _), (4, _), (3, _)]) (H' := [(_, _), (_, _), (_, _), (_, _)]) rfl rfl (det_move rfl)) ?_
  refine Head.norm (k' := 4) (es' := [.det 23 _, .det 24 _, .det 25 _, .det 26 _]) rfl rfl ?_
  refine Head.no rfl rfl (fun _ _ => rfl) ?_
  refine Head.norm (k' := 5) (es' := [.det 23 _, .det 24 _, .det 25 _, .det 26 _, .det 27 _]) rfl rfl ?_
  refine Head.no rfl rfl (fun _ _ => rfl) ?_
  refine Head.norm (k' := 6) (es' := [.det 23 _, .det 24 _, .det 25 _, .det 26 _, .det 27 _, .det 28 _]) rfl rfl ?_
  refine Head.no rfl rfl (fun _ _ => rfl) ?_
  refine Head.norm (k' := 7) (es' := [.det 23 _, .det 24 _, .det 25 _, .det 26 _, .det 27 _, .det 28 _, .det 29 _]) rfl rfl ?_
  refine Head.no rfl rfl (fun _ _ => rfl) ?_
  refine Head.norm (k' := 8) (es' := [.det 23 _, .det 24 _, .det 25 _, .det 26 _, .det 27 _, .det 28 _, .det 29 _, .det 30 _]) rfl rfl ?_
  refine Head.det rfl (fun β hβ => Det.norm (F' := [(23, _), (24, _), (25, _), (26, _), (27, _), (28, _), (29, _), (30, _), (22, _), (7, _), (5, _), (4, _), (3, _)]) (H' := [(_, _), (_, _), (_, _), (_, _)]) rfl rfl (det_pick rfl rfl)) ?_
  refine Head.norm (k' := 9) (es' := [.det 23 _, .det 24 _, .det 25 _, .det 26 _, .det 27 _, .det 28 _, .det 29 _, .det 30 _, .det 31 _]) rfl rfl ?_
  refine Head.det rfl (fun β hβ => Det.norm (F' := [(23, _), (24, _), (25, _), (26, _), (27, _), (28, _), (29, _), (30, _), (31, _), (22, _), (7, _), (5, _), (4, _), (3, _)]) (H' := [(_, _), (_, _), (_, _), (_, _)]) rfl rfl (det_move rfl)) ?_
  refine Head.norm (k' := 10) (es' := [.det 23 _, .det 24 _, .det 25 _, .det 26 _, .det 27 _, .det 28 _, .det 29 _, .det 30 _, .det 31 _, .det 32 _]) rfl rfl ?_
  refine Head.yes rfl rfl (fun _ _ => rfl) (fun β hβ => Det.norm (F' := [(23, _), (24, _), (25, _), (26, _), (27, _), (28, _), (29, _), (30, _), (31, _), (32, _), (22, _), (7, _), (5, _), (4, _), (3, _)]) (H' := [(_, _), (_, _), (_, _), (_, _)]) rfl rfl (det_loadA ty30 rfl (List.Mem.tail _ (List.Mem.tail _ (List.Mem.head _))) rfl)) ?_
  refine Head.norm (k' := 11) (es' := [.det 23 _, .det 24 _, .det 25 _, .det 26 _, .det 27 _, .det 28 _, .det 29 _, .det 30 _, .det 31 _, .det 32 _, .det 33 _]) rfl rfl ?_
  refine Head.yes rfl rfl (fun _ _ => rfl) (fun β hβ => Det.norm (F' := [(23, _), (24, _), (25, _), (26, _), (27, _), (28, _), (29, _), (30, _), (31, _), (32, _), (22, _), (7, _), (5, _), (4, _), (3, _)]) (H' := [(_, _), (_, _), (_, _), (_, _)]) rfl rfl (det_loadA ty30 rfl (List.Mem.head _) rfl)) ?_
  refine Head.norm (k' := 12) (es' := [.det 23 _, .det 24 _, .det 25 _, .det 26 _, .det 27 _, .det 28 _, .det 29 _, .det 30 _, .det 31 _, .det 32 _, .det 33 _, .det 34 _]) rfl rfl ?_
  refine Head.yes rfl rfl (fun _ _ => rfl) (fun β hβ => Det.norm (F' := [(23, _), (24, _), (25, _), (26, _), (27, _), (28, _), (29, _), (30, _), (31, _), (32, _), (33, _), (34, _), (22, _), (7, _), (5, _), (4, _), (3, _)]) (H' := [(_, _), (_, _), (_, _), (_, _)]) rfl rfl (Det.to (det_eql30 rfl rfl) (congrArg Value.bool (nf h0')))) ?_
  refine Head.norm (k' := 13) (es' := [.det 23 _, .det 24 _, .det 25 _, .det 26 _, .det 27 _, .det 28 _, .det 29 _, .det 30 _, .det 31 _, .det 32 _, .det 33 _, .det 34 _, .det 35 _]) rfl rfl ?_
  refine Head.yes rfl rfl (fun _ _ => rfl) (fun β hβ => Det.norm (F' := [(23, _), (24, _), (25, _), (26, _), (27, _), (28, _), (29, _), (30, _), (31, _), (32, _), (33, _), (34, _), (35, _), (22, _), (7, _), (5, _), (4, _), (3, _)]) (H' := [(_, _), (_, _), (_, _), (_, _)]) rfl rfl (det_move rfl)) ?_
  refine Head.norm (k' := 14) (es' := [.det 23 _, .det 24 _, .det 25 _, .det 26 _, .det 27 _, .det 28 _, .det 29 _, .det 30 _, .det 31 _, .det 32 _, .det 33 _, .det 34 _, .det 35 _, .det 36 _]) rfl rfl ?_
  refine Head.no rfl rfl (fun _ _ => rfl) ?_
  refine Head.norm (k' := 15) (es' := [.det 23 _, .det 24 _, .det 25 _, .det 26 _, .det 27 _, .det 28 _, .det 29 _, .det 30 _, .det 31 _, .det 32 _, .det 33 _, .det 34 _, .det 35 _, .det 36 _, .det 37 _]) rfl rfl ?_
  refine Head.no rfl rfl (fun _ _ => rfl) ?_
  refine Head.norm (k' := 16) (es' := [.det 23 _, .det 24 _, .det 25 _, .det 26 _, .det 27 _, .det 28 _, .det 29 _, .det 30 _, .det 31 _, .det 32 _, .det 33 _, .det 34 _, .det 35 _, .det 36 _, .det 37 _, .det 38 _]) rfl rfl ?_
  refine Head.no rfl rfl (fun _ _ => rfl) ?_
  refine Head.norm (k' := 17) (es' := [.det 23 _, .det 24 _, .det 25 _, .det 26 _, .det 27 _, .det 28 _, .det 29 _, .det 30 _, .det 31 _, .det 32 _, .det 33 _, .det 34 _, .det 35 _, .det 36 _, .det 37 _, .det 38 _, .det 39 _]) rfl rfl ?_
  refine Head.no rfl rfl (fun _ _ => rfl) ?_
  refine Head.norm (k' := 18) (es' := [.det 23 _, .det 24 _, .det 25 _, .det 26 _, .det 27 _, .det 28 _, .det 29 _, .det 30 _, .det 31 _, .det 32 _, .det 33 _, .det 34 _, .det 35 _, .det 36 _, .det 37 _, .det 38 _, .det 39 _, .det 40 _]) rfl rfl ?_
  refine Head.yes rfl rfl (fun _ _ => rfl) (fun β hβ => Det.norm (F' := [(23, _), (24, _), (25, _), (26, _), (27, _), (28, _), (29, _), (30, _), (31, _), (32, _), (33, _), (34, _), (35, _), (36, _), (37, _), (38, _), (39, _), (40, _), (22, _), (7, _), (5, _), (4, _), (3, _)]) (H' := [(_, _), (_, _), (_, _), (_, _)]) rfl rfl (det_pick rfl rfl)) ?_
  refine Head.norm (k' := 19) (es' := [.det 23 _, .det 24 _, .det 25 _, .det 26 _, .det 27 _, .det 28 _, .det 29 _, .det 30 _, .det 31 _, .det 32 _, .det 33 _, .det 34 _, .det 35 _, .det 36 _, .det 37 _, .det 38 _, .det 39 _, .det 40 _, .det 41 _]) rfl rfl ?_
  refine Head.det rfl (fun β hβ => Det.norm (F' := [(23, _), (24, _), (25, _), (26, _), (27, _), (28, _), (29, _), (30, _), (31, _), (32, _), (33, _), (34, _), (35, _), (36, _), (37, _), (38, _), (39, _), (40, _), (41, _), (22, _), (7, _), (5, _), (4, _), (3, _)]) (H' := [(_, _), (_, _), (_, _), (_, _)]) rfl rfl (det_pick rfl rfl)) ?_
  refine Head.norm (k' := 20) (es' := [.det 23 _, .det 24 _, .det 25 _, .det 26 _, .det 27 _, .det 28 _, .det 29 _, .det 30 _, .det 31 _, .det 32 _, .det 33 _, .det 34 _, .det 35 _, .det 36 _, .det 37 _, .det 38 _, .det 39 _, .det 40 _, .det 41 _, .det 42 _]) rfl rfl ?_
  refine Head.det rfl (fun β hβ => Det.norm (F' := [(23, _), (24, _), (25, _), (26, _), (27, _), (28, _), (29, _), (30, _), (31, _), (32, _), (33, _), (34, _), (35, _), (36, _), (37, _), (38, _), (39, _), (40, _), (41, _), (42, _), (22, _), (7, _), (5, _), (4, _), (3, _)]) (H' := [(_, _), (_, _), (_, _), (_, _)]) rfl rfl (det_move rfl)) ?_
  refine Head.norm (k' := 21) (es' := [.det 23 _, .det 24 _, .det 25 _, .det 26 _, .det 27 _, .det 28 _, .det 29 _, .det 30 _, .det 31 _, .det 32 _, .det 33 _, .det 34 _, .det 35 _, .det 36 _, .det 37 _, .det 38 _, .det 39 _, .det 40 _, .det 41 _, .det 42 _, .det 43 _]) rfl rfl ?_
  refine Head.yes rfl rfl (fun _ _ => rfl) (fun β hβ => Det.norm (F' := [(23, _), (24, _), (25, _), (26, _), (27, _), (28, _), (29, _), (30, _), (31, _), (32, _), (33, _), (34, _), (35, _), (36, _), (37, _), (38, _), (39, _), (40, _), (41, _), (42, _), (43, _), (22, _), (7, _), (5, _), (4, _), (3, _)]) (H' := [(_, _), (_, _), (_, _), (_, _)]) rfl rfl (det_loadA ty30 rfl (List.Mem.tail _ (List.Mem.head _)) rfl)) ?_
  refine Head.norm (k' := 22) (es' := [.det 23 _, .det 24 _, .det 25 _, .det 26 _, .det 27 _, .det 28 _, .det 29 _, .det 30 _, .det 31 _, .det 32 _, .det 33 _, .det 34 _, .det 35 _, .det 36 _, .det 37 _, .det 38 _, .det 39 _, .det 40 _, .det 41 _, .det 42 _, .det 43 _, .det 44 _]) rfl rfl ?_
  refine Head.yes rfl rfl (fun _ _ => rfl) (fun β hβ => Det.norm (F' := [(23, _), (24, _), (25, _), (26, _), (27, _), (28, _), (29, _), (30, _), (31, _), (32, _), (33, _), (34, _), (35, _), (36, _), (37, _), (38, _), (39, _), (40, _), (41, _), (42, _), (43, _), (22, _), (7, _), (5, _), (4, _), (3, _)]) (H' := [(_, _), (_, _), (_, _), (_, _)]) rfl rfl (det_loadA ty30 rfl (List.Mem.head _) rfl)) ?_
  refine Head.norm (k' := 23) (es' := [.det 23 _, .det 24 _, .det 25 _, .det 26 _, .det 27 _, .det 28 _, .det 29 _, .det 30 _, .det 31 _, .det 32 _, .det 33 _, .det 34 _, .det 35 _, .det 36 _, .det 37 _, .det 38 _, .det 39 _, .det 40 _, .det 41 _, .det 42 _, .det 43 _, .det 44 _, .det 45 _]) rfl rfl ?_
  refine Head.yes rfl rfl (fun _ _ => rfl) (fun β hβ => Det.norm (F' := [(23, _), (24, _), (25, _), (26, _), (27, _), (28, _), (29, _), (30, _), (31, _), (32, _), (33, _), (34, _), (35, _), (36, _), (37, _), (38, _), (39, _), (40, _), (41, _), (42, _), (43, _), (44, _), (45, _), (22, _), (7, _), (5, _), (4, _), (3, _)]) (H' := [(_, _), (_, _), (_, _), (_, _)]) rfl rfl (Det.to (det_eql30 rfl rfl) (congrArg Value.bool (yb h1)))) ?_
  refine Head.norm (k' := 24) (es' := [.det 23 _, .det 24 _, .det 25 _, .det 26 _, .det 27 _, .det 28 _, .det 29 _, .det 30 _, .det 31 _, .det 32 _, .det 33 _, .det 34 _, .det 35 _, .det 36 _, .det 37 _, .det 38 _, .det 39 _, .det 40 _, .det 41 _, .det 42 _, .det 43 _, .det 44 _, .det 45 _, .det 46 _]) rfl rfl ?_
  refine Head.yes rfl rfl (fun _ _ => rfl) (fun β hβ => Det.norm (F' := [(23, _), (24, _), (25, _), (26, _), (27, _), (28, _), (29, _), (30, _), (31, _), (32, _), (33, _), (34, _), (35, _), (36, _), (37, _), (38, _), (39, _), (40, _), (41, _), (42, _), (43, _), (44, _), (45, _), (46, _), (22, _), (7, _), (5, _), (4, _), (3, _)]) (H' := [(_, _), (_, _), (_, _), (_, _)]) rfl rfl (det_move rfl)) ?_
  refine Head.norm (k' := 25) (es' := [.det 23 _, .det 24 _, .det 25 _, .det 26 _, .det 27 _, .det 28 _, .det 29 _, .det 30 _, .det 31 _, .det 32 _, .det 33 _, .det 34 _, .det 35 _, .det 36 _, .det 37 _, .det 38 _, .det 39 _, .det 40 _, .det 41 _, .det 42 _, .det 43 _, .det 44 _, .det 45 _, .det 46 _, .det 47 _]) rfl rfl ?_
  refine Head.yes rfl rfl (fun _ _ => rfl) (fun β hβ => Det.norm (F' := ((23, _) :: (24, _) :: (25, _) :: (26, _) :: (27, _) :: (28, _) :: (29, _) :: (30, _) :: (31, _) :: (32, _) :: (33, _) :: (34, _) :: (35, _) :: (36, _) :: (37, _) :: (38, _) :: (39, _) :: (40, _) :: (41, _) :: (42, _) :: (43, _) :: (44, _) :: (45, _) :: (46, _) :: (47, _) :: (22, _) :: (7, _) :: (5, _) :: (4, _) :: (3, _) :: [])) (H' := [(_, _), (_, _), (_, _), (_, _)]) rfl rfl (det_loadA ty30 rfl (List.Mem.tail _ (List.Mem.tail _ (List.Mem.tail _ (List.Mem.head _)))) rfl)) ?_
  refine Head.norm (k' := 26) (es' := [.det 23 _, .det 24 _, .det 25 _, .det 26 _, .det 27 _, .det 28 _, .det 29 _, .det 30 _, .det 31 _, .det 32 _, .det 33 _, .det 34 _, .det 35 _, .det 36 _, .det 37 _, .det 38 _, .det 39 _, .det 40 _, .det 41 _, .det 42 _, .det 43 _, .det 44 _, .det 45 _, .det 46 _, .det 47 _, .det 48 _]) rfl rfl ?_
  refine Head.yes rfl rfl (fun _ _ => rfl) (fun β hβ => Det.norm (F' := ((23, _) :: (24, _) :: (25, _) :: (26, _) :: (27, _) :: (28, _) :: (29, _) :: (30, _) :: (31, _) :: (32, _) :: (33, _) :: (34, _) :: (35, _) :: (36, _) :: (37, _) :: (38, _) :: (39, _) :: (40, _) :: (41, _) :: (42, _) :: (43, _) :: (44, _) :: (45, _) :: (46, _) :: (47, _) :: (22, _) :: (7, _) :: (5, _) :: (4, _) :: (3, _) :: [])) (H' := [(_, _), (_, _), (_, _), (_, _)]) rfl rfl (det_loadA ty30 rfl (List.Mem.tail _ (List.Mem.tail _ (List.Mem.head _))) rfl)) ?_
  refine Head.norm (k' := 27) (es' := [.det 23 _, .det 24 _, .det 25 _, .det 26 _, .det 27 _, .det 28 _, .det 29 _, .det 30 _, .det 31 _, .det 32 _, .det 33 _, .det 34 _, .det 35 _, .det 36 _, .det 37 _, .det 38 _, .det 39 _, .det 40 _, .det 41 _, .det 42 _, .det 43 _, .det 44 _, .det 45 _, .det 46 _, .det 47 _, .det 48 _, .det 49 _]) rfl rfl ?_
  refine Head.yes rfl rfl (fun _ _ => rfl) (fun β hβ => Det.norm (F' := ((23, _) :: (24, _) :: (25, _) :: (26, _) :: (27, _) :: (28, _) :: (29, _) :: (30, _) :: (31, _) :: (32, _) :: (33, _) :: (34, _) :: (35, _) :: (36, _) :: (37, _) :: (38, _) :: (39, _) :: (40, _) :: (41, _) :: (42, _) :: (43, _) :: (44, _) :: (45, _) :: (46, _) :: (47, _) :: (49, _) :: (22, _) :: (7, _) :: (5, _) :: (4, _) :: (3, _) :: [])) (H' := [(_, _), (_, _), (_, _), (_, _)]) rfl rfl (det_call en22 rfl (fun w hb ho => PNeg_ok ho.blocks))) ?_
  refine Head.norm (k' := 28) (es' := [.det 23 _, .det 24 _, .det 25 _, .det 26 _, .det 27 _, .det 28 _, .det 29 _, .det 30 _, .det 31 _, .det 32 _, .det 33 _, .det 34 _, .det 35 _, .det 36 _, .det 37 _, .det 38 _, .det 39 _, .det 40 _, .det 41 _, .det 42 _, .det 43 _, .det 44 _, .det 45 _, .det 46 _, .det 47 _, .det 48 _, .det 49 _, .det 50 _]) rfl rfl ?_
  refine Head.yes rfl rfl (fun _ _ => rfl) (fun β hβ => Det.norm (F' := ((23, _) :: (24, _) :: (25, _) :: (26, _) :: (27, _) :: (28, _) :: (29, _) :: (30, _) :: (31, _) :: (32, _) :: (33, _) :: (34, _) :: (35, _) :: (36, _) :: (37, _) :: (38, _) :: (39, _) :: (40, _) :: (41, _) :: (42, _) :: (43, _) :: (44, _) :: (45, _) :: (46, _) :: (47, _) :: (48, _) :: (49, _) :: (50, _) :: (22, _) :: (7, _) :: (5, _) :: (4, _) :: (3, _) :: [])) (H' := [(_, _), (_, _), (_, _), (_, _)]) rfl rfl (Det.to (det_eql30 rfl rfl) (congrArg Value.bool (yb h2)))) ?_
  refine Head.norm (k' := 29) (es' := [.det 23 _, .det 24 _, .det 25 _, .det 26 _, .det 27 _, .det 28 _, .det 29 _, .det 30 _, .det 31 _, .det 32 _, .det 33 _, .det 34 _, .det 35 _, .det 36 _, .det 37 _, .det 38 _, .det 39 _, .det 40 _, .det 41 _, .det 42 _, .det 43 _, .det 44 _, .det 45 _, .det 46 _, .det 47 _, .det 48 _, .det 49 _, .det 50 _, .det 51 _]) rfl rfl ?_
  refine Head.yes rfl rfl (fun _ _ => rfl) (fun β hβ => Det.norm (F' := ((23, _) :: (24, _) :: (25, _) :: (26, _) :: (27, _) :: (28, _) :: (29, _) :: (30, _) :: (31, _) :: (32, _) :: (33, _) :: (34, _) :: (35, _) :: (36, _) :: (37, _) :: (38, _) :: (39, _) :: (40, _) :: (41, _) :: (42, _) :: (43, _) :: (44, _) :: (45, _) :: (46, _) :: (47, _) :: (48, _) :: (49, _) :: (50, _) :: (51, _) :: (22, _) :: (7, _) :: (5, _) :: (4, _) :: (3, _) :: [])) (H' := [(_, _), (_, _), (_, _), (_, _)]) rfl rfl (det_pick rfl rfl)) ?_
  refine Head.norm (k' := 30) (es' := (.det 23 _ :: .det 24 _ :: .det 25 _ :: .det 26 _ :: .det 27 _ :: .det 28 _ :: .det 29 _ :: .det 30 _ :: .det 31 _ :: .det 32 _ :: .det 33 _ :: .det 34 _ :: .det 35 _ :: .det 36 _ :: .det 37 _ :: .det 38 _ :: .det 39 _ :: .det 40 _ :: .det 41 _ :: .det 42 _ :: .det 43 _ :: .det 44 _ :: .det 45 _ :: .det 46 _ :: .det 47 _ :: .det 48 _ :: .det 49 _ :: .det 50 _ :: .det 51 _ :: .det 52 _ :: [])) rfl rfl ?_
  refine Head.det rfl (fun β hβ => Det.norm (F' := ((23, _) :: (24, _) :: (25, _) :: (26, _) :: (27, _) :: (28, _) :: (29, _) :: (30, _) :: (31, _) :: (32, _) :: (33, _) :: (34, _) :: (35, _) :: (36, _) :: (37, _) :: (38, _) :: (39, _) :: (40, _) :: (41, _) :: (42, _) :: (43, _) :: (44, _) :: (45, _) :: (46, _) :: (47, _) :: (48, _) :: (49, _) :: (50, _) :: (51, _) :: (52, _) :: (22, _) :: (7, _) :: (5, _) :: (4, _) :: (3, _) :: [])) (H' := [(_, _), (_, _), (_, _), (_, _)]) rfl rfl (det_pick rfl rfl)) ?_
  refine Head.norm (k' := 31) (es' := (.det 23 _ :: .det 24 _ :: .det 25 _ :: .det 26 _ :: .det 27 _ :: .det 28 _ :: .det 29 _ :: .det 30 _ :: .det 31 _ :: .det 32 _ :: .det 33 _ :: .det 34 _ :: .det 35 _ :: .det 36 _ :: .det 37 _ :: .det 38 _ :: .det 39 _ :: .det 40 _ :: .det 41 _ :: .det 42 _ :: .det 43 _ :: .det 44 _ :: .det 45 _ :: .det 46 _ :: .det 47 _ :: .det 48 _ :: .det 49 _ :: .det 50 _ :: .det 51 _ :: .det 52 _ :: .det 53 _ :: [])) rfl rfl ?_
  refine Head.det rfl (fun β hβ => Det.norm (F' := ((23, _) :: (24, _) :: (25, _) :: (26, _) :: (27, _) :: (28, _) :: (29, _) :: (30, _) :: (31, _) :: (32, _) :: (33, _) :: (34, _) :: (35, _) :: (36, _) :: (37, _) :: (38, _) :: (39, _) :: (40, _) :: (41, _) :: (42, _) :: (43, _) :: (44, _) :: (45, _) :: (46, _) :: (47, _) :: (48, _) :: (49, _) :: (50, _) :: (51, _) :: (52, _) :: (53, _) :: (22, _) :: (7, _) :: (5, _) :: (4, _) :: (3, _) :: [])) (H' := [(_, _), (_, _), (_, _), (_, _)]) rfl rfl (det_assign rfl)) ?_
  refine Head.norm (k' := 32) (es' := (.det 23 _ :: .det 24 _ :: .det 25 _ :: .det 26 _ :: .det 27 _ :: .det 28 _ :: .det 29 _ :: .det 30 _ :: .det 31 _ :: .det 32 _ :: .det 33 _ :: .det 34 _ :: .det 35 _ :: .det 36 _ :: .det 37 _ :: .det 38 _ :: .det 39 _ :: .det 40 _ :: .det 41 _ :: .det 42 _ :: .det 43 _ :: .det 44 _ :: .det 45 _ :: .det 46 _ :: .det 47 _ :: .det 48 _ :: .det 49 _ :: .det 50 _ :: .det 51 _ :: .det 52 _ :: .det 53 _ :: .det 6 _ :: [])) rfl rfl ?_
  refine Head.done ⟨by kernel_rfl, fun β hβ => ?_⟩
  refine OpsW.norm (F' := ((23, _) :: (24, _) :: (25, _) :: (26, _) :: (27, _) :: (28, _) :: (29, _) :: (30, _) :: (31, _) :: (32, _) :: (33, _) :: (34, _) :: (35, _) :: (36, _) :: (37, _) :: (38, _) :: (39, _) :: (40, _) :: (41, _) :: (42, _) :: (43, _) :: (44, _) :: (45, _) :: (46, _) :: (47, _) :: (48, _) :: (49, _) :: (50, _) :: (51, _) :: (52, _) :: (53, _) :: (6, _) :: (22, _) :: (7, _) :: (5, _) :: (4, _) :: (3, _) :: [])) (H' := [(_, _), (_, _), (_, _), (_, _)]) rfl rfl ?_
  refine sNext ?_
  refine W.keep (F' := [(6, _)]) ⟨rfl, trivial⟩ ?_
  refine sRet ?_
  exact done1 Tryd.results29 (rv_tmp rfl) rfl
set_option maxHeartbeats 2000000 in
theorem sidesD_ok {p q r : Pt} (h0 : p ≠ (0, 0)) (h0' : q ≠ (0, 0)) (h0'' : r ≠ (0, 0)) (h1 : p = q) (h2 : r.1 ≠ p.1) (h3 : (p.2 + p.2) * (r.2 - p.2) = (p.1 * p.1 + p.1 * p.1 + p.1 * p.1) * (r.1 - p.1)) {w : World} (hG : Blocks (GH T) w)  : Vm.Pure Tryd.prog 29 #[encP p, encP q, encP r] w (.bool true) := by
  refine pure_of_W (n := 140) (args := [encP p, encP q, encP r]) Tryd.func29 rfl Tryd.ntmps29 (Nat.le_of_ble_eq_true rfl) hG ?_
  refine sStart ?_
  refine sSeq ?_
  refine W.region ?_
  refine OpsW.fresh (fr_box rfl rfl) rfl fun b3 => ?_
  refine OpsW.fresh (fr_box rfl rfl) rfl fun b4 => ?_
  refine OpsW.fresh (fr_box rfl rfl) rfl fun b5 => ?_
  refine OpsW.det (det_assign rfl) rfl ?_
  refine sNext ?_
  refine W.keep (F' := [(5, _), (4, _), (3, _)]) ⟨rfl, rfl, rfl, trivial⟩ ?_
  refine sSeq ?_
  refine W.region ?_
  refine OpsW.det (det_zero bz30) rfl ?_
  refine OpsW.fresh (fr_alloc z30) rfl fun b7 => ?_
  refine OpsW.store sz30 rfl rfl rfl rfl rfl (Upd.here) rfl ?_
  refine sNext ?_
  refine W.keep (F' := [(7, _), (5, _), (4, _), (3, _)]) ⟨rfl, rfl, rfl, rfl, trivial⟩ ?_
  refine sSeq ?_
  refine sSeq ?_
  refine W.region ?_
  refine OpsW.det (det_loadA ty30 rfl (List.Mem.tail _ (List.Mem.tail _ (List.Mem.tail _ (List.Mem.head _)))) rfl) rfl ?_
  refine OpsW.det (det_loadA ty30 rfl (List.Mem.head _) rfl) rfl ?_
  refine OpsW.det (Det.to (det_eql30 rfl rfl) (congrArg Value.bool (nf h0))) rfl ?_
  refine OpsW.det (det_move rfl) rfl ?_
  refine OpsW.guard_yes rfl rfl ?_
  refine OpsW.det (det_loadA ty30 rfl (List.Mem.tail _ (List.Mem.tail _ (List.Mem.head _))) rfl) rfl ?_
  refine OpsW.guard_yes rfl rfl ?_
  refine OpsW.det (det_loadA ty30 rfl (List.Mem.head _) rfl) rfl ?_
  refine OpsW.guard_yes rfl rfl ?_
  refine OpsW.det (Det.to (det_eql30 rfl rfl) (congrArg Value.bool (nf h0'))) rfl ?_
  refine OpsW.det (det_pick rfl rfl) rfl ?_
  refine OpsW.det (det_move rfl) rfl ?_
  refine OpsW.guard_yes rfl rfl ?_
  refine OpsW.det (det_loadA ty30 rfl (List.Mem.tail _ (List.Mem.head _)) rfl) rfl ?_
  refine OpsW.guard_yes rfl rfl ?_
  refine OpsW.det (det_loadA ty30 rfl (List.Mem.head _) rfl) rfl ?_
  refine OpsW.guard_yes rfl rfl ?_
  refine OpsW.det (Det.to (det_eql30 rfl rfl) (congrArg Value.bool (nf h0''))) rfl ?_
  refine OpsW.det (det_pick rfl rfl) rfl ?_
  refine sNext ?_
  refine W.keep (F' := [(22, _), (7, _), (5, _), (4, _), (3, _)]) ⟨rfl, rfl, rfl, rfl, rfl, trivial⟩ ?_
  refine W.cond_false rfl ?_
  refine sSkip ?_
  refine sSeq ?_
  refine sSeq ?_
  refine W.region ?_
  refine OpsW.det (det_loadA ty30 rfl (List.Mem.tail _ (List.Mem.tail _ (List.Mem.tail _ (List.Mem.head _)))) rfl) rfl ?_
  refine OpsW.det (det_loadA ty30 rfl (List.Mem.tail _ (List.Mem.tail _ (List.Mem.head _))) rfl) rfl ?_
  refine OpsW.det (Det.to (det_eql30 rfl rfl) (congrArg Value.bool (yb h1))) rfl ?_
  refine sNext ?_
  refine W.keep (F' := [(56, _), (5, _), (4, _), (3, _)]) ⟨rfl, rfl, rfl, rfl, trivial⟩ ?_
  refine W.cond_true rfl ?_
  refine sSeq ?_
  refine W.region ?_
  refine OpsW.det (det_fieldAddr fl30_0 rfl) rfl ?_
  refine OpsW.det (det_loadA ty28 rfl (List.Mem.tail _ (List.Mem.tail _ (List.Mem.tail _ (List.Mem.head _)))) rfl) rfl ?_
  refine OpsW.det (det_call en56 rfl (fun w hb ho => Square_ok ho.blocks)) rfl ?_
  refine OpsW.fresh (fr_alloc z28) rfl fun b8 => ?_
  refine OpsW.store sz28 rfl rfl rfl rfl rfl (Upd.here) rfl ?_
  refine sNext ?_
  refine W.keep (F' := [(8, _), (5, _), (3, _)]) ⟨rfl, rfl, rfl, trivial⟩ ?_
  refine sSeq ?_
  refine W.draw mixed 47 [[], [0], [], [2], [0, 1, 2, 3], [0, 1, 2, 3, 4], [0, 1, 2, 3, 4, 5], [0, 1, 2, 3, 4, 5, 6], [0, 1, 2, 3, 4, 5], [0, 1, 2, 3, 4, 5, 8], [0, 1, 2, 3, 4, 5, 6, 7, 8, 9], [0, 1, 2, 3, 4, 5], [0, 1, 2, 3, 4, 5, 11], [0, 1, 2, 3, 4, 5], [0, 1, 2, 3, 4, 5, 13], [0, 1, 2, 3, 4, 5, 6, 7, 8, 9, 10, 11, 12, 13, 14], [0, 1, 2, 3, 4, 5, 6, 7, 8, 9, 10, 11, 12, 13, 14, 15], [0, 1, 2, 3, 4, 5], [0, 1, 2, 3, 4, 5], [0, 1, 2, 3, 4, 5, 6, 7, 8, 9, 10, 11, 12, 13, 14, 15, 16, 17, 18], [0, 1, 2, 3, 4, 5], [0, 1, 2, 3, 4, 5, 6, 7, 8, 9, 10, 11, 12, 13, 14, 15, 16, 17, 18, 19, 20], [0, 1, 2, 3, 4, 5], [0, 1, 2, 3, 4, 5, 22], [0, 1, 2, 3, 4, 5], [0, 1, 2, 3, 4, 5, 24], [0, 1, 2, 3, 4, 5, 6, 7, 8, 9, 10, 11, 12, 13, 14, 15, 16, 17, 18, 19, 20, 21, 22, 23, 24, 25], [0, 1, 2, 3, 4, 5, 6, 7, 8, 9, 10, 11, 12, 13, 14, 15, 16, 17, 18, 19, 20, 21, 22, 23, 24, 25, 26], [0, 1, 2, 3, 4, 5, 6, 7, 8, 9, 10, 11, 12, 13, 14, 15, 16, 17, 18, 19, 20, 21, 22, 23, 24, 25, 26, 27], [0, 1, 2, 3, 4, 5, 6, 7, 8, 9, 10, 11, 12, 13, 14, 15, 16, 17, 18, 19, 20, 21, 22, 23, 24, 25, 26, 27, 28], [0, 1, 2, 3, 4, 5, 6, 7, 8, 9, 10, 11, 12, 13, 14, 15, 16, 17, 18, 19, 20, 21, 22, 23, 24, 25, 26, 27, 28, 29], [0, 1, 2, 3, 4, 5, 6, 7, 8, 9, 10, 11, 12, 13, 14, 15, 16, 17, 18, 19, 20, 21, 22, 23, 24, 25, 26, 27, 28, 29, 30], [0, 1, 2, 3, 4, 5, 6, 7, 8, 9, 10, 11, 12, 13, 14, 15, 16, 17, 18, 19, 20, 21, 22, 23, 24, 25, 26, 27, 28, 29, 30, 31], [0, 1, 2, 3, 4, 5, 6, 7, 8, 9, 10, 11, 12, 13, 14, 15, 16, 17, 18, 19, 20, 21, 22, 23, 24, 25, 26, 27, 28, 29, 30], [0, 1, 2, 3, 4, 5, 6, 7, 8, 9, 10, 11, 12, 13, 14, 15, 16, 17, 18, 19, 20, 21, 22, 23, 24, 25, 26, 27, 28, 29, 30, 33], [0, 1, 2, 3, 4, 5, 6, 7, 8, 9, 10, 11, 12, 13, 14, 15, 16, 17, 18, 19, 20, 21, 22, 23, 24, 25, 26, 27, 28, 29, 30, 31, 32, 33, 34], [0, 1, 2, 3, 4, 5, 6, 7, 8, 9, 10, 11, 12, 13, 14, 15, 16, 17, 18, 19, 20, 21, 22, 23, 24, 25, 26, 27, 28, 29, 30, 31, 32, 33, 34, 35], [0, 1, 2, 3, 4, 5, 6, 7, 8, 9, 10, 11, 12, 13, 14, 15, 16, 17, 18, 19, 20, 21, 22, 23, 24, 25, 26, 27, 28, 29, 30, 31, 32, 33, 34, 35, 36], [0, 1, 2, 3, 4, 5, 6, 7, 8, 9, 10, 11, 12, 13, 14, 15, 16, 17, 18, 19, 20, 21, 22, 23, 24, 25, 26, 27, 28, 29, 30, 31, 32, 33, 34, 35, 36], [0, 1, 2, 3, 4, 5, 6, 7, 8, 9, 10, 11, 12, 13, 14, 15, 16, 17, 18, 19, 20, 21, 22, 23, 24, 25, 26, 27, 28, 29, 30, 31, 32, 33, 34, 35, 36, 37, 38], [0, 1, 2, 3, 4, 5, 6, 7, 8, 9, 10, 11, 12, 13, 14, 15, 16, 17, 18, 19, 20, 21, 22, 23, 24, 25, 26, 27, 28, 29, 30, 31, 32, 33, 34, 35, 36, 37, 38, 39], [0, 1, 2, 3, 4, 5, 6, 7, 8, 9, 10, 11, 12, 13, 14, 15, 16, 17, 18, 19, 20, 21, 22, 23, 24, 25, 26, 27, 28, 29, 30, 31, 32, 33, 34, 35, 36, 37, 38, 39, 40], [0, 1, 2, 3, 4, 5, 6, 7, 8, 9, 10, 11, 12, 13, 14, 15, 16, 17, 18, 19, 20, 21, 22, 23, 24, 25, 26, 27, 28, 29, 30, 31, 32, 33, 34, 35, 36, 37, 38, 39, 40, 41], [0, 1, 2, 3, 4, 5, 6, 7, 8, 9, 10, 11, 12, 13, 14, 15, 16, 17, 18, 19, 20, 21, 22, 23, 24, 25, 26, 27, 28, 29, 30, 31, 32, 33, 34, 35, 36, 37, 38, 39, 40, 41, 42], [0, 1, 2, 3, 4, 5, 6, 7, 8, 9, 10, 11, 12, 13, 14, 15, 16, 17, 18, 19, 20, 21, 22, 23, 24, 25, 26, 27, 28, 29, 30, 31, 32, 33, 34, 35, 36, 37, 38, 39, 40, 41, 42, 43], [0, 1, 2, 3, 4, 5, 6, 7, 8, 9, 10, 11, 12, 13, 14, 15, 16, 17, 18, 19, 20, 21, 22, 23, 24, 25, 26, 27, 28, 29, 30, 31, 32, 33, 34, 35, 36, 37, 38, 39, 40, 41, 42, 43, 44], [0, 1, 2, 3, 4, 5, 6, 7, 8, 9, 10, 11, 12, 13, 14, 15, 16, 17, 18, 19, 20, 21, 22, 23, 24, 25, 26, 27, 28, 29, 30, 31, 32, 33, 34, 35, 36, 37, 38, 39, 40, 41, 42, 43, 44, 45]] (cl_lt (by decide)) ?_
  refine Head.det rfl (fun β hβ => Det.norm (F' := [(8, _), (5, _), (3, _)]) (H' := [(_, _), (_, _), (_, _), (_, _), (_, _)]) rfl rfl (det_fieldAddr fl30_0 rfl)) ?_
  refine Head.norm (k' := 1) (es' := [.det 60 _]) rfl rfl ?_
  refine Head.det rfl (fun β hβ => Det.norm (F' := [(60, _), (8, _), (5, _), (3, _)]) (H' := [(_, _), (_, _), (_, _), (_, _), (_, _)]) rfl rfl (det_loadA ty28 rfl (List.Mem.tail _ (List.Mem.tail _ (List.Mem.head _))) rfl)) ?_
  refine Head.norm (k' := 2) (es' := [.det 60 _, .det 61 _]) rfl rfl ?_
  refine Head.det rfl (fun β hβ => Det.norm (F' := [(8, _), (5, _), (3, _)]) (H' := [(_, _), (_, _), (_, _), (_, _), (_, _)]) rfl rfl (det_fieldAddr fl30_0 rfl)) ?_
  refine Head.norm (k' := 3) (es' := [.det 60 _, .det 61 _, .det 62 _]) rfl rfl ?_
  refine Head.det rfl (fun β hβ => Det.norm (F' := [(62, _), (8, _), (5, _), (3, _)]) (H' := [(_, _), (_, _), (_, _), (_, _), (_, _)]) rfl rfl (det_loadA ty28 rfl (List.Mem.tail _ (List.Mem.tail _ (List.Mem.tail _ (List.Mem.tail _ (List.Mem.head _))))) rfl)) ?_
  refine Head.norm (k' := 4) (es' := [.det 60 _, .det 61 _, .det 62 _, .det 63 _]) rfl rfl ?_
  refine Head.det rfl (fun β hβ => Det.norm (F' := [(60, _), (61, _), (62, _), (63, _), (8, _), (5, _), (3, _)]) (H' := [(_, _), (_, _), (_, _), (_, _), (_, _)]) rfl rfl (Det.to (det_neq28 rfl rfl) (congrArg Value.bool (ny h2)))) ?_
  refine Head.norm (k' := 5) (es' := [.det 60 _, .det 61 _, .det 62 _, .det 63 _, .det 64 _]) rfl rfl ?_
  refine Head.det rfl (fun β hβ => Det.norm (F' := [(60, _), (61, _), (62, _), (63, _), (64, _), (8, _), (5, _), (3, _)]) (H' := [(_, _), (_, _), (_, _), (_, _), (_, _)]) rfl rfl (det_move rfl)) ?_
  refine Head.norm (k' := 6) (es' := [.det 60 _, .det 61 _, .det 62 _, .det 63 _, .det 64 _, .det 65 _]) rfl rfl ?_
  refine Head.yes rfl rfl (fun _ _ => rfl) (fun β hβ => Det.norm (F' := [(60, _), (61, _), (62, _), (63, _), (64, _), (65, _), (8, _), (5, _), (3, _)]) (H' := [(_, _), (_, _), (_, _), (_, _), (_, _)]) rfl rfl (det_fieldAddr fl30_1 rfl)) ?_
  refine Head.norm (k' := 7) (es' := [.det 60 _, .det 61 _, .det 62 _, .det 63 _, .det 64 _, .det 65 _, .det 66 _]) rfl rfl ?_
  refine Head.yes rfl rfl (fun _ _ => rfl) (fun β hβ => Det.norm (F' := [(60, _), (61, _), (62, _), (63, _), (64, _), (65, _), (66, _), (8, _), (5, _), (3, _)]) (H' := [(_, _), (_, _), (_, _), (_, _), (_, _)]) rfl rfl (det_loadA ty28 rfl (List.Mem.tail _ (List.Mem.tail _ (List.Mem.tail _ (List.Mem.tail _ (List.Mem.head _))))) rfl)) ?_
  refine Head.norm (k' := 8) (es' := [.det 60 _, .det 61 _, .det 62 _, .det 63 _, .det 64 _, .det 65 _, .det 66 _, .det 67 _]) rfl rfl ?_
  refine Head.yes rfl rfl (fun _ _ => rfl) (fun β hβ => Det.norm (F' := [(60, _), (61, _), (62, _), (63, _), (64, _), (65, _), (8, _), (5, _), (3, _)]) (H' := [(_, _), (_, _), (_, _), (_, _), (_, _)]) rfl rfl (det_fieldAddr fl30_1 rfl)) ?_
  refine Head.norm (k' := 9) (es' := [.det 60 _, .det 61 _, .det 62 _, .det 63 _, .det 64 _, .det 65 _, .det 66 _, .det 67 _, .det 68 _]) rfl rfl ?_
  refine Head.yes rfl rfl (fun _ _ => rfl) (fun β hβ => Det.norm (F' := [(60, _), (61, _), (62, _), (63, _), (64, _), (65, _), (68, _), (8, _), (5, _), (3, _)]) (H' := [(_, _), (_, _), (_, _), (_, _), (_, _)]) rfl rfl (det_loadA ty28 rfl (List.Mem.tail _ (List.Mem.tail _ (List.Mem.tail _ (List.Mem.tail _ (List.Mem.head _))))) rfl)) ?_
  refine Head.norm (k' := 10) (es' := [.det 60 _, .det 61 _, .det 62 _, .det 63 _, .det 64 _, .det 65 _, .det 66 _, .det 67 _, .det 68 _, .det 69 _]) rfl rfl ?_
  refine Head.yes rfl rfl (fun _ _ => rfl) (fun β hβ => Det.norm (F' := [(60, _), (61, _), (62, _), (63, _), (64, _), (65, _), (66, _), (67, _), (68, _), (69, _), (8, _), (5, _), (3, _)]) (H' := [(_, _), (_, _), (_, _), (_, _), (_, _)]) rfl rfl (det_call en33 rfl (fun w hb ho => Add_ok ho.blocks))) ?_
  refine Head.norm (k' := 11) (es' := [.det 60 _, .det 61 _, .det 62 _, .det 63 _, .det 64 _, .det 65 _, .det 66 _, .det 67 _, .det 68 _, .det 69 _, .det 70 _]) rfl rfl ?_
  refine Head.yes rfl rfl (fun _ _ => rfl) (fun β hβ => Det.norm (F' := [(60, _), (61, _), (62, _), (63, _), (64, _), (65, _), (8, _), (5, _), (3, _)]) (H' := [(_, _), (_, _), (_, _), (_, _), (_, _)]) rfl rfl (det_fieldAddr fl30_1 rfl)) ?_
  refine Head.norm (k' := 12) (es' := [.det 60 _, .det 61 _, .det 62 _, .det 63 _, .det 64 _, .det 65 _, .det 66 _, .det 67 _, .det 68 _, .det 69 _, .det 70 _, .det 71 _]) rfl rfl ?_
  refine Head.yes rfl rfl (fun _ _ => rfl) (fun β hβ => Det.norm (F' := [(60, _), (61, _), (62, _), (63, _), (64, _), (65, _), (71, _), (8, _), (5, _), (3, _)]) (H' := [(_, _), (_, _), (_, _), (_, _), (_, _)]) rfl rfl (det_loadA ty28 rfl (List.Mem.tail _ (List.Mem.tail _ (List.Mem.head _))) rfl)) ?_
  refine Head.norm (k' := 13) (es' := [.det 60 _, .det 61 _, .det 62 _, .det 63 _, .det 64 _, .det 65 _, .det 66 _, .det 67 _, .det 68 _, .det 69 _, .det 70 _, .det 71 _, .det 72 _]) rfl rfl ?_
  refine Head.yes rfl rfl (fun _ _ => rfl) (fun β hβ => Det.norm (F' := [(60, _), (61, _), (62, _), (63, _), (64, _), (65, _), (8, _), (5, _), (3, _)]) (H' := [(_, _), (_, _), (_, _), (_, _), (_, _)]) rfl rfl (det_fieldAddr fl30_1 rfl)) ?_
  refine Head.norm (k' := 14) (es' := [.det 60 _, .det 61 _, .det 62 _, .det 63 _, .det 64 _, .det 65 _, .det 66 _, .det 67 _, .det 68 _, .det 69 _, .det 70 _, .det 71 _, .det 72 _, .det 73 _]) rfl rfl ?_
  refine Head.yes rfl rfl (fun _ _ => rfl) (fun β hβ => Det.norm (F' := [(60, _), (61, _), (62, _), (63, _), (64, _), (65, _), (73, _), (8, _), (5, _), (3, _)]) (H' := [(_, _), (_, _), (_, _), (_, _), (_, _)]) rfl rfl (det_loadA ty28 rfl (List.Mem.tail _ (List.Mem.tail _ (List.Mem.tail _ (List.Mem.tail _ (List.Mem.head _))))) rfl)) ?_
  refine Head.norm (k' := 15) (es' := [.det 60 _, .det 61 _, .det 62 _, .det 63 _, .det 64 _, .det 65 _, .det 66 _, .det 67 _, .det 68 _, .det 69 _, .det 70 _, .det 71 _, .det 72 _, .det 73 _, .det 74 _]) rfl rfl ?_
  refine Head.yes rfl rfl (fun _ _ => rfl) (fun β hβ => Det.norm (F' := [(60, _), (61, _), (62, _), (63, _), (64, _), (65, _), (66, _), (67, _), (68, _), (69, _), (70, _), (71, _), (72, _), (73, _), (74, _), (8, _), (5, _), (3, _)]) (H' := [(_, _), (_, _), (_, _), (_, _), (_, _)]) rfl rfl (det_call en67 rfl (fun w hb ho => Sub_ok ho.blocks))) ?_
  refine Head.norm (k' := 16) (es' := [.det 60 _, .det 61 _, .det 62 _, .det 63 _, .det 64 _, .det 65 _, .det 66 _, .det 67 _, .det 68 _, .det 69 _, .det 70 _, .det 71 _, .det 72 _, .det 73 _, .det 74 _, .det 75 _]) rfl rfl ?_
  refine Head.yes rfl rfl (fun _ _ => rfl) (fun β hβ => Det.norm (F' := [(60, _), (61, _), (62, _), (63, _), (64, _), (65, _), (66, _), (67, _), (68, _), (69, _), (70, _), (71, _), (72, _), (73, _), (74, _), (75, _), (8, _), (5, _), (3, _)]) (H' := [(_, _), (_, _), (_, _), (_, _), (_, _)]) rfl rfl (det_call en57 rfl (fun w hb ho => Mul_ok ho.blocks))) ?_
  refine Head.norm (k' := 17) (es' := [.det 60 _, .det 61 _, .det 62 _, .det 63 _, .det 64 _, .det 65 _, .det 66 _, .det 67 _, .det 68 _, .det 69 _, .det 70 _, .det 71 _, .det 72 _, .det 73 _, .det 74 _, .det 75 _, .det 76 _]) rfl rfl ?_
  refine Head.yes rfl rfl (fun _ _ => rfl) (fun β hβ => Det.norm (F' := [(60, _), (61, _), (62, _), (63, _), (64, _), (65, _), (8, _), (5, _), (3, _)]) (H' := [(_, _), (_, _), (_, _), (_, _), (_, _)]) rfl rfl (det_loadA ty28 rfl (List.Mem.head _) rfl)) ?_
  refine Head.norm (k' := 18) (es' := [.det 60 _, .det 61 _, .det 62 _, .det 63 _, .det 64 _, .det 65 _, .det 66 _, .det 67 _, .det 68 _, .det 69 _, .det 70 _, .det 71 _, .det 72 _, .det 73 _, .det 74 _, .det 75 _, .det 76 _, .det 77 _]) rfl rfl ?_
  refine Head.yes rfl rfl (fun _ _ => rfl) (fun β hβ => Det.norm (F' := [(60, _), (61, _), (62, _), (63, _), (64, _), (65, _), (8, _), (5, _), (3, _)]) (H' := [(_, _), (_, _), (_, _), (_, _), (_, _)]) rfl rfl (det_loadA ty28 rfl (List.Mem.head _) rfl)) ?_
  refine Head.norm (k' := 19) (es' := [.det 60 _, .det 61 _, .det 62 _, .det 63 _, .det 64 _, .det 65 _, .det 66 _, .det 67 _, .det 68 _, .det 69 _, .det 70 _, .det 71 _, .det 72 _, .det 73 _, .det 74 _, .det 75 _, .det 76 _, .det 77 _, .det 78 _]) rfl rfl ?_
  refine Head.yes rfl rfl (fun _ _ => rfl) (fun β hβ => Det.norm (F' := [(60, _), (61, _), (62, _), (63, _), (64, _), (65, _), (66, _), (67, _), (68, _), (69, _), (70, _), (71, _), (72, _), (73, _), (74, _), (75, _), (76, _), (77, _), (78, _), (8, _), (5, _), (3, _)]) (H' := [(_, _), (_, _), (_, _), (_, _), (_, _)]) rfl rfl (det_call en33 rfl (fun w hb ho => Add_ok ho.blocks))) ?_
  refine Head.norm (k' := 20) (es' := [.det 60 _, .det 61 _, .det 62 _, .det 63 _, .det 64 _, .det 65 _, .det 66 _, .det 67 _, .det 68 _, .det 69 _, .det 70 _, .det 71 _, .det 72 _, .det 73 _, .det 74 _, .det 75 _, .det 76 _, .det 77 _, .det 78 _, .det 79 _]) rfl rfl ?_
  refine Head.yes rfl rfl (fun _ _ => rfl) (fun β hβ => Det.norm (F' := [(60, _), (61, _), (62, _), (63, _), (64, _), (65, _), (8, _), (5, _), (3, _)]) (H' := [(_, _), (_, _), (_, _), (_, _), (_, _)]) rfl rfl (det_loadA ty28 rfl (List.Mem.head _) rfl)) ?_
  refine Head.norm (k' := 21) (es' := [.det 60 _, .det 61 _, .det 62 _, .det 63 _, .det 64 _, .det 65 _, .det 66 _, .det 67 _, .det 68 _, .det 69 _, .det 70 _, .det 71 _, .det 72 _, .det 73 _, .det 74 _, .det 75 _, .det 76 _, .det 77 _, .det 78 _, .det 79 _, .det 80 _]) rfl rfl ?_
  refine Head.yes rfl rfl (fun _ _ => rfl) (fun β hβ => Det.norm (F' := [(60, _), (61, _), (62, _), (63, _), (64, _), (65, _), (66, _), (67, _), (68, _), (69, _), (70, _), (71, _), (72, _), (73, _), (74, _), (75, _), (76, _), (77, _), (78, _), (79, _), (80, _), (8, _), (5, _), (3, _)]) (H' := [(_, _), (_, _), (_, _), (_, _), (_, _)]) rfl rfl (det_call en33 rfl (fun w hb ho => Add_ok ho.blocks))) ?_
  refine Head.norm (k' := 22) (es' := [.det 60 _, .det 61 _, .det 62 _, .det 63 _, .det 64 _, .det 65 _, .det 66 _, .det 67 _, .det 68 _, .det 69 _, .det 70 _, .det 71 _, .det 72 _, .det 73 _, .det 74 _, .det 75 _, .det 76 _, .det 77 _, .det 78 _, .det 79 _, .det 80 _, .det 81 _]) rfl rfl ?_
  refine Head.yes rfl rfl (fun _ _ => rfl) (fun β hβ => Det.norm (F' := [(60, _), (61, _), (62, _), (63, _), (64, _), (65, _), (8, _), (5, _), (3, _)]) (H' := [(_, _), (_, _), (_, _), (_, _), (_, _)]) rfl rfl (det_fieldAddr fl30_0 rfl)) ?_
  refine Head.norm (k' := 23) (es' := [.det 60 _, .det 61 _, .det 62 _, .det 63 _, .det 64 _, .det 65 _, .det 66 _, .det 67 _, .det 68 _, .det 69 _, .det 70 _, .det 71 _, .det 72 _, .det 73 _, .det 74 _, .det 75 _, .det 76 _, .det 77 _, .det 78 _, .det 79 _, .det 80 _, .det 81 _, .det 82 _]) rfl rfl ?_
  refine Head.yes rfl rfl (fun _ _ => rfl) (fun β hβ => Det.norm (F' := [(60, _), (61, _), (62, _), (63, _), (64, _), (65, _), (82, _), (8, _), (5, _), (3, _)]) (H' := [(_, _), (_, _), (_, _), (_, _), (_, _)]) rfl rfl (det_loadA ty28 rfl (List.Mem.tail _ (List.Mem.tail _ (List.Mem.head _))) rfl)) ?_
  refine Head.norm (k' := 24) (es' := [.det 60 _, .det 61 _, .det 62 _, .det 63 _, .det 64 _, .det 65 _, .det 66 _, .det 67 _, .det 68 _, .det 69 _, .det 70 _, .det 71 _, .det 72 _, .det 73 _, .det 74 _, .det 75 _, .det 76 _, .det 77 _, .det 78 _, .det 79 _, .det 80 _, .det 81 _, .det 82 _, .det 83 _]) rfl rfl ?_
  refine Head.yes rfl rfl (fun _ _ => rfl) (fun β hβ => Det.norm (F' := [(60, _), (61, _), (62, _), (63, _), (64, _), (65, _), (8, _), (5, _), (3, _)]) (H' := [(_, _), (_, _), (_, _), (_, _), (_, _)]) rfl rfl (det_fieldAddr fl30_0 rfl)) ?_
  refine Head.norm (k' := 25) (es' := [.det 60 _, .det 61 _, .det 62 _, .det 63 _, .det 64 _, .det 65 _, .det 66 _, .det 67 _, .det 68 _, .det 69 _, .det 70 _, .det 71 _, .det 72 _, .det 73 _, .det 74 _, .det 75 _, .det 76 _, .det 77 _, .det 78 _, .det 79 _, .det 80 _, .det 81 _, .det 82 _, .det 83 _, .det 84 _]) rfl rfl ?_
  refine Head.yes rfl rfl (fun _ _ => rfl) (fun β hβ => Det.norm (F' := [(60, _), (61, _), (62, _), (63, _), (64, _), (65, _), (84, _), (8, _), (5, _), (3, _)]) (H' := [(_, _), (_, _), (_, _), (_, _), (_, _)]) rfl rfl (det_loadA ty28 rfl (List.Mem.tail _ (List.Mem.tail _ (List.Mem.tail _ (List.Mem.tail _ (List.Mem.head _))))) rfl)) ?_
  refine Head.norm (k' := 26) (es' := [.det 60 _, .det 61 _, .det 62 _, .det 63 _, .det 64 _, .det 65 _, .det 66 _, .det 67 _, .det 68 _, .det 69 _, .det 70 _, .det 71 _, .det 72 _, .det 73 _, .det 74 _, .det 75 _, .det 76 _, .det 77 _, .det 78 _, .det 79 _, .det 80 _, .det 81 _, .det 82 _, .det 83 _, .det 84 _, .det 85 _]) rfl rfl ?_
  refine Head.yes rfl rfl (fun _ _ => rfl) (fun β hβ => Det.norm (F' := [(60, _), (61, _), (62, _), (63, _), (64, _), (65, _), (66, _), (67, _), (68, _), (69, _), (70, _), (71, _), (72, _), (73, _), (74, _), (75, _), (76, _), (77, _), (78, _), (79, _), (80, _), (81, _), (82, _), (83, _), (84, _), (85, _), (8, _), (5, _), (3, _)]) (H' := [(_, _), (_, _), (_, _), (_, _), (_, _)]) rfl rfl (det_call en67 rfl (fun w hb ho => Sub_ok ho.blocks))) ?_
  refine Head.norm (k' := 27) (es' := [.det 60 _, .det 61 _, .det 62 _, .det 63 _, .det 64 _, .det 65 _, .det 66 _, .det 67 _, .det 68 _, .det 69 _, .det 70 _, .det 71 _, .det 72 _, .det 73 _, .det 74 _, .det 75 _, .det 76 _, .det 77 _, .det 78 _, .det 79 _, .det 80 _, .det 81 _, .det 82 _, .det 83 _, .det 84 _, .det 85 _, .det 86 _]) rfl rfl ?_
  refine Head.yes rfl rfl (fun _ _ => rfl) (fun β hβ => Det.norm (F' := ((60, _) :: (61, _) :: (62, _) :: (63, _) :: (64, _) :: (65, _) :: (66, _) :: (67, _) :: (68, _) :: (69, _) :: (70, _) :: (71, _) :: (72, _) :: (73, _) :: (74, _) :: (75, _) :: (76, _) :: (77, _) :: (78, _) :: (79, _) :: (80, _) :: (81, _) :: (82, _) :: (83, _) :: (84, _) :: (85, _) :: (86, _) :: (8, _) :: (5, _) :: (3, _) :: [])) (H' := [(_, _), (_, _), (_, _), (_, _), (_, _)]) rfl rfl (det_call en57 rfl (fun w hb ho => Mul_ok ho.blocks))) ?_
  refine Head.norm (k' := 28) (es' := [.det 60 _, .det 61 _, .det 62 _, .det 63 _, .det 64 _, .det 65 _, .det 66 _, .det 67 _, .det 68 _, .det 69 _, .det 70 _, .det 71 _, .det 72 _, .det 73 _, .det 74 _, .det 75 _, .det 76 _, .det 77 _, .det 78 _, .det 79 _, .det 80 _, .det 81 _, .det 82 _, .det 83 _, .det 84 _, .det 85 _, .det 86 _, .det 87 _]) rfl rfl ?_
  refine Head.yes rfl rfl (fun _ _ => rfl) (fun β hβ => Det.norm (F' := ((60, _) :: (61, _) :: (62, _) :: (63, _) :: (64, _) :: (65, _) :: (66, _) :: (67, _) :: (68, _) :: (69, _) :: (70, _) :: (71, _) :: (72, _) :: (73, _) :: (74, _) :: (75, _) :: (76, _) :: (77, _) :: (78, _) :: (79, _) :: (80, _) :: (81, _) :: (82, _) :: (83, _) :: (84, _) :: (85, _) :: (86, _) :: (87, _) :: (8, _) :: (5, _) :: (3, _) :: [])) (H' := [(_, _), (_, _), (_, _), (_, _), (_, _)]) rfl rfl (Det.to (det_eql28 rfl rfl) (congrArg Value.bool (yb h3)))) ?_
  refine Head.norm (k' := 29) (es' := [.det 60 _, .det 61 _, .det 62 _, .det 63 _, .det 64 _, .det 65 _, .det 66 _, .det 67 _, .det 68 _, .det 69 _, .det 70 _, .det 71 _, .det 72 _, .det 73 _, .det 74 _, .det 75 _, .det 76 _, .det 77 _, .det 78 _, .det 79 _, .det 80 _, .det 81 _, .det 82 _, .det 83 _, .det 84 _, .det 85 _, .det 86 _, .det 87 _, .det 88 _]) rfl rfl ?_
  refine Head.det rfl (fun β hβ => Det.norm (F' := ((60, _) :: (61, _) :: (62, _) :: (63, _) :: (64, _) :: (65, _) :: (66, _) :: (67, _) :: (68, _) :: (69, _) :: (70, _) :: (71, _) :: (72, _) :: (73, _) :: (74, _) :: (75, _) :: (76, _) :: (77, _) :: (78, _) :: (79, _) :: (80, _) :: (81, _) :: (82, _) :: (83, _) :: (84, _) :: (85, _) :: (86, _) :: (87, _) :: (88, _) :: (8, _) :: (5, _) :: (3, _) :: [])) (H' := [(_, _), (_, _), (_, _), (_, _), (_, _)]) rfl rfl (det_pick rfl rfl)) ?_
  refine Head.norm (k' := 30) (es' := (.det 60 _ :: .det 61 _ :: .det 62 _ :: .det 63 _ :: .det 64 _ :: .det 65 _ :: .det 66 _ :: .det 67 _ :: .det 68 _ :: .det 69 _ :: .det 70 _ :: .det 71 _ :: .det 72 _ :: .det 73 _ :: .det 74 _ :: .det 75 _ :: .det 76 _ :: .det 77 _ :: .det 78 _ :: .det 79 _ :: .det 80 _ :: .det 81 _ :: .det 82 _ :: .det 83 _ :: .det 84 _ :: .det 85 _ :: .det 86 _ :: .det 87 _ :: .det 88 _ :: .det 89 _ :: [])) rfl rfl ?_
  refine Head.det rfl (fun β hβ => Det.norm (F' := ((60, _) :: (61, _) :: (62, _) :: (63, _) :: (64, _) :: (65, _) :: (66, _) :: (67, _) :: (68, _) :: (69, _) :: (70, _) :: (71, _) :: (72, _) :: (73, _) :: (74, _) :: (75, _) :: (76, _) :: (77, _) :: (78, _) :: (79, _) :: (80, _) :: (81, _) :: (82, _) :: (83, _) :: (84, _) :: (85, _) :: (86, _) :: (87, _) :: (88, _) :: (89, _) :: (8, _) :: (5, _) :: (3, _) :: [])) (H' := [(_, _), (_, _), (_, _), (_, _), (_, _)]) rfl rfl (det_move rfl)) ?_
  refine Head.norm (k' := 31) (es' := (.det 60 _ :: .det 61 _ :: .det 62 _ :: .det 63 _ :: .det 64 _ :: .det 65 _ :: .det 66 _ :: .det 67 _ :: .det 68 _ :: .det 69 _ :: .det 70 _ :: .det 71 _ :: .det 72 _ :: .det 73 _ :: .det 74 _ :: .det 75 _ :: .det 76 _ :: .det 77 _ :: .det 78 _ :: .det 79 _ :: .det 80 _ :: .det 81 _ :: .det 82 _ :: .det 83 _ :: .det 84 _ :: .det 85 _ :: .det 86 _ :: .det 87 _ :: .det 88 _ :: .det 89 _ :: .det 90 _ :: [])) rfl rfl ?_
  refine Head.no rfl rfl (fun _ _ => rfl) ?_
  refine Head.norm (k' := 32) (es' := (.det 60 _ :: .det 61 _ :: .det 62 _ :: .det 63 _ :: .det 64 _ :: .det 65 _ :: .det 66 _ :: .det 67 _ :: .det 68 _ :: .det 69 _ :: .det 70 _ :: .det 71 _ :: .det 72 _ :: .det 73 _ :: .det 74 _ :: .det 75 _ :: .det 76 _ :: .det 77 _ :: .det 78 _ :: .det 79 _ :: .det 80 _ :: .det 81 _ :: .det 82 _ :: .det 83 _ :: .det 84 _ :: .det 85 _ :: .det 86 _ :: .det 87 _ :: .det 88 _ :: .det 89 _ :: .det 90 _ :: .det 91 _ :: [])) rfl rfl ?_
  refine Head.no rfl rfl (fun _ _ => rfl) ?_
  refine Head.norm (k' := 33) (es' := (.det 60 _ :: .det 61 _ :: .det 62 _ :: .det 63 _ :: .det 64 _ :: .det 65 _ :: .det 66 _ :: .det 67 _ :: .det 68 _ :: .det 69 _ :: .det 70 _ :: .det 71 _ :: .det 72 _ :: .det 73 _ :: .det 74 _ :: .det 75 _ :: .det 76 _ :: .det 77 _ :: .det 78 _ :: .det 79 _ :: .det 80 _ :: .det 81 _ :: .det 82 _ :: .det 83 _ :: .det 84 _ :: .det 85 _ :: .det 86 _ :: .det 87 _ :: .det 88 _ :: .det 89 _ :: .det 90 _ :: .det 91 _ :: .det 92 _ :: [])) rfl rfl ?_
  refine Head.no rfl rfl (fun _ _ => rfl) ?_
  refine Head.norm (k' := 34) (es' := (.det 60 _ :: .det 61 _ :: .det 62 _ :: .det 63 _ :: .det 64 _ :: .det 65 _ :: .det 66 _ :: .det 67 _ :: .det 68 _ :: .det 69 _ :: .det 70 _ :: .det 71 _ :: .det 72 _ :: .det 73 _ :: .det 74 _ :: .det 75 _ :: .det 76 _ :: .det 77 _ :: .det 78 _ :: .det 79 _ :: .det 80 _ :: .det 81 _ :: .det 82 _ :: .det 83 _ :: .det 84 _ :: .det 85 _ :: .det 86 _ :: .det 87 _ :: .det 88 _ :: .det 89 _ :: .det 90 _ :: .det 91 _ :: .det 92 _ :: .det 93 _ :: [])) rfl rfl ?_
  refine Head.no rfl rfl (fun _ _ => rfl) ?_
  refine Head.norm (k' := 35) (es' := (.det 60 _ :: .det 61 _ :: .det 62 _ :: .det 63 _ :: .det 64 _ :: .det 65 _ :: .det 66 _ :: .det 67 _ :: .det 68 _ :: .det 69 _ :: .det 70 _ :: .det 71 _ :: .det 72 _ :: .det 73 _ :: .det 74 _ :: .det 75 _ :: .det 76 _ :: .det 77 _ :: .det 78 _ :: .det 79 _ :: .det 80 _ :: .det 81 _ :: .det 82 _ :: .det 83 _ :: .det 84 _ :: .det 85 _ :: .det 86 _ :: .det 87 _ :: .det 88 _ :: .det 89 _ :: .det 90 _ :: .det 91 _ :: .det 92 _ :: .det 93 _ :: .det 94 _ :: [])) rfl rfl ?_
  refine Head.no rfl rfl (fun _ _ => rfl) ?_
  refine Head.norm (k' := 36) (es' := (.det 60 _ :: .det 61 _ :: .det 62 _ :: .det 63 _ :: .det 64 _ :: .det 65 _ :: .det 66 _ :: .det 67 _ :: .det 68 _ :: .det 69 _ :: .det 70 _ :: .det 71 _ :: .det 72 _ :: .det 73 _ :: .det 74 _ :: .det 75 _ :: .det 76 _ :: .det 77 _ :: .det 78 _ :: .det 79 _ :: .det 80 _ :: .det 81 _ :: .det 82 _ :: .det 83 _ :: .det 84 _ :: .det 85 _ :: .det 86 _ :: .det 87 _ :: .det 88 _ :: .det 89 _ :: .det 90 _ :: .det 91 _ :: .det 92 _ :: .det 93 _ :: .det 94 _ :: .det 95 _ :: [])) rfl rfl ?_
  refine Head.no rfl rfl (fun _ _ => rfl) ?_
  refine Head.norm (k' := 37) (es' := (.det 60 _ :: .det 61 _ :: .det 62 _ :: .det 63 _ :: .det 64 _ :: .det 65 _ :: .det 66 _ :: .det 67 _ :: .det 68 _ :: .det 69 _ :: .det 70 _ :: .det 71 _ :: .det 72 _ :: .det 73 _ :: .det 74 _ :: .det 75 _ :: .det 76 _ :: .det 77 _ :: .det 78 _ :: .det 79 _ :: .det 80 _ :: .det 81 _ :: .det 82 _ :: .det 83 _ :: .det 84 _ :: .det 85 _ :: .det 86 _ :: .det 87 _ :: .det 88 _ :: .det 89 _ :: .det 90 _ :: .det 91 _ :: .det 92 _ :: .det 93 _ :: .det 94 _ :: .det 95 _ :: .det 96 _ :: [])) rfl rfl ?_
  refine Head.un rfl rfl (fun _ _ => rfl) ?_
  refine Head.norm (k' := 38) (es' := (.det 60 _ :: .det 61 _ :: .det 62 _ :: .det 63 _ :: .det 64 _ :: .det 65 _ :: .det 66 _ :: .det 67 _ :: .det 68 _ :: .det 69 _ :: .det 70 _ :: .det 71 _ :: .det 72 _ :: .det 73 _ :: .det 74 _ :: .det 75 _ :: .det 76 _ :: .det 77 _ :: .det 78 _ :: .det 79 _ :: .det 80 _ :: .det 81 _ :: .det 82 _ :: .det 83 _ :: .det 84 _ :: .det 85 _ :: .det 86 _ :: .det 87 _ :: .det 88 _ :: .det 89 _ :: .det 90 _ :: .det 91 _ :: .det 92 _ :: .det 93 _ :: .det 94 _ :: .det 95 _ :: .det 96 _ :: .det 97 _ :: [])) rfl rfl ?_
  refine Head.un rfl rfl (fun _ _ => rfl) ?_
  refine Head.norm (k' := 39) (es' := (.det 60 _ :: .det 61 _ :: .det 62 _ :: .det 63 _ :: .det 64 _ :: .det 65 _ :: .det 66 _ :: .det 67 _ :: .det 68 _ :: .det 69 _ :: .det 70 _ :: .det 71 _ :: .det 72 _ :: .det 73 _ :: .det 74 _ :: .det 75 _ :: .det 76 _ :: .det 77 _ :: .det 78 _ :: .det 79 _ :: .det 80 _ :: .det 81 _ :: .det 82 _ :: .det 83 _ :: .det 84 _ :: .det 85 _ :: .det 86 _ :: .det 87 _ :: .det 88 _ :: .det 89 _ :: .det 90 _ :: .det 91 _ :: .det 92 _ :: .det 93 _ :: .det 94 _ :: .det 95 _ :: .det 96 _ :: .det 97 _ :: .det 98 _ :: [])) rfl rfl ?_
  refine Head.un rfl rfl (fun _ _ => rfl) ?_
  refine Head.norm (k' := 40) (es' := (.det 60 _ :: .det 61 _ :: .det 62 _ :: .det 63 _ :: .det 64 _ :: .det 65 _ :: .det 66 _ :: .det 67 _ :: .det 68 _ :: .det 69 _ :: .det 70 _ :: .det 71 _ :: .det 72 _ :: .det 73 _ :: .det 74 _ :: .det 75 _ :: .det 76 _ :: .det 77 _ :: .det 78 _ :: .det 79 _ :: .det 80 _ :: .det 81 _ :: .det 82 _ :: .det 83 _ :: .det 84 _ :: .det 85 _ :: .det 86 _ :: .det 87 _ :: .det 88 _ :: .det 89 _ :: .det 90 _ :: .det 91 _ :: .det 92 _ :: .det 93 _ :: .det 94 _ :: .det 95 _ :: .det 96 _ :: .det 97 _ :: .det 98 _ :: .det 99 _ :: [])) rfl rfl ?_
  refine Head.no rfl rfl (fun _ _ => rfl) ?_
  refine Head.norm (k' := 41) (es' := (.det 60 _ :: .det 61 _ :: .det 62 _ :: .det 63 _ :: .det 64 _ :: .det 65 _ :: .det 66 _ :: .det 67 _ :: .det 68 _ :: .det 69 _ :: .det 70 _ :: .det 71 _ :: .det 72 _ :: .det 73 _ :: .det 74 _ :: .det 75 _ :: .det 76 _ :: .det 77 _ :: .det 78 _ :: .det 79 _ :: .det 80 _ :: .det 81 _ :: .det 82 _ :: .det 83 _ :: .det 84 _ :: .det 85 _ :: .det 86 _ :: .det 87 _ :: .det 88 _ :: .det 89 _ :: .det 90 _ :: .det 91 _ :: .det 92 _ :: .det 93 _ :: .det 94 _ :: .det 95 _ :: .det 96 _ :: .det 97 _ :: .det 98 _ :: .det 99 _ :: .det 100 _ :: [])) rfl rfl ?_
  refine Head.no rfl rfl (fun _ _ => rfl) ?_
  refine Head.norm (k' := 42) (es' := (.det 60 _ :: .det 61 _ :: .det 62 _ :: .det 63 _ :: .det 64 _ :: .det 65 _ :: .det 66 _ :: .det 67 _ :: .det 68 _ :: .det 69 _ :: .det 70 _ :: .det 71 _ :: .det 72 _ :: .det 73 _ :: .det 74 _ :: .det 75 _ :: .det 76 _ :: .det 77 _ :: .det 78 _ :: .det 79 _ :: .det 80 _ :: .det 81 _ :: .det 82 _ :: .det 83 _ :: .det 84 _ :: .det 85 _ :: .det 86 _ :: .det 87 _ :: .det 88 _ :: .det 89 _ :: .det 90 _ :: .det 91 _ :: .det 92 _ :: .det 93 _ :: .det 94 _ :: .det 95 _ :: .det 96 _ :: .det 97 _ :: .det 98 _ :: .det 99 _ :: .det 100 _ :: .det 101 _ :: [])) rfl rfl ?_
  refine Head.un rfl rfl (fun _ _ => rfl) ?_
  refine Head.norm (k' := 43) (es' := (.det 60 _ :: .det 61 _ :: .det 62 _ :: .det 63 _ :: .det 64 _ :: .det 65 _ :: .det 66 _ :: .det 67 _ :: .det 68 _ :: .det 69 _ :: .det 70 _ :: .det 71 _ :: .det 72 _ :: .det 73 _ :: .det 74 _ :: .det 75 _ :: .det 76 _ :: .det 77 _ :: .det 78 _ :: .det 79 _ :: .det 80 _ :: .det 81 _ :: .det 82 _ :: .det 83 _ :: .det 84 _ :: .det 85 _ :: .det 86 _ :: .det 87 _ :: .det 88 _ :: .det 89 _ :: .det 90 _ :: .det 91 _ :: .det 92 _ :: .det 93 _ :: .det 94 _ :: .det 95 _ :: .det 96 _ :: .det 97 _ :: .det 98 _ :: .det 99 _ :: .det 100 _ :: .det 101 _ :: .det 102 _ :: [])) rfl rfl ?_
  refine Head.un rfl rfl (fun _ _ => rfl) ?_
  refine Head.norm (k' := 44) (es' := (.det 60 _ :: .det 61 _ :: .det 62 _ :: .det 63 _ :: .det 64 _ :: .det 65 _ :: .det 66 _ :: .det 67 _ :: .det 68 _ :: .det 69 _ :: .det 70 _ :: .det 71 _ :: .det 72 _ :: .det 73 _ :: .det 74 _ :: .det 75 _ :: .det 76 _ :: .det 77 _ :: .det 78 _ :: .det 79 _ :: .det 80 _ :: .det 81 _ :: .det 82 _ :: .det 83 _ :: .det 84 _ :: .det 85 _ :: .det 86 _ :: .det 87 _ :: .det 88 _ :: .det 89 _ :: .det 90 _ :: .det 91 _ :: .det 92 _ :: .det 93 _ :: .det 94 _ :: .det 95 _ :: .det 96 _ :: .det 97 _ :: .det 98 _ :: .det 99 _ :: .det 100 _ :: .det 101 _ :: .det 102 _ :: .det 103 _ :: [])) rfl rfl ?_
  refine Head.no rfl rfl (fun _ _ => rfl) ?_
  refine Head.norm (k' := 45) (es' := (.det 60 _ :: .det 61 _ :: .det 62 _ :: .det 63 _ :: .det 64 _ :: .det 65 _ :: .det 66 _ :: .det 67 _ :: .det 68 _ :: .det 69 _ :: .det 70 _ :: .det 71 _ :: .det 72 _ :: .det 73 _ :: .det 74 _ :: .det 75 _ :: .det 76 _ :: .det 77 _ :: .det 78 _ :: .det 79 _ :: .det 80 _ :: .det 81 _ :: .det 82 _ :: .det 83 _ :: .det 84 _ :: .det 85 _ :: .det 86 _ :: .det 87 _ :: .det 88 _ :: .det 89 _ :: .det 90 _ :: .det 91 _ :: .det 92 _ :: .det 93 _ :: .det 94 _ :: .det 95 _ :: .det 96 _ :: .det 97 _ :: .det 98 _ :: .det 99 _ :: .det 100 _ :: .det 101 _ :: .det 102 _ :: .det 103 _ :: .det 104 _ :: [])) rfl rfl ?_
  refine Head.det rfl (fun β hβ => Det.norm (F' := ((60, _) :: (61, _) :: (62, _) :: (63, _) :: (64, _) :: (65, _) :: (66, _) :: (67, _) :: (68, _) :: (69, _) :: (70, _) :: (71, _) :: (72, _) :: (73, _) :: (74, _) :: (75, _) :: (76, _) :: (77, _) :: (78, _) :: (79, _) :: (80, _) :: (81, _) :: (82, _) :: (83, _) :: (84, _) :: (85, _) :: (86, _) :: (87, _) :: (88, _) :: (89, _) :: (90, _) :: (91, _) :: (92, _) :: (93, _) :: (94, _) :: (95, _) :: (96, _) :: (97, _) :: (98, _) :: (99, _) :: (100, _) :: (101, _) :: (102, _) :: (103, _) :: (104, _) :: (8, _) :: (5, _) :: (3, _) :: [])) (H' := [(_, _), (_, _), (_, _), (_, _), (_, _)]) rfl rfl (det_pick rfl rfl)) ?_
  refine Head.norm (k' := 46) (es' := (.det 60 _ :: .det 61 _ :: .det 62 _ :: .det 63 _ :: .det 64 _ :: .det 65 _ :: .det 66 _ :: .det 67 _ :: .det 68 _ :: .det 69 _ :: .det 70 _ :: .det 71 _ :: .det 72 _ :: .det 73 _ :: .det 74 _ :: .det 75 _ :: .det 76 _ :: .det 77 _ :: .det 78 _ :: .det 79 _ :: .det 80 _ :: .det 81 _ :: .det 82 _ :: .det 83 _ :: .det 84 _ :: .det 85 _ :: .det 86 _ :: .det 87 _ :: .det 88 _ :: .det 89 _ :: .det 90 _ :: .det 91 _ :: .det 92 _ :: .det 93 _ :: .det 94 _ :: .det 95 _ :: .det 96 _ :: .det 97 _ :: .det 98 _ :: .det 99 _ :: .det 100 _ :: .det 101 _ :: .det 102 _ :: .det 103 _ :: .det 104 _ :: .det 105 _ :: [])) rfl rfl ?_
  refine Head.det rfl (fun β hβ => Det.norm (F' := ((60, _) :: (61, _) :: (62, _) :: (63, _) :: (64, _) :: (65, _) :: (66, _) :: (67, _) :: (68, _) :: (69, _) :: (70, _) :: (71, _) :: (72, _) :: (73, _) :: (74, _) :: (75, _) :: (76, _) :: (77, _) :: (78, _) :: (79, _) :: (80, _) :: (81, _) :: (82, _) :: (83, _) :: (84, _) :: (85, _) :: (86, _) :: (87, _) :: (88, _) :: (89, _) :: (90, _) :: (91, _) :: (92, _) :: (93, _) :: (94, _) :: (95, _) :: (96, _) :: (97, _) :: (98, _) :: (99, _) :: (100, _) :: (101, _) :: (102, _) :: (103, _) :: (104, _) :: (105, _) :: (8, _) :: (5, _) :: (3, _) :: [])) (H' := [(_, _), (_, _), (_, _), (_, _), (_, _)]) rfl rfl (det_assign rfl)) ?_
  refine Head.norm (k' := 47) (es' := (.det 60 _ :: .det 61 _ :: .det 62 _ :: .det 63 _ :: .det 64 _ :: .det 65 _ :: .det 66 _ :: .det 67 _ :: .det 68 _ :: .det 69 _ :: .det 70 _ :: .det 71 _ :: .det 72 _ :: .det 73 _ :: .det 74 _ :: .det 75 _ :: .det 76 _ :: .det 77 _ :: .det 78 _ :: .det 79 _ :: .det 80 _ :: .det 81 _ :: .det 82 _ :: .det 83 _ :: .det 84 _ :: .det 85 _ :: .det 86 _ :: .det 87 _ :: .det 88 _ :: .det 89 _ :: .det 90 _ :: .det 91 _ :: .det 92 _ :: .det 93 _ :: .det 94 _ :: .det 95 _ :: .det 96 _ :: .det 97 _ :: .det 98 _ :: .det 99 _ :: .det 100 _ :: .det 101 _ :: .det 102 _ :: .det 103 _ :: .det 104 _ :: .det 105 _ :: .det 6 _ :: [])) rfl rfl ?_
  refine Head.done ⟨by kernel_rfl, fun β hβ => ?_⟩
  refine OpsW.norm (F' := ((60, _) :: (61, _) :: (62, _) :: (63, _) :: (64, _) :: (65, _) :: (66, _) :: (67, _) :: (68, _) :: (69, _) :: (70, _) :: (71, _) :: (72, _) :: (73, _) :: (74, _) :: (75, _) :: (76, _) :: (77, _) :: (78, _) :: (79, _) :: (80, _) :: (81, _) :: (82, _) :: (83, _) :: (84, _) :: (85, _) :: (86, _) :: (87, _) :: (88, _) :: (89, _) :: (90, _) :: (91, _) :: (92, _) :: (93, _) :: (94, _) :: (95, _) :: (96, _) :: (97, _) :: (98, _) :: (99, _) :: (100, _) :: (101, _) :: (102, _) :: (103, _) :: (104, _) :: (105, _) :: (6, _) :: (8, _) :: (5, _) :: (3, _) :: [])) (H' := [(_, _), (_, _), (_, _), (_, _), (_, _)]) rfl rfl ?_
  refine sNext ?_
  refine W.keep (F' := [(6, _)]) ⟨rfl, trivial⟩ ?_
  refine sRet ?_
  exact done1 Tryd.results29 (rv_tmp rfl) rfl
set_option maxHeartbeats 2000000 in
theorem sidesE_ok {p q r : Pt} (h0 : p ≠ (0, 0)) (h0' : q ≠ (0, 0)) (h0'' : r ≠ (0, 0)) (h1 : p = q) (h2 : r.1 = p.1) (h3 : r = p) (h4 : threeB p = true) {w : World} (hG : Blocks (GH T) w)  : Vm.Pure Tryd.prog 29 #[encP p, encP q, encP r] w (.bool true) := by
  refine pure_of_W (n := 140) (args := [encP p, encP q, encP r]) Tryd.func29 rfl Tryd.ntmps29 (Nat.le_of_ble_eq_true rfl) hG ?_
  refine sStart ?_
  refine sSeq ?_
  refine W.region ?_
  refine OpsW.fresh (fr_box rfl rfl) rfl fun b3 => ?_
  refine OpsW.fresh (fr_box rfl rfl) rfl fun b4 => ?_
  refine OpsW.fresh (fr_box rfl rfl) rfl fun b5 => ?_
  refine OpsW.det (det_assign rfl) rfl ?_
  refine sNext ?_
  refine W.keep (F' := [(5, _), (4, _), (3, _)]) ⟨rfl, rfl, rfl, trivial⟩ ?_
  refine sSeq ?_
  refine W.region ?_
  refine OpsW.det (det_zero bz30) rfl ?_
  refine OpsW.fresh (fr_alloc z30) rfl fun b7 => ?_
  refine OpsW.store sz30 rfl rfl rfl rfl rfl (Upd.here) rfl ?_
  refine sNext ?_
  refine W.keep (F' := [(7, _), (5, _), (4, _), (3, _)]) ⟨rfl, rfl, rfl, rfl, trivial⟩ ?_
  refine sSeq ?_
  refine sSeq ?_
  refine W.region ?_
  refine OpsW.det (det_loadA ty30 rfl (List.Mem.tail _ (List.Mem.tail _ (List.Mem.tail _ (List.Mem.head _)))) rfl) rfl ?_
  refine OpsW.det (det_loadA ty30 rfl (List.Mem.head _) rfl) rfl ?_
  refine OpsW.det (Det.to (det_eql30 rfl rfl) (congrArg Value.bool (nf h0))) rfl ?_
  refine OpsW.det (det_move rfl) rfl ?_
  refine OpsW.guard_yes rfl rfl ?_
  refine OpsW.det (det_loadA ty30 rfl (List.Mem.tail _ (List.Mem.tail _ (List.Mem.head _))) rfl) rfl ?_
  refine OpsW.guard_yes rfl rfl ?_
  refine OpsW.det (det_loadA ty30 rfl (List.Mem.head _) rfl) rfl ?_
  refine OpsW.guard_yes rfl rfl ?_
  refine OpsW.det (Det.to (det_eql30 rfl rfl) (congrArg Value.bool (nf h0'))) rfl ?_
  refine OpsW.det (det_pick rfl rfl) rfl ?_
  refine OpsW.det (det_move rfl) rfl ?_
  refine OpsW.guard_yes rfl rfl ?_
  refine OpsW.det (det_loadA ty30 rfl (List.Mem.tail _ (List.Mem.head _)) rfl) rfl ?_
  refine OpsW.guard_yes rfl rfl ?_
  refine OpsW.det (det_loadA ty30 rfl (List.Mem.head _) rfl) rfl ?_
  refine OpsW.guard_yes rfl rfl ?_
  refine OpsW.det (Det.to (det_eql30 rfl rfl) (congrArg Value.bool (nf h0''))) rfl ?_
  refine OpsW.det (det_pick rfl rfl) rfl ?_
  refine sNext ?_
  refine W.keep (F' := [(22, _), (7, _), (5, _), (4, _), (3, _)]) ⟨rfl, rfl, rfl, rfl, rfl, trivial⟩ ?_
  refine W.cond_false rfl ?_
  refine sSkip ?_
  refine sSeq ?_
  refine sSeq ?_
  refine W.region ?_
  refine OpsW.det (det_loadA ty30 rfl (List.Mem.tail _ (List.Mem.tail _ (List.Mem.tail _ (List.Mem.head _)))) rfl) rfl ?_
  refine OpsW.det (det_loadA ty30 rfl (List.Mem.tail _ (List.Mem.tail _ (List.Mem.head _))) rfl) rfl ?_
  refine OpsW.det (Det.to (det_eql30 rfl rfl) (congrArg Value.bool (yb h1))) rfl ?_
  refine sNext ?_
  refine W.keep (F' := [(56, _), (5, _), (4, _), (3, _)]) ⟨rfl, rfl, rfl, rfl, trivial⟩ ?_
  refine W.cond_true rfl ?_
  refine sSeq ?_
  refine W.region ?_
  refine OpsW.det (det_fieldAddr fl30_0 rfl) rfl ?_
  refine OpsW.det (det_loadA ty28 rfl (List.Mem.tail _ (List.Mem.tail _ (List.Mem.tail _ (List.Mem.head _)))) rfl) rfl ?_
  refine OpsW.det (det_call en56 rfl (fun w hb ho => Square_ok ho.blocks)) rfl ?_
  refine OpsW.fresh (fr_alloc z28) rfl fun b8 => ?_
  refine OpsW.store sz28 rfl rfl rfl rfl rfl (Upd.here) rfl ?_
  refine sNext ?_
  refine W.keep (F' := [(8, _), (5, _), (3, _)]) ⟨rfl, rfl, rfl, trivial⟩ ?_
  refine sSeq ?_
  refine W.draw mixed 47 [[], [0], [], [2], [0, 1, 2, 3], [0, 1, 2, 3, 4], [0, 1, 2, 3, 4, 5], [0, 1, 2, 3, 4, 5, 6], [0, 1, 2, 3, 4, 5], [0, 1, 2, 3, 4, 5, 8], [0, 1, 2, 3, 4, 5, 6, 7, 8, 9], [0, 1, 2, 3, 4, 5], [0, 1, 2, 3, 4, 5, 11], [0, 1, 2, 3, 4, 5], [0, 1, 2, 3, 4, 5, 13], [0, 1, 2, 3, 4, 5, 6, 7, 8, 9, 10, 11, 12, 13, 14], [0, 1, 2, 3, 4, 5, 6, 7, 8, 9, 10, 11, 12, 13, 14, 15], [0, 1, 2, 3, 4, 5], [0, 1, 2, 3, 4, 5], [0, 1, 2, 3, 4, 5, 6, 7, 8, 9, 10, 11, 12, 13, 14, 15, 16, 17, 18], [0, 1, 2, 3, 4, 5], [0, 1, 2, 3, 4, 5, 6, 7, 8, 9, 10, 11, 12, 13, 14, 15, 16, 17, 18, 19, 20], [0, 1, 2, 3, 4, 5], [0, 1, 2, 3, 4, 5, 22], [0, 1, 2, 3, 4, 5], [0, 1, 2, 3, 4, 5, 24], [0, 1, 2, 3, 4, 5, 6, 7, 8, 9, 10, 11, 12, 13, 14, 15, 16, 17, 18, 19, 20, 21, 22, 23, 24, 25], [0, 1, 2, 3, 4, 5, 6, 7, 8, 9, 10, 11, 12, 13, 14, 15, 16, 17, 18, 19, 20, 21, 22, 23, 24, 25, 26], [0, 1, 2, 3, 4, 5, 6, 7, 8, 9, 10, 11, 12, 13, 14, 15, 16, 17, 18, 19, 20, 21, 22, 23, 24, 25, 26, 27], [0, 1, 2, 3, 4, 5, 6, 7, 8, 9, 10, 11, 12, 13, 14, 15, 16, 17, 18, 19, 20, 21, 22, 23, 24, 25, 26, 27, 28], [0, 1, 2, 3, 4, 5, 6, 7, 8, 9, 10, 11, 12, 13, 14, 15, 16, 17, 18, 19, 20, 21, 22, 23, 24, 25, 26, 27, 28, 29], [0, 1, 2, 3, 4, 5, 6, 7, 8, 9, 10, 11, 12, 13, 14, 15, 16, 17, 18, 19, 20, 21, 22, 23, 24, 25, 26, 27, 28, 29, 30], [0, 1, 2, 3, 4, 5, 6, 7, 8, 9, 10, 11, 12, 13, 14, 15, 16, 17, 18, 19, 20, 21, 22, 23, 24, 25, 26, 27, 28, 29, 30, 31], [0, 1, 2, 3, 4, 5, 6, 7, 8, 9, 10, 11, 12, 13, 14, 15, 16, 17, 18, 19, 20, 21, 22, 23, 24, 25, 26, 27, 28, 29, 30], [0, 1, 2, 3, 4, 5, 6, 7, 8, 9, 10, 11, 12, 13, 14, 15, 16, 17, 18, 19, 20, 21, 22, 23, 24, 25, 26, 27, 28, 29, 30, 33], [0, 1, 2, 3, 4, 5, 6, 7, 8, 9, 10, 11, 12, 13, 14, 15, 16, 17, 18, 19, 20, 21, 22, 23, 24, 25, 26, 27, 28, 29, 30, 31, 32, 33, 34], [0, 1, 2, 3, 4, 5, 6, 7, 8, 9, 10, 11, 12, 13, 14, 15, 16, 17, 18, 19, 20, 21, 22, 23, 24, 25, 26, 27, 28, 29, 30, 31, 32, 33, 34, 35], [0, 1, 2, 3, 4, 5, 6, 7, 8, 9, 10, 11, 12, 13, 14, 15, 16, 17, 18, 19, 20, 21, 22, 23, 24, 25, 26, 27, 28, 29, 30, 31, 32, 33, 34, 35, 36], [0, 1, 2, 3, 4, 5, 6, 7, 8, 9, 10, 11, 12, 13, 14, 15, 16, 17, 18, 19, 20, 21, 22, 23, 24, 25, 26, 27, 28, 29, 30, 31, 32, 33, 34, 35, 36], [0, 1, 2, 3, 4, 5, 6, 7, 8, 9, 10, 11, 12, 13, 14, 15, 16, 17, 18, 19, 20, 21, 22, 23, 24, 25, 26, 27, 28, 29, 30, 31, 32, 33, 34, 35, 36, 37, 38], [0, 1, 2, 3, 4, 5, 6, 7, 8, 9, 10, 11, 12, 13, 14, 15, 16, 17, 18, 19, 20, 21, 22, 23, 24, 25, 26, 27, 28, 29, 30, 31, 32, 33, 34, 35, 36, 37, 38, 39], [0, 1, 2, 3, 4, 5, 6, 7, 8, 9, 10, 11, 12, 13, 14, 15, 16, 17, 18, 19, 20, 21, 22, 23, 24, 25, 26, 27, 28, 29, 30, 31, 32, 33, 34, 35, 36, 37, 38, 39, 40], [0, 1, 2, 3, 4, 5, 6, 7, 8, 9, 10, 11, 12, 13, 14, 15, 16, 17, 18, 19, 20, 21, 22, 23, 24, 25, 26, 27, 28, 29, 30, 31, 32, 33, 34, 35, 36, 37, 38, 39, 40, 41], [0, 1, 2, 3, 4, 5, 6, 7, 8, 9, 10, 11, 12, 13, 14, 15, 16, 17, 18, 19, 20, 21, 22, 23, 24, 25, 26, 27, 28, 29, 30, 31, 32, 33, 34, 35, 36, 37, 38, 39, 40, 41, 42], [0, 1, 2, 3, 4, 5, 6, 7, 8, 9, 10, 11, 12, 13, 14, 15, 16, 17, 18, 19, 20, 21, 22, 23, 24, 25, 26, 27, 28, 29, 30, 31, 32, 33, 34, 35, 36, 37, 38, 39, 40, 41, 42, 43], [0, 1, 2, 3, 4, 5, 6, 7, 8, 9, 10, 11, 12, 13, 14, 15, 16, 17, 18, 19, 20, 21, 22, 23, 24, 25, 26, 27, 28, 29, 30, 31, 32, 33, 34, 35, 36, 37, 38, 39, 40, 41, 42, 43, 44], [0, 1, 2, 3, 4, 5, 6, 7, 8, 9, 10, 11, 12, 13, 14, 15, 16, 17, 18, 19, 20, 21, 22, 23, 24, 25, 26, 27, 28, 29, 30, 31, 32, 33, 34, 35, 36, 37, 38, 39, 40, 41, 42, 43, 44, 45]] (cl_lt (by decide)) ?_
  refine Head.det rfl (fun β hβ => Det.norm (F' := [(8, _), (5, _), (3, _)]) (H' := [(_, _), (_, _), (_, _), (_, _), (_, _)]) rfl rfl (det_fieldAddr fl30_0 rfl)) ?_
  refine Head.norm (k' := 1) (es' := [.det 60 _]) rfl rfl ?_
  refine Head.det rfl (fun β hβ => Det.norm (F' := [(60, _), (8, _), (5, _), (3, _)]) (H' := [(_, _), (_, _), (_, _), (_, _), (_, _)]) rfl rfl (det_loadA ty28 rfl (List.Mem.tail _ (List.Mem.tail _ (List.Mem.head _))) rfl)) ?_
  refine Head.norm (k' := 2) (es' := [.det 60 _, .det 61 _]) rfl rfl ?_
  refine Head.det rfl (fun β hβ => Det.norm (F' := [(8, _), (5, _), (3, _)]) (H' := [(_, _), (_, _), (_, _), (_, _), (_, _)]) rfl rfl (det_fieldAddr fl30_0 rfl)) ?_
  refine Head.norm (k' := 3) (es' := [.det 60 _, .det 61 _, .det 62 _]) rfl rfl ?_
  refine Head.det rfl (fun β hβ => Det.norm (F' := [(62, _), (8, _), (5, _), (3, _)]) (H' := [(_, _), (_, _), (_, _), (_, _), (_, _)]) rfl rfl (det_loadA ty28 rfl (List.Mem.tail _ (List.Mem.tail _ (List.Mem.tail _ (List.Mem.tail _ (List.Mem.head _))))) rfl)) ?_
  refine Head.norm (k' := 4) (es' := [.det 60 _, .det 61 _, .det 62 _, .det 63 _]) rfl rfl ?_
  refine Head.det rfl (fun β hβ => Det.norm (F' := [(60, _), (61, _), (62, _), (63, _), (8, _), (5, _), (3, _)]) (H' := [(_, _), (_, _), (_, _), (_, _), (_, _)]) rfl rfl (Det.to (det_neq28 rfl rfl) (congrArg Value.bool (nb h2)))) ?_
  refine Head.norm (k' := 5) (es' := [.det 60 _, .det 61 _, .det 62 _, .det 63 _, .det 64 _]) rfl rfl ?_
  refine Head.det rfl (fun β hβ => Det.norm (F' := [(60, _), (61, _), (62, _), (63, _), (64, _), (8, _), (5, _), (3, _)]) (H' := [(_, _), (_, _), (_, _), (_, _), (_, _)]) rfl rfl (det_move rfl)) ?_
  refine Head.norm (k' := 6) (es' := [.det 60 _, .det 61 _, .det 62 _, .det 63 _, .det 64 _, .det 65 _]) rfl rfl ?_
  refine Head.no rfl rfl (fun _ _ => rfl) ?_
  refine Head.norm (k' := 7) (es' := [.det 60 _, .det 61 _, .det 62 _, .det 63 _, .det 64 _, .det 65 _, .det 66 _]) rfl rfl ?_
  refine Head.no rfl rfl (fun _ _ => rfl) ?_
  refine Head.norm (k' := 8) (es' := [.det 60 _, .det 61 _, .det 62 _, .det 63 _, .det 64 _, .det 65 _, .det 66 _, .det 67 _]) rfl rfl ?_
  refine Head.no rfl rfl (fun _ _ => rfl) ?_
  refine Head.norm (k' := 9) (es' := [.det 60 _, .det 61 _, .det 62 _, .det 63 _, .det 64 _, .det 65 _, .det 66 _, .det 67 _, .det 68 _]) rfl rfl ?_
  refine Head.no rfl rfl (fun _ _ => rfl) ?_
  refine Head.norm (k' := 10) (es' := [.det 60 _, .det 61 _, .det 62 _, .det 63 _, .det 64 _, .det 65 _, .det 66 _, .det 67 _, .det 68 _, .det 69 _]) rfl rfl ?_
  refine Head.no rfl rfl (fun _ _ => rfl) ?_
  refine Head.norm (k' := 11) (es' := [.det 60 _, .det 61 _, .det 62 _, .det 63 _, .det 64 _, .det 65 _, .det 66 _, .det 67 _, .det 68 _, .det 69 _, .det 70 _]) rfl rfl ?_
  refine Head.no rfl rfl (fun _ _ => rfl) ?_
  refine Head.norm (k' := 12) (es' := [.det 60 _, .det 61 _, .det 62 _, .det 63 _, .det 64 _, .det 65 _, .det 66 _, .det 67 _, .det 68 _, .det 69 _, .det 70 _, .det 71 _]) rfl rfl ?_
  refine Head.no rfl rfl (fun _ _ => rfl) ?_
  refine Head.norm (k' := 13) (es' := [.det 60 _, .det 61 _, .det 62 _, .det 63 _, .det 64 _, .det 65 _, .det 66 _, .det 67 _, .det 68 _, .det 69 _, .det 70 _, .det 71 _, .det 72 _]) rfl rfl ?_
  refine Head.no rfl rfl (fun _ _ => rfl) ?_
  refine Head.norm (k' := 14) (es' := [.det 60 _, .det 61 _, .det 62 _, .det 63 _, .det 64 _, .det 65 _, .det 66 _, .det 67 _, .det 68 _, .det 69 _, .det 70 _, .det 71 _, .det 72 _, .det 73 _]) rfl rfl ?_
  refine Head.no rfl rfl (fun _ _ => rfl) ?_
  refine Head.norm (k' := 15) (es' := [.det 60 _, .det 61 _, .det 62 _, .det 63 _, .det 64 _, .det 65 _, .det 66 _, .det 67 _, .det 68 _, .det 69 _, .det 70 _, .det 71 _, .det 72 _, .det 73 _, .det 74 _]) rfl rfl ?_
  refine Head.no rfl rfl (fun _ _ => rfl) ?_
  refine Head.norm (k' := 16) (es' := [.det 60 _, .det 61 _, .det 62 _, .det 63 _, .det 64 _, .det 65 _, .det 66 _, .det 67 _, .det 68 _, .det 69 _, .det 70 _, .det 71 _, .det 72 _, .det 73 _, .det 74 _, .det 75 _]) rfl rfl ?_
  refine Head.no rfl rfl (fun _ _ => rfl) ?_
  refine Head.norm (k' := 17) (es' := [.det 60 _, .det 61 _, .det 62 _, .det 63 _, .det 64 _, .det 65 _, .det 66 _, .det 67 _, .det 68 _, .det 69 _, .det 70 _, .det 71 _, .det 72 _, .det 73 _, .det 74 _, .det 75 _, .det 76 _]) rfl rfl ?_
  refine Head.no rfl rfl (fun _ _ => rfl) ?_
  refine Head.norm (k' := 18) (es' := [.det 60 _, .det 61 _, .det 62 _, .det 63 _, .det 64 _, .det 65 _, .det 66 _, .det 67 _, .det 68 _, .det 69 _, .det 70 _, .det 71 _, .det 72 _, .det 73 _, .det 74 _, .det 75 _, .det 76 _, .det 77 _]) rfl rfl ?_
  refine Head.no rfl rfl (fun _ _ => rfl) ?_
  refine Head.norm (k' := 19) (es' := [.det 60 _, .det 61 _, .det 62 _, .det 63 _, .det 64 _, .det 65 _, .det 66 _, .det 67 _, .det 68 _, .det 69 _, .det 70 _, .det 71 _, .det 72 _, .det 73 _, .det 74 _, .det 75 _, .det 76 _, .det 77 _, .det 78 _]) rfl rfl ?_
  refine Head.no rfl rfl (fun _ _ => rfl) ?_
  refine Head.norm (k' := 20) (es' := [.det 60 _, .det 61 _, .det 62 _, .det 63 _, .det 64 _, .det 65 _, .det 66 _, .det 67 _, .det 68 _, .det 69 _, .det 70 _, .det 71 _, .det 72 _, .det 73 _, .det 74 _, .det 75 _, .det 76 _, .det 77 _, .det 78 _, .det 79 _]) rfl rfl ?_
  refine Head.no rfl rfl (fun _ _ => rfl) ?_
  refine Head.norm (k' := 21) (es' := [.det 60 _, .det 61 _, .det 62 _, .det 63 _, .det 64 _, .det 65 _, .det 66 _, .det 67 _, .det 68 _, .det 69 _, .det 70 _, .det 71 _, .det 72 _, .det 73 _, .det 74 _, .det 75 _, .det 76 _, .det 77 _, .det 78 _, .det 79 _, .det 80 _]) rfl rfl ?_
  refine Head.no rfl rfl (fun _ _ => rfl) ?_
  refine Head.norm (k' := 22) (es' := [.det 60 _, .det 61 _, .det 62 _, .det 63 _, .det 64 _, .det 65 _, .det 66 _, .det 67 _, .det 68 _, .det 69 _, .det 70 _, .det 71 _, .det 72 _, .det 73 _, .det 74 _, .det 75 _, .det 76 _, .det 77 _, .det 78 _, .det 79 _, .det 80 _, .det 81 _]) rfl rfl ?_
  refine Head.no rfl rfl (fun _ _ => rfl) ?_
  refine Head.norm (k' := 23) (es' := [.det 60 _, .det 61 _, .det 62 _, .det 63 _, .det 64 _, .det 65 _, .det 66 _, .det 67 _, .det 68 _, .det 69 _, .det 70 _, .det 71 _, .det 72 _, .det 73 _, .det 74 _, .det 75 _, .det 76 _, .det 77 _, .det 78 _, .det 79 _, .det 80 _, .det 81 _, .det 82 _]) rfl rfl ?_
  refine Head.no rfl rfl (fun _ _ => rfl) ?_
  refine Head.norm (k' := 24) (es' := [.det 60 _, .det 61 _, .det 62 _, .det 63 _, .det 64 _, .det 65 _, .det 66 _, .det 67 _, .det 68 _, .det 69 _, .det 70 _, .det 71 _, .det 72 _, .det 73 _, .det 74 _, .det 75 _, .det 76 _, .det 77 _, .det 78 _, .det 79 _, .det 80 _, .det 81 _, .det 82 _, .det 83 _]) rfl rfl ?_
  refine Head.no rfl rfl (fun _ _ => rfl) ?_
  refine Head.norm (k' := 25) (es' := [.det 60 _, .det 61 _, .det 62 _, .det 63 _, .det 64 _, .det 65 _, .det 66 _, .det 67 _, .det 68 _, .det 69 _, .det 70 _, .det 71 _, .det 72 _, .det 73 _, .det 74 _, .det 75 _, .det 76 _, .det 77 _, .det 78 _, .det 79 _, .det 80 _, .det 81 _, .det 82 _, .det 83 _, .det 84 _]) rfl rfl ?_
  refine Head.no rfl rfl (fun _ _ => rfl) ?_
  refine Head.norm (k' := 26) (es' := [.det 60 _, .det 61 _, .det 62 _, .det 63 _, .det 64 _, .det 65 _, .det 66 _, .det 67 _, .det 68 _, .det 69 _, .det 70 _, .det 71 _, .det 72 _, .det 73 _, .det 74 _, .det 75 _, .det 76 _, .det 77 _, .det 78 _, .det 79 _, .det 80 _, .det 81 _, .det 82 _, .det 83 _, .det 84 _, .det 85 _]) rfl rfl ?_
  refine Head.no rfl rfl (fun _ _ => rfl) ?_
  refine Head.norm (k' := 27) (es' := [.det 60 _, .det 61 _, .det 62 _, .det 63 _, .det 64 _, .det 65 _, .det 66 _, .det 67 _, .det 68 _, .det 69 _, .det 70 _, .det 71 _, .det 72 _, .det 73 _, .det 74 _, .det 75 _, .det 76 _, .det 77 _, .det 78 _, .det 79 _, .det 80 _, .det 81 _, .det 82 _, .det 83 _, .det 84 _, .det 85 _, .det 86 _]) rfl rfl ?_
  refine Head.no rfl rfl (fun _ _ => rfl) ?_
  refine Head.norm (k' := 28) (es' := [.det 60 _, .det 61 _, .det 62 _, .det 63 _, .det 64 _, .det 65 _, .det 66 _, .det 67 _, .det 68 _, .det 69 _, .det 70 _, .det 71 _, .det 72 _, .det 73 _, .det 74 _, .det 75 _, .det 76 _, .det 77 _, .det 78 _, .det 79 _, .det 80 _, .det 81 _, .det 82 _, .det 83 _, .det 84 _, .det 85 _, .det 86 _, .det 87 _]) rfl rfl ?_
  refine Head.no rfl rfl (fun _ _ => rfl) ?_
  refine Head.norm (k' := 29) (es' := [.det 60 _, .det 61 _, .det 62 _, .det 63 _, .det 64 _, .det 65 _, .det 66 _, .det 67 _, .det 68 _, .det 69 _, .det 70 _, .det 71 _, .det 72 _, .det 73 _, .det 74 _, .det 75 _, .det 76 _, .det 77 _, .det 78 _, .det 79 _, .det 80 _, .det 81 _, .det 82 _, .det 83 _, .det 84 _, .det 85 _, .det 86 _, .det 87 _, .det 88 _]) rfl rfl ?_
  refine Head.det rfl (fun β hβ => Det.norm (F' := ((60, _) :: (61, _) :: (62, _) :: (63, _) :: (64, _) :: (65, _) :: (66, _) :: (67, _) :: (68, _) :: (69, _) :: (70, _) :: (71, _) :: (72, _) :: (73, _) :: (74, _) :: (75, _) :: (76, _) :: (77, _) :: (78, _) :: (79, _) :: (80, _) :: (81, _) :: (82, _) :: (83, _) :: (84, _) :: (85, _) :: (86, _) :: (87, _) :: (88, _) :: (8, _) :: (5, _) :: (3, _) :: [])) (H' := [(_, _), (_, _), (_, _), (_, _), (_, _)]) rfl rfl (det_pick rfl rfl)) ?_
  refine Head.norm (k' := 30) (es' := (.det 60 _ :: .det 61 _ :: .det 62 _ :: .det 63 _ :: .det 64 _ :: .det 65 _ :: .det 66 _ :: .det 67 _ :: .det 68 _ :: .det 69 _ :: .det 70 _ :: .det 71 _ :: .det 72 _ :: .det 73 _ :: .det 74 _ :: .det 75 _ :: .det 76 _ :: .det 77 _ :: .det 78 _ :: .det 79 _ :: .det 80 _ :: .det 81 _ :: .det 82 _ :: .det 83 _ :: .det 84 _ :: .det 85 _ :: .det 86 _ :: .det 87 _ :: .det 88 _ :: .det 89 _ :: [])) rfl rfl ?_
  refine Head.det rfl (fun β hβ => Det.norm (F' := ((60, _) :: (61, _) :: (62, _) :: (63, _) :: (64, _) :: (65, _) :: (66, _) :: (67, _) :: (68, _) :: (69, _) :: (70, _) :: (71, _) :: (72, _) :: (73, _) :: (74, _) :: (75, _) :: (76, _) :: (77, _) :: (78, _) :: (79, _) :: (80, _) :: (81, _) :: (82, _) :: (83, _) :: (84, _) :: (85, _) :: (86, _) :: (87, _) :: (88, _) :: (89, _) :: (8, _) :: (5, _) :: (3, _) :: [])) (H' := [(_, _), (_, _), (_, _), (_, _), (_, _)]) rfl rfl (det_move rfl)) ?_
  refine Head.norm (k' := 31) (es' := (.det 60 _ :: .det 61 _ :: .det 62 _ :: .det 63 _ :: .det 64 _ :: .det 65 _ :: .det 66 _ :: .det 67 _ :: .det 68 _ :: .det 69 _ :: .det 70 _ :: .det 71 _ :: .det 72 _ :: .det 73 _ :: .det 74 _ :: .det 75 _ :: .det 76 _ :: .det 77 _ :: .det 78 _ :: .det 79 _ :: .det 80 _ :: .det 81 _ :: .det 82 _ :: .det 83 _ :: .det 84 _ :: .det 85 _ :: .det 86 _ :: .det 87 _ :: .det 88 _ :: .det 89 _ :: .det 90 _ :: [])) rfl rfl ?_
  refine Head.yes rfl rfl (fun _ _ => rfl) (fun β hβ => Det.norm (F' := ((60, _) :: (61, _) :: (62, _) :: (63, _) :: (64, _) :: (65, _) :: (66, _) :: (67, _) :: (68, _) :: (69, _) :: (70, _) :: (71, _) :: (72, _) :: (73, _) :: (74, _) :: (75, _) :: (76, _) :: (77, _) :: (78, _) :: (79, _) :: (80, _) :: (81, _) :: (82, _) :: (83, _) :: (84, _) :: (85, _) :: (86, _) :: (87, _) :: (88, _) :: (89, _) :: (90, _) :: (8, _) :: (5, _) :: (3, _) :: [])) (H' := [(_, _), (_, _), (_, _), (_, _), (_, _)]) rfl rfl (det_fieldAddr fl30_0 rfl)) ?_
  refine Head.norm (k' := 32) (es' := (.det 60 _ :: .det 61 _ :: .det 62 _ :: .det 63 _ :: .det 64 _ :: .det 65 _ :: .det 66 _ :: .det 67 _ :: .det 68 _ :: .det 69 _ :: .det 70 _ :: .det 71 _ :: .det 72 _ :: .det 73 _ :: .det 74 _ :: .det 75 _ :: .det 76 _ :: .det 77 _ :: .det 78 _ :: .det 79 _ :: .det 80 _ :: .det 81 _ :: .det 82 _ :: .det 83 _ :: .det 84 _ :: .det 85 _ :: .det 86 _ :: .det 87 _ :: .det 88 _ :: .det 89 _ :: .det 90 _ :: .det 91 _ :: [])) rfl rfl ?_
  refine Head.yes rfl rfl (fun _ _ => rfl) (fun β hβ => Det.norm (F' := ((60, _) :: (61, _) :: (62, _) :: (63, _) :: (64, _) :: (65, _) :: (66, _) :: (67, _) :: (68, _) :: (69, _) :: (70, _) :: (71, _) :: (72, _) :: (73, _) :: (74, _) :: (75, _) :: (76, _) :: (77, _) :: (78, _) :: (79, _) :: (80, _) :: (81, _) :: (82, _) :: (83, _) :: (84, _) :: (85, _) :: (86, _) :: (87, _) :: (88, _) :: (89, _) :: (90, _) :: (91, _) :: (8, _) :: (5, _) :: (3, _) :: [])) (H' := [(_, _), (_, _), (_, _), (_, _), (_, _)]) rfl rfl (det_loadA ty28 rfl (List.Mem.tail _ (List.Mem.tail _ (List.Mem.head _))) rfl)) ?_
  refine Head.norm (k' := 33) (es' := (.det 60 _ :: .det 61 _ :: .det 62 _ :: .det 63 _ :: .det 64 _ :: .det 65 _ :: .det 66 _ :: .det 67 _ :: .det 68 _ :: .det 69 _ :: .det 70 _ :: .det 71 _ :: .det 72 _ :: .det 73 _ :: .det 74 _ :: .det 75 _ :: .det 76 _ :: .det 77 _ :: .det 78 _ :: .det 79 _ :: .det 80 _ :: .det 81 _ :: .det 82 _ :: .det 83 _ :: .det 84 _ :: .det 85 _ :: .det 86 _ :: .det 87 _ :: .det 88 _ :: .det 89 _ :: .det 90 _ :: .det 91 _ :: .det 92 _ :: [])) rfl rfl ?_
  refine Head.yes rfl rfl (fun _ _ => rfl) (fun β hβ => Det.norm (F' := ((60, _) :: (61, _) :: (62, _) :: (63, _) :: (64, _) :: (65, _) :: (66, _) :: (67, _) :: (68, _) :: (69, _) :: (70, _) :: (71, _) :: (72, _) :: (73, _) :: (74, _) :: (75, _) :: (76, _) :: (77, _) :: (78, _) :: (79, _) :: (80, _) :: (81, _) :: (82, _) :: (83, _) :: (84, _) :: (85, _) :: (86, _) :: (87, _) :: (88, _) :: (89, _) :: (90, _) :: (8, _) :: (5, _) :: (3, _) :: [])) (H' := [(_, _), (_, _), (_, _), (_, _), (_, _)]) rfl rfl (det_fieldAddr fl30_0 rfl)) ?_
  refine Head.norm (k' := 34) (es' := (.det 60 _ :: .det 61 _ :: .det 62 _ :: .det 63 _ :: .det 64 _ :: .det 65 _ :: .det 66 _ :: .det 67 _ :: .det 68 _ :: .det 69 _ :: .det 70 _ :: .det 71 _ :: .det 72 _ :: .det 73 _ :: .det 74 _ :: .det 75 _ :: .det 76 _ :: .det 77 _ :: .det 78 _ :: .det 79 _ :: .det 80 _ :: .det 81 _ :: .det 82 _ :: .det 83 _ :: .det 84 _ :: .det 85 _ :: .det 86 _ :: .det 87 _ :: .det 88 _ :: .det 89 _ :: .det 90 _ :: .det 91 _ :: .det 92 _ :: .det 93 _ :: [])) rfl rfl ?_
  refine Head.yes rfl rfl (fun _ _ => rfl) (fun β hβ => Det.norm (F' := ((60, _) :: (61, _) :: (62, _) :: (63, _) :: (64, _) :: (65, _) :: (66, _) :: (67, _) :: (68, _) :: (69, _) :: (70, _) :: (71, _) :: (72, _) :: (73, _) :: (74, _) :: (75, _) :: (76, _) :: (77, _) :: (78, _) :: (79, _) :: (80, _) :: (81, _) :: (82, _) :: (83, _) :: (84, _) :: (85, _) :: (86, _) :: (87, _) :: (88, _) :: (89, _) :: (90, _) :: (93, _) :: (8, _) :: (5, _) :: (3, _) :: [])) (H' := [(_, _), (_, _), (_, _), (_, _), (_, _)]) rfl rfl (det_loadA ty28 rfl (List.Mem.tail _ (List.Mem.tail _ (List.Mem.tail _ (List.Mem.tail _ (List.Mem.head _))))) rfl)) ?_
  refine Head.norm (k' := 35) (es' := (.det 60 _ :: .det 61 _ :: .det 62 _ :: .det 63 _ :: .det 64 _ :: .det 65 _ :: .det 66 _ :: .det 67 _ :: .det 68 _ :: .det 69 _ :: .det 70 _ :: .det 71 _ :: .det 72 _ :: .det 73 _ :: .det 74 _ :: .det 75 _ :: .det 76 _ :: .det 77 _ :: .det 78 _ :: .det 79 _ :: .det 80 _ :: .det 81 _ :: .det 82 _ :: .det 83 _ :: .det 84 _ :: .det 85 _ :: .det 86 _ :: .det 87 _ :: .det 88 _ :: .det 89 _ :: .det 90 _ :: .det 91 _ :: .det 92 _ :: .det 93 _ :: .det 94 _ :: [])) rfl rfl ?_
  refine Head.yes rfl rfl (fun _ _ => rfl) (fun β hβ => Det.norm (F' := ((60, _) :: (61, _) :: (62, _) :: (63, _) :: (64, _) :: (65, _) :: (66, _) :: (67, _) :: (68, _) :: (69, _) :: (70, _) :: (71, _) :: (72, _) :: (73, _) :: (74, _) :: (75, _) :: (76, _) :: (77, _) :: (78, _) :: (79, _) :: (80, _) :: (81, _) :: (82, _) :: (83, _) :: (84, _) :: (85, _) :: (86, _) :: (87, _) :: (88, _) :: (89, _) :: (90, _) :: (91, _) :: (92, _) :: (93, _) :: (94, _) :: (8, _) :: (5, _) :: (3, _) :: [])) (H' := [(_, _), (_, _), (_, _), (_, _), (_, _)]) rfl rfl (Det.to (det_eql28 rfl rfl) (congrArg Value.bool (yb h2)))) ?_
  refine Head.norm (k' := 36) (es' := (.det 60 _ :: .det 61 _ :: .det 62 _ :: .det 63 _ :: .det 64 _ :: .det 65 _ :: .det 66 _ :: .det 67 _ :: .det 68 _ :: .det 69 _ :: .det 70 _ :: .det 71 _ :: .det 72 _ :: .det 73 _ :: .det 74 _ :: .det 75 _ :: .det 76 _ :: .det 77 _ :: .det 78 _ :: .det 79 _ :: .det 80 _ :: .det 81 _ :: .det 82 _ :: .det 83 _ :: .det 84 _ :: .det 85 _ :: .det 86 _ :: .det 87 _ :: .det 88 _ :: .det 89 _ :: .det 90 _ :: .det 91 _ :: .det 92 _ :: .det 93 _ :: .det 94 _ :: .det 95 _ :: [])) rfl rfl ?_
  refine Head.yes rfl rfl (fun _ _ => rfl) (fun β hβ => Det.norm (F' := ((60, _) :: (61, _) :: (62, _) :: (63, _) :: (64, _) :: (65, _) :: (66, _) :: (67, _) :: (68, _) :: (69, _) :: (70, _) :: (71, _) :: (72, _) :: (73, _) :: (74, _) :: (75, _) :: (76, _) :: (77, _) :: (78, _) :: (79, _) :: (80, _) :: (81, _) :: (82, _) :: (83, _) :: (84, _) :: (85, _) :: (86, _) :: (87, _) :: (88, _) :: (89, _) :: (90, _) :: (91, _) :: (92, _) :: (93, _) :: (94, _) :: (95, _) :: (8, _) :: (5, _) :: (3, _) :: [])) (H' := [(_, _), (_, _), (_, _), (_, _), (_, _)]) rfl rfl (det_move rfl)) ?_
  refine Head.norm (k' := 37) (es' := (.det 60 _ :: .det 61 _ :: .det 62 _ :: .det 63 _ :: .det 64 _ :: .det 65 _ :: .det 66 _ :: .det 67 _ :: .det 68 _ :: .det 69 _ :: .det 70 _ :: .det 71 _ :: .det 72 _ :: .det 73 _ :: .det 74 _ :: .det 75 _ :: .det 76 _ :: .det 77 _ :: .det 78 _ :: .det 79 _ :: .det 80 _ :: .det 81 _ :: .det 82 _ :: .det 83 _ :: .det 84 _ :: .det 85 _ :: .det 86 _ :: .det 87 _ :: .det 88 _ :: .det 89 _ :: .det 90 _ :: .det 91 _ :: .det 92 _ :: .det 93 _ :: .det 94 _ :: .det 95 _ :: .det 96 _ :: [])) rfl rfl ?_
  refine Head.yes rfl rfl (fun _ _ => rfl) (fun β hβ => Det.norm (F' := ((60, _) :: (61, _) :: (62, _) :: (63, _) :: (64, _) :: (65, _) :: (66, _) :: (67, _) :: (68, _) :: (69, _) :: (70, _) :: (71, _) :: (72, _) :: (73, _) :: (74, _) :: (75, _) :: (76, _) :: (77, _) :: (78, _) :: (79, _) :: (80, _) :: (81, _) :: (82, _) :: (83, _) :: (84, _) :: (85, _) :: (86, _) :: (87, _) :: (88, _) :: (89, _) :: (90, _) :: (91, _) :: (92, _) :: (93, _) :: (94, _) :: (95, _) :: (96, _) :: (8, _) :: (5, _) :: (3, _) :: [])) (H' := [(_, _), (_, _), (_, _), (_, _), (_, _)]) rfl rfl (det_loadA ty30 rfl (List.Mem.tail _ (List.Mem.tail _ (List.Mem.head _))) rfl)) ?_
  refine Head.norm (k' := 38) (es' := (.det 60 _ :: .det 61 _ :: .det 62 _ :: .det 63 _ :: .det 64 _ :: .det 65 _ :: .det 66 _ :: .det 67 _ :: .det 68 _ :: .det 69 _ :: .det 70 _ :: .det 71 _ :: .det 72 _ :: .det 73 _ :: .det 74 _ :: .det 75 _ :: .det 76 _ :: .det 77 _ :: .det 78 _ :: .det 79 _ :: .det 80 _ :: .det 81 _ :: .det 82 _ :: .det 83 _ :: .det 84 _ :: .det 85 _ :: .det 86 _ :: .det 87 _ :: .det 88 _ :: .det 89 _ :: .det 90 _ :: .det 91 _ :: .det 92 _ :: .det 93 _ :: .det 94 _ :: .det 95 _ :: .det 96 _ :: .det 97 _ :: [])) rfl rfl ?_
  refine Head.yes rfl rfl (fun _ _ => rfl) (fun β hβ => Det.norm (F' := ((60, _) :: (61, _) :: (62, _) :: (63, _) :: (64, _) :: (65, _) :: (66, _) :: (67, _) :: (68, _) :: (69, _) :: (70, _) :: (71, _) :: (72, _) :: (73, _) :: (74, _) :: (75, _) :: (76, _) :: (77, _) :: (78, _) :: (79, _) :: (80, _) :: (81, _) :: (82, _) :: (83, _) :: (84, _) :: (85, _) :: (86, _) :: (87, _) :: (88, _) :: (89, _) :: (90, _) :: (91, _) :: (92, _) :: (93, _) :: (94, _) :: (95, _) :: (96, _) :: (8, _) :: (5, _) :: (3, _) :: [])) (H' := [(_, _), (_, _), (_, _), (_, _), (_, _)]) rfl rfl (det_loadA ty30 rfl (List.Mem.tail _ (List.Mem.tail _ (List.Mem.tail _ (List.Mem.tail _ (List.Mem.head _))))) rfl)) ?_
  refine Head.norm (k' := 39) (es' := (.det 60 _ :: .det 61 _ :: .det 62 _ :: .det 63 _ :: .det 64 _ :: .det 65 _ :: .det 66 _ :: .det 67 _ :: .det 68 _ :: .det 69 _ :: .det 70 _ :: .det 71 _ :: .det 72 _ :: .det 73 _ :: .det 74 _ :: .det 75 _ :: .det 76 _ :: .det 77 _ :: .det 78 _ :: .det 79 _ :: .det 80 _ :: .det 81 _ :: .det 82 _ :: .det 83 _ :: .det 84 _ :: .det 85 _ :: .det 86 _ :: .det 87 _ :: .det 88 _ :: .det 89 _ :: .det 90 _ :: .det 91 _ :: .det 92 _ :: .det 93 _ :: .det 94 _ :: .det 95 _ :: .det 96 _ :: .det 97 _ :: .det 98 _ :: [])) rfl rfl ?_
  refine Head.yes rfl rfl (fun _ _ => rfl) (fun β hβ => Det.norm (F' := ((60, _) :: (61, _) :: (62, _) :: (63, _) :: (64, _) :: (65, _) :: (66, _) :: (67, _) :: (68, _) :: (69, _) :: (70, _) :: (71, _) :: (72, _) :: (73, _) :: (74, _) :: (75, _) :: (76, _) :: (77, _) :: (78, _) :: (79, _) :: (80, _) :: (81, _) :: (82, _) :: (83, _) :: (84, _) :: (85, _) :: (86, _) :: (87, _) :: (88, _) :: (89, _) :: (90, _) :: (91, _) :: (92, _) :: (93, _) :: (94, _) :: (95, _) :: (96, _) :: (97, _) :: (98, _) :: (8, _) :: (5, _) :: (3, _) :: [])) (H' := [(_, _), (_, _), (_, _), (_, _), (_, _)]) rfl rfl (Det.to (det_eql30 rfl rfl) (congrArg Value.bool (yb h3)))) ?_
  refine Head.norm (k' := 40) (es' := (.det 60 _ :: .det 61 _ :: .det 62 _ :: .det 63 _ :: .det 64 _ :: .det 65 _ :: .det 66 _ :: .det 67 _ :: .det 68 _ :: .det 69 _ :: .det 70 _ :: .det 71 _ :: .det 72 _ :: .det 73 _ :: .det 74 _ :: .det 75 _ :: .det 76 _ :: .det 77 _ :: .det 78 _ :: .det 79 _ :: .det 80 _ :: .det 81 _ :: .det 82 _ :: .det 83 _ :: .det 84 _ :: .det 85 _ :: .det 86 _ :: .det 87 _ :: .det 88 _ :: .det 89 _ :: .det 90 _ :: .det 91 _ :: .det 92 _ :: .det 93 _ :: .det 94 _ :: .det 95 _ :: .det 96 _ :: .det 97 _ :: .det 98 _ :: .det 99 _ :: [])) rfl rfl ?_
  refine Head.yes rfl rfl (fun _ _ => rfl) (fun β hβ => Det.norm (F' := ((60, _) :: (61, _) :: (62, _) :: (63, _) :: (64, _) :: (65, _) :: (66, _) :: (67, _) :: (68, _) :: (69, _) :: (70, _) :: (71, _) :: (72, _) :: (73, _) :: (74, _) :: (75, _) :: (76, _) :: (77, _) :: (78, _) :: (79, _) :: (80, _) :: (81, _) :: (82, _) :: (83, _) :: (84, _) :: (85, _) :: (86, _) :: (87, _) :: (88, _) :: (89, _) :: (90, _) :: (91, _) :: (92, _) :: (93, _) :: (94, _) :: (95, _) :: (96, _) :: (97, _) :: (98, _) :: (99, _) :: (8, _) :: (5, _) :: (3, _) :: [])) (H' := [(_, _), (_, _), (_, _), (_, _), (_, _)]) rfl rfl (det_pick rfl rfl)) ?_
  refine Head.norm (k' := 41) (es' := (.det 60 _ :: .det 61 _ :: .det 62 _ :: .det 63 _ :: .det 64 _ :: .det 65 _ :: .det 66 _ :: .det 67 _ :: .det 68 _ :: .det 69 _ :: .det 70 _ :: .det 71 _ :: .det 72 _ :: .det 73 _ :: .det 74 _ :: .det 75 _ :: .det 76 _ :: .det 77 _ :: .det 78 _ :: .det 79 _ :: .det 80 _ :: .det 81 _ :: .det 82 _ :: .det 83 _ :: .det 84 _ :: .det 85 _ :: .det 86 _ :: .det 87 _ :: .det 88 _ :: .det 89 _ :: .det 90 _ :: .det 91 _ :: .det 92 _ :: .det 93 _ :: .det 94 _ :: .det 95 _ :: .det 96 _ :: .det 97 _ :: .det 98 _ :: .det 99 _ :: .det 100 _ :: [])) rfl rfl ?_
  refine Head.yes rfl rfl (fun _ _ => rfl) (fun β hβ => Det.norm (F' := ((60, _) :: (61, _) :: (62, _) :: (63, _) :: (64, _) :: (65, _) :: (66, _) :: (67, _) :: (68, _) :: (69, _) :: (70, _) :: (71, _) :: (72, _) :: (73, _) :: (74, _) :: (75, _) :: (76, _) :: (77, _) :: (78, _) :: (79, _) :: (80, _) :: (81, _) :: (82, _) :: (83, _) :: (84, _) :: (85, _) :: (86, _) :: (87, _) :: (88, _) :: (89, _) :: (90, _) :: (91, _) :: (92, _) :: (93, _) :: (94, _) :: (95, _) :: (96, _) :: (97, _) :: (98, _) :: (99, _) :: (100, _) :: (8, _) :: (5, _) :: (3, _) :: [])) (H' := [(_, _), (_, _), (_, _), (_, _), (_, _)]) rfl rfl (det_move rfl)) ?_
  refine Head.norm (k' := 42) (es' := (.det 60 _ :: .det 61 _ :: .det 62 _ :: .det 63 _ :: .det 64 _ :: .det 65 _ :: .det 66 _ :: .det 67 _ :: .det 68 _ :: .det 69 _ :: .det 70 _ :: .det 71 _ :: .det 72 _ :: .det 73 _ :: .det 74 _ :: .det 75 _ :: .det 76 _ :: .det 77 _ :: .det 78 _ :: .det 79 _ :: .det 80 _ :: .det 81 _ :: .det 82 _ :: .det 83 _ :: .det 84 _ :: .det 85 _ :: .det 86 _ :: .det 87 _ :: .det 88 _ :: .det 89 _ :: .det 90 _ :: .det 91 _ :: .det 92 _ :: .det 93 _ :: .det 94 _ :: .det 95 _ :: .det 96 _ :: .det 97 _ :: .det 98 _ :: .det 99 _ :: .det 100 _ :: .det 101 _ :: [])) rfl rfl ?_
  refine Head.yes rfl rfl (fun _ _ => rfl) (fun β hβ => Det.norm (F' := ((60, _) :: (61, _) :: (62, _) :: (63, _) :: (64, _) :: (65, _) :: (66, _) :: (67, _) :: (68, _) :: (69, _) :: (70, _) :: (71, _) :: (72, _) :: (73, _) :: (74, _) :: (75, _) :: (76, _) :: (77, _) :: (78, _) :: (79, _) :: (80, _) :: (81, _) :: (82, _) :: (83, _) :: (84, _) :: (85, _) :: (86, _) :: (87, _) :: (88, _) :: (89, _) :: (90, _) :: (91, _) :: (92, _) :: (93, _) :: (94, _) :: (95, _) :: (96, _) :: (97, _) :: (98, _) :: (99, _) :: (100, _) :: (101, _) :: (8, _) :: (5, _) :: (3, _) :: [])) (H' := [(_, _), (_, _), (_, _), (_, _), (_, _)]) rfl rfl (det_loadA ty30 rfl (List.Mem.tail _ (List.Mem.tail _ (List.Mem.tail _ (List.Mem.tail _ (List.Mem.head _))))) rfl)) ?_
  refine Head.norm (k' := 43) (es' := (.det 60 _ :: .det 61 _ :: .det 62 _ :: .det 63 _ :: .det 64 _ :: .det 65 _ :: .det 66 _ :: .det 67 _ :: .det 68 _ :: .det 69 _ :: .det 70 _ :: .det 71 _ :: .det 72 _ :: .det 73 _ :: .det 74 _ :: .det 75 _ :: .det 76 _ :: .det 77 _ :: .det 78 _ :: .det 79 _ :: .det 80 _ :: .det 81 _ :: .det 82 _ :: .det 83 _ :: .det 84 _ :: .det 85 _ :: .det 86 _ :: .det 87 _ :: .det 88 _ :: .det 89 _ :: .det 90 _ :: .det 91 _ :: .det 92 _ :: .det 93 _ :: .det 94 _ :: .det 95 _ :: .det 96 _ :: .det 97 _ :: .det 98 _ :: .det 99 _ :: .det 100 _ :: .det 101 _ :: .det 102 _ :: [])) rfl rfl ?_
  refine Head.yes rfl rfl (fun _ _ => rfl) (fun β hβ => Det.norm (F' := ((60, _) :: (61, _) :: (62, _) :: (63, _) :: (64, _) :: (65, _) :: (66, _) :: (67, _) :: (68, _) :: (69, _) :: (70, _) :: (71, _) :: (72, _) :: (73, _) :: (74, _) :: (75, _) :: (76, _) :: (77, _) :: (78, _) :: (79, _) :: (80, _) :: (81, _) :: (82, _) :: (83, _) :: (84, _) :: (85, _) :: (86, _) :: (87, _) :: (88, _) :: (89, _) :: (90, _) :: (91, _) :: (92, _) :: (93, _) :: (94, _) :: (95, _) :: (96, _) :: (97, _) :: (98, _) :: (99, _) :: (100, _) :: (101, _) :: (102, _) :: (8, _) :: (5, _) :: (3, _) :: [])) (H' := [(_, _), (_, _), (_, _), (_, _), (_, _)]) rfl rfl (Det.to (det_call en68 rfl (fun w hb ho => three_ok ho.blocks)) (congrArg Value.bool (h4)))) ?_
  refine Head.norm (k' := 44) (es' := (.det 60 _ :: .det 61 _ :: .det 62 _ :: .det 63 _ :: .det 64 _ :: .det 65 _ :: .det 66 _ :: .det 67 _ :: .det 68 _ :: .det 69 _ :: .det 70 _ :: .det 71 _ :: .det 72 _ :: .det 73 _ :: .det 74 _ :: .det 75 _ :: .det 76 _ :: .det 77 _ :: .det 78 _ :: .det 79 _ :: .det 80 _ :: .det 81 _ :: .det 82 _ :: .det 83 _ :: .det 84 _ :: .det 85 _ :: .det 86 _ :: .det 87 _ :: .det 88 _ :: .det 89 _ :: .det 90 _ :: .det 91 _ :: .det 92 _ :: .det 93 _ :: .det 94 _ :: .det 95 _ :: .det 96 _ :: .det 97 _ :: .det 98 _ :: .det 99 _ :: .det 100 _ :: .det 101 _ :: .det 102 _ :: .det 103 _ :: [])) rfl rfl ?_
  refine Head.yes rfl rfl (fun _ _ => rfl) (fun β hβ => Det.norm (F' := ((60, _) :: (61, _) :: (62, _) :: (63, _) :: (64, _) :: (65, _) :: (66, _) :: (67, _) :: (68, _) :: (69, _) :: (70, _) :: (71, _) :: (72, _) :: (73, _) :: (74, _) :: (75, _) :: (76, _) :: (77, _) :: (78, _) :: (79, _) :: (80, _) :: (81, _) :: (82, _) :: (83, _) :: (84, _) :: (85, _) :: (86, _) :: (87, _) :: (88, _) :: (89, _) :: (90, _) :: (91, _) :: (92, _) :: (93, _) :: (94, _) :: (95, _) :: (96, _) :: (97, _) :: (98, _) :: (99, _) :: (100, _) :: (101, _) :: (102, _) :: (103, _) :: (8, _) :: (5, _) :: (3, _) :: [])) (H' := [(_, _), (_, _), (_, _), (_, _), (_, _)]) rfl rfl (det_pick rfl rfl)) ?_
  refine Head.norm (k' := 45) (es' := (.det 60 _ :: .det 61 _ :: .det 62 _ :: .det 63 _ :: .det 64 _ :: .det 65 _ :: .det 66 _ :: .det 67 _ :: .det 68 _ :: .det 69 _ :: .det 70 _ :: .det 71 _ :: .det 72 _ :: .det 73 _ :: .det 74 _ :: .det 75 _ :: .det 76 _ :: .det 77 _ :: .det 78 _ :: .det 79 _ :: .det 80 _ :: .det 81 _ :: .det 82 _ :: .det 83 _ :: .det 84 _ :: .det 85 _ :: .det 86 _ :: .det 87 _ :: .det 88 _ :: .det 89 _ :: .det 90 _ :: .det 91 _ :: .det 92 _ :: .det 93 _ :: .det 94 _ :: .det 95 _ :: .det 96 _ :: .det 97 _ :: .det 98 _ :: .det 99 _ :: .det 100 _ :: .det 101 _ :: .det 102 _ :: .det 103 _ :: .det 104 _ :: [])) rfl rfl ?_
  refine Head.det rfl (fun β hβ => Det.norm (F' := ((60, _) :: (61, _) :: (62, _) :: (63, _) :: (64, _) :: (65, _) :: (66, _) :: (67, _) :: (68, _) :: (69, _) :: (70, _) :: (71, _) :: (72, _) :: (73, _) :: (74, _) :: (75, _) :: (76, _) :: (77, _) :: (78, _) :: (79, _) :: (80, _) :: (81, _) :: (82, _) :: (83, _) :: (84, _) :: (85, _) :: (86, _) :: (87, _) :: (88, _) :: (89, _) :: (90, _) :: (91, _) :: (92, _) :: (93, _) :: (94, _) :: (95, _) :: (96, _) :: (97, _) :: (98, _) :: (99, _) :: (100, _) :: (101, _) :: (102, _) :: (103, _) :: (104, _) :: (8, _) :: (5, _) :: (3, _) :: [])) (H' := [(_, _), (_, _), (_, _), (_, _), (_, _)]) rfl rfl (det_pick rfl rfl)) ?_
  refine Head.norm (k' := 46) (es' := (.det 60 _ :: .det 61 _ :: .det 62 _ :: .det 63 _ :: .det 64 _ :: .det 65 _ :: .det 66 _ :: .det 67 _ :: .det 68 _ :: .det 69 _ :: .det 70 _ :: .det 71 _ :: .det 72 _ :: .det 73 _ :: .det 74 _ :: .det 75 _ :: .det 76 _ :: .det 77 _ :: .det 78 _ :: .det 79 _ :: .det 80 _ :: .det 81 _ :: .det 82 _ :: .det 83 _ :: .det 84 _ :: .det 85 _ :: .det 86 _ :: .det 87 _ :: .det 88 _ :: .det 89 _ :: .det 90 _ :: .det 91 _ :: .det 92 _ :: .det 93 _ :: .det 94 _ :: .det 95 _ :: .det 96 _ :: .det 97 _ :: .det 98 _ :: .det 99 _ :: .det 100 _ :: .det 101 _ :: .det 102 _ :: .det 103 _ :: .det 104 _ :: .det 105 _ :: [])) rfl rfl ?_
  refine Head.det rfl (fun β hβ => Det.norm (F' := ((60, _) :: (61, _) :: (62, _) :: (63, _) :: (64, _) :: (65, _) :: (66, _) :: (67, _) :: (68, _) :: (69, _) :: (70, _) :: (71, _) :: (72, _) :: (73, _) :: (74, _) :: (75, _) :: (76, _) :: (77, _) :: (78, _) :: (79, _) :: (80, _) :: (81, _) :: (82, _) :: (83, _) :: (84, _) :: (85, _) :: (86, _) :: (87, _) :: (88, _) :: (89, _) :: (90, _) :: (91, _) :: (92, _) :: (93, _) :: (94, _) :: (95, _) :: (96, _) :: (97, _) :: (98, _) :: (99, _) :: (100, _) :: (101, _) :: (102, _) :: (103, _) :: (104, _) :: (105, _) :: (8, _) :: (5, _) :: (3, _) :: [])) (H' := [(_, _), (_, _), (_, _), (_, _), (_, _)]) rfl rfl (det_assign rfl)) ?_
  refine Head.norm (k' := 47) (es' := (.det 60 _ :: .det 61 _ :: .det 62 _ :: .det 63 _ :: .det 64 _ :: .det 65 _ :: .det 66 _ :: .det 67 _ :: .det 68 _ :: .det 69 _ :: .det 70 _ :: .det 71 _ :: .det 72 _ :: .det 73 _ :: .det 74 _ :: .det 75 _ :: .det 76 _ :: .det 77 _ :: .det 78 _ :: .det 79 _ :: .det 80 _ :: .det 81 _ :: .det 82 _ :: .det 83 _ :: .det 84 _ :: .det 85 _ :: .det 86 _ :: .det 87 _ :: .det 88 _ :: .det 89 _ :: .det 90 _ :: .det 91 _ :: .det 92 _ :: .det 93 _ :: .det 94 _ :: .det 95 _ :: .det 96 _ :: .det 97 _ :: .det 98 _ :: .det 99 _ :: .det 100 _ :: .det 101 _ :: .det 102 _ :: .det 103 _ :: .det 104 _ :: .det 105 _ :: .det 6 _ :: [])) rfl rfl ?_
  refine Head.done ⟨by kernel_rfl, fun β hβ => ?_⟩
  refine OpsW.norm (F' := ((60, _) :: (61, _) :: (62, _) :: (63, _) :: (64, _) :: (65, _) :: (66, _) :: (67, _) :: (68, _) :: (69, _) :: (70, _) :: (71, _) :: (72, _) :: (73, _) :: (74, _) :: (75, _) :: (76, _) :: (77, _) :: (78, _) :: (79, _) :: (80, _) :: (81, _) :: (82, _) :: (83, _) :: (84, _) :: (85, _) :: (86, _) :: (87, _) :: (88, _) :: (89, _) :: (90, _) :: (91, _) :: (92, _) :: (93, _) :: (94, _) :: (95, _) :: (96, _) :: (97, _) :: (98, _) :: (99, _) :: (100, _) :: (101, _) :: (102, _) :: (103, _) :: (104, _) :: (105, _) :: (6, _) :: (8, _) :: (5, _) :: (3, _) :: [])) (H' := [(_, _), (_, _), (_, _), (_, _), (_, _)]) rfl rfl ?_
  refine sNext ?_
  refine W.keep (F' := [(6, _)]) ⟨rfl, trivial⟩ ?_
  refine sRet ?_
  exact done1 Tryd.results29 (rv_tmp rfl) rfl
set_option maxHeartbeats 2000000 in
theorem sidesF_ok {p q r : Pt} (h0 : p ≠ (0, 0)) (h0' : q ≠ (0, 0)) (h0'' : r ≠ (0, 0)) (h1 : p ≠ q) (h2 : p.1 ≠ q.1) (h3 : (q.1 - p.1) * (r.2 - p.2) = (r.1 - p.1) * (q.2 - p.2)) (h4 : lambdaB p q r = true) {w : World} (hG : Blocks (GH T) w)  : Vm.Pure Tryd.prog 29 #[encP p, encP q, encP r] w (.bool true) := by
  refine pure_of_W (n := 140) (args := [encP p, encP q, encP r]) Tryd.func29 rfl Tryd.ntmps29 (Nat.le_of_ble_eq_true rfl) hG ?_
  refine sStart ?_
  refine sSeq ?_
  refine W.region ?_
  refine OpsW.fresh (fr_box rfl rfl) rfl fun b3 => ?_
  refine OpsW.fresh (fr_box rfl rfl) rfl fun b4 => ?_
  refine OpsW.fresh (fr_box rfl rfl) rfl fun b5 => ?_
  refine OpsW.det (det_assign rfl) rfl ?_
  refine sNext ?_
  refine W.keep (F' := [(5, _), (4, _), (3, _)]) ⟨rfl, rfl, rfl, trivial⟩ ?_
  refine sSeq ?_
  refine W.region ?_
  refine OpsW.det (det_zero bz30) rfl ?_
  refine OpsW.fresh (fr_alloc z30) rfl fun b7 => ?_
  refine OpsW.store sz30 rfl rfl rfl rfl rfl (Upd.here) rfl ?_
  refine sNext ?_
  refine W.keep (F' := [(7, _), (5, _), (4, _), (3, _)]) ⟨rfl, rfl, rfl, rfl, trivial⟩ ?_
  refine sSeq ?_
  refine sSeq ?_
  refine W.region ?_
  refine OpsW.det (det_loadA ty30 rfl (List.Mem.tail _ (List.Mem.tail _ (List.Mem.tail _ (List.Mem.head _)))) rfl) rfl ?_
  refine OpsW.det (det_loadA ty30 rfl (List.Mem.head _) rfl) rfl ?_
  refine OpsW.det (Det.to (det_eql30 rfl rfl) (congrArg Value.bool (nf h0))) rfl ?_
  refine OpsW.det (det_move rfl) rfl ?_
  refine OpsW.guard_yes rfl rfl ?_
  refine OpsW.det (det_loadA ty30 rfl (List.Mem.tail _ (List.Mem.tail _ (List.Mem.head _))) rfl) rfl ?_
  refine OpsW.guard_yes rfl rfl ?_
  refine OpsW.det (det_loadA ty30 rfl (List.Mem.head _) rfl) rfl ?_
  refine OpsW.guard_yes rfl rfl ?_
  refine OpsW.det (Det.to (det_eql30 rfl rfl) (congrArg Value.bool (nf h0'))) rfl ?_
  refine OpsW.det (det_pick rfl rfl) rfl ?_
  refine OpsW.det (det_move rfl) rfl ?_
  refine OpsW.guard_yes rfl rfl ?_
  refine OpsW.det (det_loadA ty30 rfl (List.Mem.tail _ (List.Mem.head _)) rfl) rfl ?_
  refine OpsW.guard_yes rfl rfl ?_
  refine OpsW.det (det_loadA ty30 rfl (List.Mem.head _) rfl) rfl ?_
  refine OpsW.guard_yes rfl rfl ?_
  refine OpsW.det (Det.to (det_eql30 rfl rfl) (congrArg Value.bool (nf h0''))) rfl ?_
  refine OpsW.det (det_pick rfl rfl) rfl ?_
  refine sNext ?_
  refine W.keep (F' := [(22, _), (7, _), (5, _), (4, _), (3, _)]) ⟨rfl, rfl, rfl, rfl, rfl, trivial⟩ ?_
  refine W.cond_false rfl ?_
  refine sSkip ?_
  refine sSeq ?_
  refine sSeq ?_
  refine W.region ?_
  refine OpsW.det (det_loadA ty30 rfl (List.Mem.tail _ (List.Mem.tail _ (List.Mem.tail _ (List.Mem.head _)))) rfl) rfl ?_
  refine OpsW.det (det_loadA ty30 rfl (List.Mem.tail _ (List.Mem.tail _ (List.Mem.head _))) rfl) rfl ?_
  refine OpsW.det (Det.to (det_eql30 rfl rfl) (congrArg Value.bool (nf h1))) rfl ?_
  refine sNext ?_
  refine W.keep (F' := [(56, _), (5, _), (4, _), (3, _)]) ⟨rfl, rfl, rfl, rfl, trivial⟩ ?_
  refine W.cond_false rfl ?_
  refine sSkip ?_
  refine sSeq ?_
  refine sSeq ?_
  refine W.region ?_
  refine OpsW.det (det_fieldAddr fl30_0 rfl) rfl ?_
  refine OpsW.det (det_loadA ty28 rfl (List.Mem.tail _ (List.Mem.tail _ (List.Mem.tail _ (List.Mem.head _)))) rfl) rfl ?_
  refine OpsW.det (det_fieldAddr fl30_0 rfl) rfl ?_
  refine OpsW.det (det_loadA ty28 rfl (List.Mem.tail _ (List.Mem.tail _ (List.Mem.head _))) rfl) rfl ?_
  refine OpsW.det (Det.to (det_eql28 rfl rfl) (congrArg Value.bool (nf h2))) rfl ?_
  refine sNext ?_
  refine W.keep (F' := [(110, _), (5, _), (4, _), (3, _)]) ⟨rfl, rfl, rfl, rfl, trivial⟩ ?_
  refine W.cond_false rfl ?_
  refine sSkip ?_
  refine sSeq ?_
  refine W.draw mixed 30 [[], [0], [], [2], [0, 1, 2, 3], [], [5], [], [7], [0, 1, 2, 3, 4, 5, 6, 7, 8], [0, 1, 2, 3, 4, 5, 6, 7, 8, 9], [], [11], [], [13], [0, 1, 2, 3, 4, 5, 6, 7, 8, 9, 10, 11, 12, 13, 14], [], [16], [], [18], [0, 1, 2, 3, 4, 5, 6, 7, 8, 9, 10, 11, 12, 13, 14, 15, 16, 17, 18, 19], [0, 1, 2, 3, 4, 5, 6, 7, 8, 9, 10, 11, 12, 13, 14, 15, 16, 17, 18, 19, 20], [0, 1, 2, 3, 4, 5, 6, 7, 8, 9, 10, 11, 12, 13, 14, 15, 16, 17, 18, 19, 20, 21], [0, 1, 2, 3, 4, 5, 6, 7, 8, 9, 10, 11, 12, 13, 14, 15, 16, 17, 18, 19, 20, 21, 22], [0, 1, 2, 3, 4, 5, 6, 7, 8, 9, 10, 11, 12, 13, 14, 15, 16, 17, 18, 19, 20, 21, 22, 23], [0, 1, 2, 3, 4, 5, 6, 7, 8, 9, 10, 11, 12, 13, 14, 15, 16, 17, 18, 19, 20, 21, 22, 23], [0, 1, 2, 3, 4, 5, 6, 7, 8, 9, 10, 11, 12, 13, 14, 15, 16, 17, 18, 19, 20, 21, 22, 23], [0, 1, 2, 3, 4, 5, 6, 7, 8, 9, 10, 11, 12, 13, 14, 15, 16, 17, 18, 19, 20, 21, 22, 23, 24, 25, 26], [0, 1, 2, 3, 4, 5, 6, 7, 8, 9, 10, 11, 12, 13, 14, 15, 16, 17, 18, 19, 20, 21, 22, 23, 24, 25, 26, 27], [0, 1, 2, 3, 4, 5, 6, 7, 8, 9, 10, 11, 12, 13, 14, 15, 16, 17, 18, 19, 20, 21, 22, 23, 24, 25, 26, 27, 28]] (cl_lt (by decide)) ?_
  refine Head.det rfl (fun β hβ => Det.norm (F' := [(110, _), (5, _), (4, _), (3, _)]) (H' := [(_, _), (_, _), (_, _), (_, _)]) rfl rfl (det_fieldAddr fl30_0 rfl)) ?_
  refine Head.norm (k' := 1) (es' := [.det 111 _]) rfl rfl ?_
  refine Head.det rfl (fun β hβ => Det.norm (F' := [(111, _), (110, _), (5, _), (4, _), (3, _)]) (H' := [(_, _), (_, _), (_, _), (_, _)]) rfl rfl (det_loadA ty28 rfl (List.Mem.tail _ (List.Mem.tail _ (List.Mem.head _))) rfl)) ?_
  refine Head.norm (k' := 2) (es' := [.det 111 _, .det 112 _]) rfl rfl ?_
  refine Head.det rfl (fun β hβ => Det.norm (F' := [(110, _), (5, _), (4, _), (3, _)]) (H' := [(_, _), (_, _), (_, _), (_, _)]) rfl rfl (det_fieldAddr fl30_0 rfl)) ?_
  refine Head.norm (k' := 3) (es' := [.det 111 _, .det 112 _, .det 113 _]) rfl rfl ?_
  refine Head.det rfl (fun β hβ => Det.norm (F' := [(113, _), (110, _), (5, _), (4, _), (3, _)]) (H' := [(_, _), (_, _), (_, _), (_, _)]) rfl rfl (det_loadA ty28 rfl (List.Mem.tail _ (List.Mem.tail _ (List.Mem.tail _ (List.Mem.head _)))) rfl)) ?_
  refine Head.norm (k' := 4) (es' := [.det 111 _, .det 112 _, .det 113 _, .det 114 _]) rfl rfl ?_
  refine Head.det rfl (fun β hβ => Det.norm (F' := [(111, _), (112, _), (113, _), (114, _), (110, _), (5, _), (4, _), (3, _)]) (H' := [(_, _), (_, _), (_, _), (_, _)]) rfl rfl (det_call en67 rfl (fun w hb ho => Sub_ok ho.blocks))) ?_
  refine Head.norm (k' := 5) (es' := [.det 111 _, .det 112 _, .det 113 _, .det 114 _, .det 115 _]) rfl rfl ?_
  refine Head.det rfl (fun β hβ => Det.norm (F' := [(110, _), (5, _), (4, _), (3, _)]) (H' := [(_, _), (_, _), (_, _), (_, _)]) rfl rfl (det_fieldAddr fl30_1 rfl)) ?_
  refine Head.norm (k' := 6) (es' := [.det 111 _, .det 112 _, .det 113 _, .det 114 _, .det 115 _, .det 116 _]) rfl rfl ?_
  refine Head.det rfl (fun β hβ => Det.norm (F' := [(116, _), (110, _), (5, _), (4, _), (3, _)]) (H' := [(_, _), (_, _), (_, _), (_, _)]) rfl rfl (det_loadA ty28 rfl (List.Mem.tail _ (List.Mem.head _)) rfl)) ?_
  refine Head.norm (k' := 7) (es' := [.det 111 _, .det 112 _, .det 113 _, .det 114 _, .det 115 _, .det 116 _, .det 117 _]) rfl rfl ?_
  refine Head.det rfl (fun β hβ => Det.norm (F' := [(110, _), (5, _), (4, _), (3, _)]) (H' := [(_, _), (_, _), (_, _), (_, _)]) rfl rfl (det_fieldAddr fl30_1 rfl)) ?_
  refine Head.norm (k' := 8) (es' := [.det 111 _, .det 112 _, .det 113 _, .det 114 _, .det 115 _, .det 116 _, .det 117 _, .det 118 _]) rfl rfl ?_
  refine Head.det rfl (fun β hβ => Det.norm (F' := [(118, _), (110, _), (5, _), (4, _), (3, _)]) (H' := [(_, _), (_, _), (_, _), (_, _)]) rfl rfl (det_loadA ty28 rfl (List.Mem.tail _ (List.Mem.tail _ (List.Mem.tail _ (List.Mem.head _)))) rfl)) ?_
  refine Head.norm (k' := 9) (es' := [.det 111 _, .det 112 _, .det 113 _, .det 114 _, .det 115 _, .det 116 _, .det 117 _, .det 118 _, .det 119 _]) rfl rfl ?_
  refine Head.det rfl (fun β hβ => Det.norm (F' := [(111, _), (112, _), (113, _), (114, _), (115, _), (116, _), (117, _), (118, _), (119, _), (110, _), (5, _), (4, _), (3, _)]) (H' := [(_, _), (_, _), (_, _), (_, _)]) rfl rfl (det_call en67 rfl (fun w hb ho => Sub_ok ho.blocks))) ?_
  refine Head.norm (k' := 10) (es' := [.det 111 _, .det 112 _, .det 113 _, .det 114 _, .det 115 _, .det 116 _, .det 117 _, .det 118 _, .det 119 _, .det 120 _]) rfl rfl ?_
  refine Head.det rfl (fun β hβ => Det.norm (F' := [(111, _), (112, _), (113, _), (114, _), (115, _), (116, _), (117, _), (118, _), (119, _), (120, _), (110, _), (5, _), (4, _), (3, _)]) (H' := [(_, _), (_, _), (_, _), (_, _)]) rfl rfl (det_call en57 rfl (fun w hb ho => Mul_ok ho.blocks))) ?_
  refine Head.norm (k' := 11) (es' := [.det 111 _, .det 112 _, .det 113 _, .det 114 _, .det 115 _, .det 116 _, .det 117 _, .det 118 _, .det 119 _, .det 120 _, .det 121 _]) rfl rfl ?_
  refine Head.det rfl (fun β hβ => Det.norm (F' := [(110, _), (5, _), (4, _), (3, _)]) (H' := [(_, _), (_, _), (_, _), (_, _)]) rfl rfl (det_fieldAddr fl30_0 rfl)) ?_
  refine Head.norm (k' := 12) (es' := [.det 111 _, .det 112 _, .det 113 _, .det 114 _, .det 115 _, .det 116 _, .det 117 _, .det 118 _, .det 119 _, .det 120 _, .det 121 _, .det 122 _]) rfl rfl ?_
  refine Head.det rfl (fun β hβ => Det.norm (F' := [(122, _), (110, _), (5, _), (4, _), (3, _)]) (H' := [(_, _), (_, _), (_, _), (_, _)]) rfl rfl (det_loadA ty28 rfl (List.Mem.tail _ (List.Mem.head _)) rfl)) ?_
  refine Head.norm (k' := 13) (es' := [.det 111 _, .det 112 _, .det 113 _, .det 114 _, .det 115 _, .det 116 _, .det 117 _, .det 118 _, .det 119 _, .det 120 _, .det 121 _, .det 122 _, .det 123 _]) rfl rfl ?_
  refine Head.det rfl (fun β hβ => Det.norm (F' := [(110, _), (5, _), (4, _), (3, _)]) (H' := [(_, _), (_, _), (_, _), (_, _)]) rfl rfl (det_fieldAddr fl30_0 rfl)) ?_
  refine Head.norm (k' := 14) (es' := [.det 111 _, .det 112 _, .det 113 _, .det 114 _, .det 115 _, .det 116 _, .det 117 _, .det 118 _, .det 119 _, .det 120 _, .det 121 _, .det 122 _, .det 123 _, .det 124 _]) rfl rfl ?_
  refine Head.det rfl (fun β hβ => Det.norm (F' := [(124, _), (110, _), (5, _), (4, _), (3, _)]) (H' := [(_, _), (_, _), (_, _), (_, _)]) rfl rfl (det_loadA ty28 rfl (List.Mem.tail _ (List.Mem.tail _ (List.Mem.tail _ (List.Mem.head _)))) rfl)) ?_
  refine Head.norm (k' := 15) (es' := [.det 111 _, .det 112 _, .det 113 _, .det 114 _, .det 115 _, .det 116 _, .det 117 _, .det 118 _, .det 119 _, .det 120 _, .det 121 _, .det 122 _, .det 123 _, .det 124 _, .det 125 _]) rfl rfl ?_
  refine Head.det rfl (fun β hβ => Det.norm (F' := [(111, _), (112, _), (113, _), (114, _), (115, _), (116, _), (117, _), (118, _), (119, _), (120, _), (121, _), (122, _), (123, _), (124, _), (125, _), (110, _), (5, _), (4, _), (3, _)]) (H' := [(_, _), (_, _), (_, _), (_, _)]) rfl rfl (det_call en67 rfl (fun w hb ho => Sub_ok ho.blocks))) ?_
  refine Head.norm (k' := 16) (es' := [.det 111 _, .det 112 _, .det 113 _, .det 114 _, .det 115 _, .det 116 _, .det 117 _, .det 118 _, .det 119 _, .det 120 _, .det 121 _, .det 122 _, .det 123 _, .det 124 _, .det 125 _, .det 126 _]) rfl rfl ?_
  refine Head.det rfl (fun β hβ => Det.norm (F' := [(110, _), (5, _), (4, _), (3, _)]) (H' := [(_, _), (_, _), (_, _), (_, _)]) rfl rfl (det_fieldAddr fl30_1 rfl)) ?_
  refine Head.norm (k' := 17) (es' := [.det 111 _, .det 112 _, .det 113 _, .det 114 _, .det 115 _, .det 116 _, .det 117 _, .det 118 _, .det 119 _, .det 120 _, .det 121 _, .det 122 _, .det 123 _, .det 124 _, .det 125 _, .det 126 _, .det 127 _]) rfl rfl ?_
  refine Head.det rfl (fun β hβ => Det.norm (F' := [(127, _), (110, _), (5, _), (4, _), (3, _)]) (H' := [(_, _), (_, _), (_, _), (_, _)]) rfl rfl (det_loadA ty28 rfl (List.Mem.tail _ (List.Mem.tail _ (List.Mem.head _))) rfl)) ?_
  refine Head.norm (k' := 18) (es' := [.det 111 _, .det 112 _, .det 113 _, .det 114 _, .det 115 _, .det 116 _, .det 117 _, .det 118 _, .det 119 _, .det 120 _, .det 121 _, .det 122 _, .det 123 _, .det 124 _, .det 125 _, .det 126 _, .det 127 _, .det 128 _]) rfl rfl ?_
  refine Head.det rfl (fun β hβ => Det.norm (F' := [(110, _), (5, _), (4, _), (3, _)]) (H' := [(_, _), (_, _), (_, _), (_, _)]) rfl rfl (det_fieldAddr fl30_1 rfl)) ?_
  refine Head.norm (k' := 19) (es' := [.det 111 _, .det 112 _, .det 113 _, .det 114 _, .det 115 _, .det 116 _, .det 117 _, .det 118 _, .det 119 _, .det 120 _, .det 121 _, .det 122 _, .det 123 _, .det 124 _, .det 125 _, .det 126 _, .det 127 _, .det 128 _, .det 129 _]) rfl rfl ?_
  refine Head.det rfl (fun β hβ => Det.norm (F' := [(129, _), (110, _), (5, _), (4, _), (3, _)]) (H' := [(_, _), (_, _), (_, _), (_, _)]) rfl rfl (det_loadA ty28 rfl (List.Mem.tail _ (List.Mem.tail _ (List.Mem.tail _ (List.Mem.head _)))) rfl)) ?_
  refine Head.norm (k' := 20) (es' := [.det 111 _, .det 112 _, .det 113 _, .det 114 _, .det 115 _, .det 116 _, .det 117 _, .det 118 _, .det 119 _, .det 120 _, .det 121 _, .det 122 _, .det 123 _, .det 124 _, .det 125 _, .det 126 _, .det 127 _, .det 128 _, .det 129 _, .det 130 _]) rfl rfl ?_
  refine Head.det rfl (fun β hβ => Det.norm (F' := [(111, _), (112, _), (113, _), (114, _), (115, _), (116, _), (117, _), (118, _), (119, _), (120, _), (121, _), (122, _), (123, _), (124, _), (125, _), (126, _), (127, _), (128, _), (129, _), (130, _), (110, _), (5, _), (4, _), (3, _)]) (H' := [(_, _), (_, _), (_, _), (_, _)]) rfl rfl (det_call en67 rfl (fun w hb ho => Sub_ok ho.blocks))) ?_
  refine Head.norm (k' := 21) (es' := [.det 111 _, .det 112 _, .det 113 _, .det 114 _, .det 115 _, .det 116 _, .det 117 _, .det 118 _, .det 119 _, .det 120 _, .det 121 _, .det 122 _, .det 123 _, .det 124 _, .det 125 _, .det 126 _, .det 127 _, .det 128 _, .det 129 _, .det 130 _, .det 131 _]) rfl rfl ?_
  refine Head.det rfl (fun β hβ => Det.norm (F' := [(111, _), (112, _), (113, _), (114, _), (115, _), (116, _), (117, _), (118, _), (119, _), (120, _), (121, _), (122, _), (123, _), (124, _), (125, _), (126, _), (127, _), (128, _), (129, _), (130, _), (131, _), (110, _), (5, _), (4, _), (3, _)]) (H' := [(_, _), (_, _), (_, _), (_, _)]) rfl rfl (det_call en57 rfl (fun w hb ho => Mul_ok ho.blocks))) ?_
  refine Head.norm (k' := 22) (es' := [.det 111 _, .det 112 _, .det 113 _, .det 114 _, .det 115 _, .det 116 _, .det 117 _, .det 118 _, .det 119 _, .det 120 _, .det 121 _, .det 122 _, .det 123 _, .det 124 _, .det 125 _, .det 126 _, .det 127 _, .det 128 _, .det 129 _, .det 130 _, .det 131 _, .det 132 _]) rfl rfl ?_
  refine Head.det rfl (fun β hβ => Det.norm (F' := [(111, _), (112, _), (113, _), (114, _), (115, _), (116, _), (117, _), (118, _), (119, _), (120, _), (121, _), (122, _), (123, _), (124, _), (125, _), (126, _), (127, _), (128, _), (129, _), (130, _), (131, _), (132, _), (110, _), (5, _), (4, _), (3, _)]) (H' := [(_, _), (_, _), (_, _), (_, _)]) rfl rfl (Det.to (det_eql28 rfl rfl) (congrArg Value.bool (yb h3)))) ?_
  refine Head.norm (k' := 23) (es' := [.det 111 _, .det 112 _, .det 113 _, .det 114 _, .det 115 _, .det 116 _, .det 117 _, .det 118 _, .det 119 _, .det 120 _, .det 121 _, .det 122 _, .det 123 _, .det 124 _, .det 125 _, .det 126 _, .det 127 _, .det 128 _, .det 129 _, .det 130 _, .det 131 _, .det 132 _, .det 133 _]) rfl rfl ?_
  refine Head.det rfl (fun β hβ => Det.norm (F' := [(111, _), (112, _), (113, _), (114, _), (115, _), (116, _), (117, _), (118, _), (119, _), (120, _), (121, _), (122, _), (123, _), (124, _), (125, _), (126, _), (127, _), (128, _), (129, _), (130, _), (131, _), (132, _), (133, _), (110, _), (5, _), (4, _), (3, _)]) (H' := [(_, _), (_, _), (_, _), (_, _)]) rfl rfl (det_move rfl)) ?_
  refine Head.norm (k' := 24) (es' := [.det 111 _, .det 112 _, .det 113 _, .det 114 _, .det 115 _, .det 116 _, .det 117 _, .det 118 _, .det 119 _, .det 120 _, .det 121 _, .det 122 _, .det 123 _, .det 124 _, .det 125 _, .det 126 _, .det 127 _, .det 128 _, .det 129 _, .det 130 _, .det 131 _, .det 132 _, .det 133 _, .det 134 _]) rfl rfl ?_
  refine Head.yes rfl rfl (fun _ _ => rfl) (fun β hβ => Det.norm (F' := [(111, _), (112, _), (113, _), (114, _), (115, _), (116, _), (117, _), (118, _), (119, _), (120, _), (121, _), (122, _), (123, _), (124, _), (125, _), (126, _), (127, _), (128, _), (129, _), (130, _), (131, _), (132, _), (133, _), (134, _), (110, _), (5, _), (4, _), (3, _)]) (H' := [(_, _), (_, _), (_, _), (_, _)]) rfl rfl (det_loadA ty30 rfl (List.Mem.tail _ (List.Mem.tail _ (List.Mem.tail _ (List.Mem.head _)))) rfl)) ?_
  refine Head.norm (k' := 25) (es' := [.det 111 _, .det 112 _, .det 113 _, .det 114 _, .det 115 _, .det 116 _, .det 117 _, .det 118 _, .det 119 _, .det 120 _, .det 121 _, .det 122 _, .det 123 _, .det 124 _, .det 125 _, .det 126 _, .det 127 _, .det 128 _, .det 129 _, .det 130 _, .det 131 _, .det 132 _, .det 133 _, .det 134 _, .det 135 _]) rfl rfl ?_
  refine Head.yes rfl rfl (fun _ _ => rfl) (fun β hβ => Det.norm (F' := [(111, _), (112, _), (113, _), (114, _), (115, _), (116, _), (117, _), (118, _), (119, _), (120, _), (121, _), (122, _), (123, _), (124, _), (125, _), (126, _), (127, _), (128, _), (129, _), (130, _), (131, _), (132, _), (133, _), (134, _), (110, _), (5, _), (4, _), (3, _)]) (H' := [(_, _), (_, _), (_, _), (_, _)]) rfl rfl (det_loadA ty30 rfl (List.Mem.tail _ (List.Mem.tail _ (List.Mem.head _))) rfl)) ?_
  refine Head.norm (k' := 26) (es' := [.det 111 _, .det 112 _, .det 113 _, .det 114 _, .det 115 _, .det 116 _, .det 117 _, .det 118 _, .det 119 _, .det 120 _, .det 121 _, .det 122 _, .det 123 _, .det 124 _, .det 125 _, .det 126 _, .det 127 _, .det 128 _, .det 129 _, .det 130 _, .det 131 _, .det 132 _, .det 133 _, .det 134 _, .det 135 _, .det 136 _]) rfl rfl ?_
  refine Head.yes rfl rfl (fun _ _ => rfl) (fun β hβ => Det.norm (F' := [(111, _), (112, _), (113, _), (114, _), (115, _), (116, _), (117, _), (118, _), (119, _), (120, _), (121, _), (122, _), (123, _), (124, _), (125, _), (126, _), (127, _), (128, _), (129, _), (130, _), (131, _), (132, _), (133, _), (134, _), (110, _), (5, _), (4, _), (3, _)]) (H' := [(_, _), (_, _), (_, _), (_, _)]) rfl rfl (det_loadA ty30 rfl (List.Mem.tail _ (List.Mem.head _)) rfl)) ?_
  refine Head.norm (k' := 27) (es' := [.det 111 _, .det 112 _, .det 113 _, .det 114 _, .det 115 _, .det 116 _, .det 117 _, .det 118 _, .det 119 _, .det 120 _, .det 121 _, .det 122 _, .det 123 _, .det 124 _, .det 125 _, .det 126 _, .det 127 _, .det 128 _, .det 129 _, .det 130 _, .det 131 _, .det 132 _, .det 133 _, .det 134 _, .det 135 _, .det 136 _, .det 137 _]) rfl rfl ?_
  refine Head.yes rfl rfl (fun _ _ => rfl) (fun β hβ => Det.norm (F' := ((111, _) :: (112, _) :: (113, _) :: (114, _) :: (115, _) :: (116, _) :: (117, _) :: (118, _) :: (119, _) :: (120, _) :: (121, _) :: (122, _) :: (123, _) :: (124, _) :: (125, _) :: (126, _) :: (127, _) :: (128, _) :: (129, _) :: (130, _) :: (131, _) :: (132, _) :: (133, _) :: (134, _) :: (135, _) :: (136, _) :: (137, _) :: (110, _) :: (5, _) :: (4, _) :: (3, _) :: [])) (H' := [(_, _), (_, _), (_, _), (_, _)]) rfl rfl (Det.to (det_call en69 rfl (fun w hb ho => lambda_ok ho.blocks)) (congrArg Value.bool (h4)))) ?_
  refine Head.norm (k' := 28) (es' := [.det 111 _, .det 112 _, .det 113 _, .det 114 _, .det 115 _, .det 116 _, .det 117 _, .det 118 _, .det 119 _, .det 120 _, .det 121 _, .det 122 _, .det 123 _, .det 124 _, .det 125 _, .det 126 _, .det 127 _, .det 128 _, .det 129 _, .det 130 _, .det 131 _, .det 132 _, .det 133 _, .det 134 _, .det 135 _, .det 136 _, .det 137 _, .det 138 _]) rfl rfl ?_
  refine Head.det rfl (fun β hβ => Det.norm (F' := ((111, _) :: (112, _) :: (113, _) :: (114, _) :: (115, _) :: (116, _) :: (117, _) :: (118, _) :: (119, _) :: (120, _) :: (121, _) :: (122, _) :: (123, _) :: (124, _) :: (125, _) :: (126, _) :: (127, _) :: (128, _) :: (129, _) :: (130, _) :: (131, _) :: (132, _) :: (133, _) :: (134, _) :: (135, _) :: (136, _) :: (137, _) :: (138, _) :: (110, _) :: (5, _) :: (4, _) :: (3, _) :: [])) (H' := [(_, _), (_, _), (_, _), (_, _)]) rfl rfl (det_pick rfl rfl)) ?_
  refine Head.norm (k' := 29) (es' := [.det 111 _, .det 112 _, .det 113 _, .det 114 _, .det 115 _, .det 116 _, .det 117 _, .det 118 _, .det 119 _, .det 120 _, .det 121 _, .det 122 _, .det 123 _, .det 124 _, .det 125 _, .det 126 _, .det 127 _, .det 128 _, .det 129 _, .det 130 _, .det 131 _, .det 132 _, .det 133 _, .det 134 _, .det 135 _, .det 136 _, .det 137 _, .det 138 _, .det 139 _]) rfl rfl ?_
  refine Head.det rfl (fun β hβ => Det.norm (F' := ((111, _) :: (112, _) :: (113, _) :: (114, _) :: (115, _) :: (116, _) :: (117, _) :: (118, _) :: (119, _) :: (120, _) :: (121, _) :: (122, _) :: (123, _) :: (124, _) :: (125, _) :: (126, _) :: (127, _) :: (128, _) :: (129, _) :: (130, _) :: (131, _) :: (132, _) :: (133, _) :: (134, _) :: (135, _) :: (136, _) :: (137, _) :: (138, _) :: (139, _) :: (110, _) :: (5, _) :: (4, _) :: (3, _) :: [])) (H' := [(_, _), (_, _), (_, _), (_, _)]) rfl rfl (det_assign rfl)) ?_
  refine Head.norm (k' := 30) (es' := (.det 111 _ :: .det 112 _ :: .det 113 _ :: .det 114 _ :: .det 115 _ :: .det 116 _ :: .det 117 _ :: .det 118 _ :: .det 119 _ :: .det 120 _ :: .det 121 _ :: .det 122 _ :: .det 123 _ :: .det 124 _ :: .det 125 _ :: .det 126 _ :: .det 127 _ :: .det 128 _ :: .det 129 _ :: .det 130 _ :: .det 131 _ :: .det 132 _ :: .det 133 _ :: .det 134 _ :: .det 135 _ :: .det 136 _ :: .det 137 _ :: .det 138 _ :: .det 139 _ :: .det 6 _ :: [])) rfl rfl ?_
  refine Head.done ⟨by kernel_rfl, fun β hβ => ?_⟩
  refine OpsW.norm (F' := ((111, _) :: (112, _) :: (113, _) :: (114, _) :: (115, _) :: (116, _) :: (117, _) :: (118, _) :: (119, _) :: (120, _) :: (121, _) :: (122, _) :: (123, _) :: (124, _) :: (125, _) :: (126, _) :: (127, _) :: (128, _) :: (129, _) :: (130, _) :: (131, _) :: (132, _) :: (133, _) :: (134, _) :: (135, _) :: (136, _) :: (137, _) :: (138, _) :: (139, _) :: (6, _) :: (110, _) :: (5, _) :: (4, _) :: (3, _) :: [])) (H' := [(_, _), (_, _), (_, _), (_, _)]) rfl rfl ?_
  refine sNext ?_
  refine W.keep (F' := [(6, _)]) ⟨rfl, trivial⟩ ?_
  refine sRet ?_
  exact done1 Tryd.results29 (rv_tmp rfl) rfl
theorem wild_ok {n : Nat} (hn : n < 65536) {w : World} (hG : Blocks (GH T) w)  : Vm.Pure Tryd.prog 24 #[.int .u16 (n : Nat)] w (encP (wild n)) := by
  refine pure_of_W (n := 38) (args := [.int .u16 (n : Nat)]) Tryd.func24 rfl Tryd.ntmps24 (Nat.le_of_ble_eq_true rfl) hG ?_
  refine sStart ?_
  refine sSeq ?_
  refine W.region ?_
  refine OpsW.fresh (fr_alloc z30r) rfl fun b2 => ?_
  refine sNext ?_
  refine sSeq ?_
  refine sSeq ?_
  refine W.region ?_
  refine OpsW.det (det_move rfl) rfl ?_
  refine OpsW.det ((det_conv u39 u25 rfl).to (v := u64 n) (by rw [wrap_u64 (by omega)]; rfl)) rfl ?_
  refine OpsW.det (det_assign rfl) rfl ?_
  refine sNext ?_
  refine W.keep (F' := [(3, _), (2, _), (0, _)]) ⟨rfl, rfl, rfl, trivial⟩ ?_
  refine sBlock ?_
  refine sLoop (σ := Nat) (fun k => [(3, u64 k), (2, .pointer (some ⟨b2, 0, none⟩)), (0, .int .u16 (n : Nat))]) (fun k => [(b2, blk (cellsP (0, 0)) 30)]) (fun k => n ≤ k ∧ k ≤ n + 200 ∧ wild n = wfrom (n + 200 - k) k) (fun k => n + 200 - k) n ⟨Nat.le_refl _, Nat.le_add_right _ _, by rw [Nat.add_sub_cancel_left]; rfl⟩ ⟨rfl, rfl, rfl, trivial⟩ (List.Sublist.refl _) ?_
  rintro k ⟨hk1, hk2, hw⟩
  refine sSeq ?_
  refine sSeq ?_
  refine W.region ?_
  refine OpsW.det (det_move rfl) rfl ?_
  refine OpsW.det (det_move rfl) rfl ?_
  refine OpsW.det ((det_conv u39 u25 rfl).to (v := u64 n) (by rw [wrap_u64 (by omega)]; rfl)) rfl ?_
  refine OpsW.det ((det_add (a := (n : Int)) (b := 200) rfl rfl).to (v := u64 (n + 200)) (by rw [wrap_u64 (by omega)]; rfl)) rfl ?_
  refine OpsW.det ((det_lss (a := ((k : Nat) : Int)) (b := ((n + 200 : Nat) : Int)) rfl rfl)) rfl ?_
  refine sNext ?_
  refine W.keep (F' := [(13, _), (3, _), (2, _), (0, _)]) ⟨rfl, rfl, rfl, rfl, trivial⟩ ?_
  refine W.cond rfl (fun hc13 => ?_) (fun hc13 => ?_)
  · skip
    have hlt : k < n + 200 := by have h := hc13; simp only [decide_eq_true_eq] at h; omega
    refine sSkip ?_
    refine sSeq ?_
    refine sBlock ?_
    refine sSeq ?_
    refine W.region ?_
    refine OpsW.det (det_move rfl) rfl ?_
    refine OpsW.det (det_call en59 rfl (fun w hb ho => Of_ok (n := k) (by omega) ho.blocks)) rfl ?_
    refine OpsW.fresh (fr_alloc z28) rfl fun b4 => ?_
    refine OpsW.store sz28 rfl rfl rfl rfl rfl (Upd.here) rfl ?_
    refine sNext ?_
    refine W.keep (F' := [(4, _), (3, _), (2, _), (0, _)]) ⟨rfl, rfl, rfl, rfl, trivial⟩ ?_
    refine sSeq ?_
    refine W.draw mixed 11 [[], [0], [], [0, 1, 2], [0, 1, 2, 3], [0, 1, 2, 3, 4], [0, 1, 2, 3, 4, 5], [0, 1, 2, 3, 4, 5, 6], [0, 1, 2, 3, 4, 5, 6, 7], [0, 1, 2, 3, 4, 5, 6, 7], [], [0, 1, 2, 3, 4, 5, 6, 7, 8, 10], [0, 1, 2, 3, 4, 5, 6, 7, 8, 9, 10, 11]] (cl_lt (by decide)) ?_
    refine Head.det rfl (fun β hβ => Det.norm (F' := [(4, _), (3, _), (2, _), (0, _)]) (H' := [(_, _), (_, _)]) rfl rfl (det_loadA ty28 rfl (List.Mem.head _) rfl)) ?_
    refine Head.norm (k' := 1) (es' := [.det 19 _]) rfl rfl ?_
    refine Head.det rfl (fun β hβ => Det.norm (F' := [(19, _), (4, _), (3, _), (2, _), (0, _)]) (H' := [(_, _), (_, _)]) rfl rfl (det_call en56 rfl (fun w hb ho => Square_ok ho.blocks))) ?_
    refine Head.norm (k' := 2) (es' := [.det 19 _, .det 20 _]) rfl rfl ?_
    refine Head.det rfl (fun β hβ => Det.norm (F' := [(4, _), (3, _), (2, _), (0, _)]) (H' := [(_, _), (_, _)]) rfl rfl (det_loadA ty28 rfl (List.Mem.head _) rfl)) ?_
    refine Head.norm (k' := 3) (es' := [.det 19 _, .det 20 _, .det 21 _]) rfl rfl ?_
    refine Head.det rfl (fun β hβ => Det.norm (F' := [(19, _), (20, _), (21, _), (4, _), (3, _), (2, _), (0, _)]) (H' := [(_, _), (_, _)]) rfl rfl (det_call en57 rfl (fun w hb ho => Mul_ok ho.blocks))) ?_
    refine Head.norm (k' := 4) (es' := [.det 19 _, .det 20 _, .det 21 _, .det 22 _]) rfl rfl ?_
    refine Head.det rfl (fun β hβ => Det.norm (F' := [(19, _), (20, _), (21, _), (22, _), (4, _), (3, _), (2, _), (0, _)]) (H' := [(_, _), (_, _)]) rfl rfl (det_call en59 rfl (fun w hb ho => Of_ok (n := 4) (by decide) ho.blocks))) ?_
    refine Head.norm (k' := 5) (es' := [.det 19 _, .det 20 _, .det 21 _, .det 22 _, .det 23 _]) rfl rfl ?_
    refine Head.det rfl (fun β hβ => Det.norm (F' := [(19, _), (20, _), (21, _), (22, _), (23, _), (4, _), (3, _), (2, _), (0, _)]) (H' := [(_, _), (_, _)]) rfl rfl (det_call en33 rfl (fun w hb ho => Add_ok ho.blocks))) ?_
    refine Head.norm (k' := 6) (es' := [.det 19 _, .det 20 _, .det 21 _, .det 22 _, .det 23 _, .det 24 _]) rfl rfl ?_
    refine Head.det rfl (fun β hβ => Det.norm (F' := [(19, _), (20, _), (21, _), (22, _), (23, _), (24, _), (4, _), (3, _), (2, _), (0, _)]) (H' := [(_, _), (_, _)]) rfl rfl (det_call en60 rfl (fun w hb ho => Sqrt_ok ho.blocks))) ?_
    refine Head.norm (k' := 7) (es' := [.det 19 _, .det 20 _, .det 21 _, .det 22 _, .det 23 _, .det 24 _, .det 25 _]) rfl rfl ?_
    refine Head.det rfl (fun β hβ => Det.norm (F' := [(19, _), (20, _), (21, _), (22, _), (23, _), (24, _), (25, _), (4, _), (3, _), (2, _), (0, _)]) (H' := [(_, _), (_, _)]) rfl rfl (det_move rfl)) ?_
    refine Head.norm (k' := 8) (es' := [.det 19 _, .det 20 _, .det 21 _, .det 22 _, .det 23 _, .det 24 _, .det 25 _, .det 18 _]) rfl rfl ?_
    refine Head.det rfl (fun β hβ => Det.norm (F' := [(19, _), (20, _), (21, _), (22, _), (23, _), (24, _), (25, _), (18, _), (4, _), (3, _), (2, _), (0, _)]) (H' := [(_, _), (_, _)]) rfl rfl (det_extract rfl rfl)) ?_
    refine Head.norm (k' := 9) (es' := [.det 19 _, .det 20 _, .det 21 _, .det 22 _, .det 23 _, .det 24 _, .det 25 _, .det 18 _, .det 26 _]) rfl rfl ?_
    refine Head.flt rfl (fun _ _ _ _ hs => flt_extract hs rfl rfl) ?_
    refine Head.norm (k' := 10) (es' := [.det 19 _, .det 20 _, .det 21 _, .det 22 _, .det 23 _, .det 24 _, .det 25 _, .det 18 _, .det 26 _, .flt 27 _]) rfl rfl ?_
    refine Head.fresh rfl (fun β hβ => New.norm (F' := [(4, _), (3, _), (2, _), (0, _)]) (H' := [(_, _), (_, _)]) rfl rfl (fr_alloc z28).new) ?_
    refine Head.norm (k' := 11) (es' := [.det 19 _, .det 20 _, .det 21 _, .det 22 _, .det 23 _, .det 24 _, .det 25 _, .det 18 _, .det 26 _, .flt 27 _, .fresh 5 _ _ _]) rfl rfl ?_
    refine Head.done ⟨by kernel_rfl, fun β hβ => ?_⟩
    refine OpsW.norm (F' := [(19, _), (20, _), (21, _), (22, _), (23, _), (24, _), (25, _), (18, _), (26, _), (27, _), (5, .pointer (some ⟨(β 5).1, 0, none⟩)), (4, _), (3, _), (2, _), (0, _)]) (H' := [(_, _), (_, _), (_, _)]) rfl rfl ?_
    generalize (β 5).1 = b5
    refine OpsW.store sz28 rfl rfl rfl rfl rfl (Upd.here) rfl ?_
    refine OpsW.det (det_assign rfl) rfl ?_
    refine sNext ?_
    refine W.keep (F' := [(6, _), (5, _), (4, _), (3, _), (2, _), (0, _)]) ⟨rfl, rfl, rfl, rfl, rfl, rfl, trivial⟩ ?_
    refine sSeq ?_
    rcases hb : (sqrtF (Zp.of k * Zp.of k * Zp.of k + Zp.of 4)).2 with _ | _
    · skip
      replace hb : (sqrtF (wcube k)).2 = false := hb
      refine W.region ?_
      refine OpsW.det (det_move rfl) rfl ?_
      refine OpsW.det (det_move rfl) rfl ?_
      refine OpsW.guard_no rfl rfl rfl ?_
      refine OpsW.guard_no rfl rfl rfl ?_
      refine OpsW.guard_no rfl rfl rfl ?_
      refine OpsW.det (det_pick rfl rfl) rfl ?_
      refine sNext ?_
      refine W.keep (F' := [(33, _), (5, _), (4, _), (3, _), (2, _), (0, _)]) ⟨rfl, rfl, rfl, rfl, rfl, rfl, trivial⟩ ?_
      refine W.cond_false rfl ?_
      refine sSkip0 ?_
      refine bNext ?_
      refine W.keep (F' := [(3, _), (2, _), (0, _)]) ⟨rfl, rfl, rfl, trivial⟩ ?_
      refine W.region ?_
      refine OpsW.det (det_move rfl) rfl ?_
      refine OpsW.det ((det_add (a := (k : Int)) (b := 1) rfl rfl).to (v := u64 (k + 1)) (by rw [wrap_u64 (by omega)]; rfl)) rfl ?_
      refine OpsW.det (det_assign rfl) rfl ?_
      refine sLast ?_
      exact rEnd (k + 1) ⟨by omega, by omega, wild_no hlt hw hb⟩ ⟨rfl, rfl, rfl, trivial⟩ (List.Sublist.cons _ (List.Sublist.cons _ (List.Sublist.refl _))) (by omega)
    · skip
      replace hb : (sqrtF (wcube k)).2 = true := hb
      refine W.region ?_
      refine OpsW.det (det_move rfl) rfl ?_
      refine OpsW.det (det_move rfl) rfl ?_
      refine OpsW.guard_yes rfl rfl ?_
      refine OpsW.det (det_loadA ty28 rfl (List.Mem.head _) rfl) rfl ?_
      refine OpsW.guard_yes rfl rfl ?_
      refine OpsW.det (det_call en61 rfl (fun w hb ho => Zero_ok ho.blocks)) rfl ?_
      refine OpsW.guard_yes rfl rfl ?_
      refine OpsW.det (det_not rfl) rfl ?_
      refine OpsW.det (det_pick rfl rfl) rfl ?_
      refine sNext ?_
      refine W.keep (F' := [(33, _), (5, _), (4, _), (3, _), (2, _), (0, _)]) ⟨rfl, rfl, rfl, rfl, rfl, rfl, trivial⟩ ?_
      refine W.cond rfl (fun hc33 => ?_) (fun hc33 => ?_)
      · skip
        refine sSeq ?_
        refine W.region ?_
        refine OpsW.det (det_loadA ty28 rfl (List.Mem.tail _ (List.Mem.head _)) rfl) rfl ?_
        refine OpsW.det (det_loadA ty28 rfl (List.Mem.head _) rfl) rfl ?_
        refine OpsW.det (det_build rfl bld30) rfl ?_
        refine OpsW.store sz30 rfl rfl rfl rfl rfl (Upd.there (Upd.there (Upd.here))) rfl ?_
        refine sNext ?_
        refine W.keep (F' := [(2, _)]) ⟨rfl, trivial⟩ ?_
        refine sRet ?_
        refine retBlk ?_
        refine retLoop ?_
        refine retBlk ?_
        exact done1 Tryd.results24 (rv_cellA ty30 rfl (List.Mem.tail _ (List.Mem.tail _ (List.Mem.head _))) rfl) (congrArg encP (wild_hit hlt hw hb hc33))
      · skip
        refine sSkip0 ?_
        refine bNext ?_
        refine W.keep (F' := [(3, _), (2, _), (0, _)]) ⟨rfl, rfl, rfl, trivial⟩ ?_
        refine W.region ?_
        refine OpsW.det (det_move rfl) rfl ?_
        refine OpsW.det ((det_add (a := (k : Int)) (b := 1) rfl rfl).to (v := u64 (k + 1)) (by rw [wrap_u64 (by omega)]; rfl)) rfl ?_
        refine OpsW.det (det_assign rfl) rfl ?_
        refine sLast ?_
        exact rEnd (k + 1) ⟨by omega, by omega, wild_zero hlt hw hc33⟩ ⟨rfl, rfl, rfl, trivial⟩ (List.Sublist.cons _ (List.Sublist.cons _ (List.Sublist.refl _))) (by omega)
  · skip
    have hge : ¬ k < n + 200 := by have h := hc13; simp only [decide_eq_false_iff_not] at h; omega
    refine sExit ?_
    refine xLoop ?_
    refine xHere ?_
    refine W.keep (F' := [(2, _)]) ⟨rfl, trivial⟩ ?_
    refine sSeq ?_
    refine W.region ?_
    refine OpsW.det (det_zero bz30) rfl ?_
    refine OpsW.store sz30 rfl rfl rfl rfl rfl (Upd.here) rfl ?_
    refine sNext ?_
    refine W.keep (F' := [(2, _)]) ⟨rfl, trivial⟩ ?_
    refine sRet ?_
    exact done1 Tryd.results24 (rv_cellA ty30 rfl (List.Mem.head _) rfl) (congrArg encP (wild_end hge hk2 hw))

end Go.Cu
