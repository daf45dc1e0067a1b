/-
  The first group's field: roots: the walk. Conditions: none.
-/
import Derived.Test.YtndonmbemehefaaDoorFp6
namespace Go.Cu
open Go Go.Vm Go.RowKit Go.Proofs 
attribute [local irreducible] W OpsW Det Fresh New Writes Vm.Pure Makes Changes ExternTo BuildTo ZeroTo FieldTo IndexTo BinTo SliceTo Vm.Enters
set_option linter.unusedVariables false
set_option linter.unusedSimpArgs false
variable {T : Nat → TypeId × Nat × Nat}

def ppe : Nat := pp + 1
def ppq : Nat := (pp + 1) / 4
theorem ppe_words : w6 (sel 0 ppq ppe) = [u64 13402431016077863596, u64 2210141511517208575, u64 7435674573564081700, u64 7239337960414712511, u64 5412103778470702295, u64 1873798617647539866] := by kernel_rfl
theorem or_step {i : Nat} (h : i + 1 < 6) : Value.int .u64 (bitsOf .or .u64 ((lim ppe i / 2 ^ 2 : Nat) : Int) ((lim ppe (i + 1) * 2 ^ 62 % 18446744073709551616 : Nat) : Int)) = u64 (lim ppq i) := by
  have : i = 0 ∨ i = 1 ∨ i = 2 ∨ i = 3 ∨ i = 4 := by omega
  rcases this with rfl | rfl | rfl | rfl | rfl <;> (unfold u64; exact congrArg _ (by decide +kernel))
theorem last_step : lim ppe 5 / 2 ^ 2 = lim ppq 5 := by decide +kernel
def mid (i j : Nat) : Nat := if j = i then lim ppe i / 2 ^ 2 else sel i ppq ppe j
theorem mid_at {i : Nat} : mid i i = lim ppe i / 2 ^ 2 := if_pos rfl
theorem mid_ne {i j : Nat} (h : j ≠ i) : mid i j = sel i ppq ppe j := if_neg h
theorem mid_next {i : Nat} : mid i (i + 1) = lim ppe (i + 1) := by rw [mid_ne (by omega)]; exact if_neg (by omega)
theorem at6 {f : Nat → Nat} {i k : Nat} (h : i < 6) (hk : k = i) : (w6 f)[k]? = some (u64 (f i)) := by
  subst hk
  have : k = 0 ∨ k = 1 ∨ k = 2 ∨ k = 3 ∨ k = 4 ∨ k = 5 := by omega
  rcases this with rfl | rfl | rfl | rfl | rfl | rfl <;> rfl
theorem sel_6 : w6 (sel 6 ppq ppe) = w6 (lim ppq) := by unfold w6 sel; rfl
def root (x : Fq) : Fq := pw x ppq
def sqrtF (x : Fq) : Fq × Bool := if root x * root x = x then (root x, true) else (0, false)
theorem sqrt_no {x : Fq} (h : (!decide (root x * root x = x)) = true) : Value.tuple #[encF 0, .bool false] = .tuple #[encF (sqrtF x).1, .bool (sqrtF x).2] := by
  have h : ¬ root x * root x = x := by simpa using h
  unfold sqrtF; rw [if_neg h]
theorem sqrt_yes {x : Fq} (h : (!decide (root x * root x = x)) = false) : Value.tuple #[encF (root x), .bool true] = .tuple #[encF (sqrtF x).1, .bool (sqrtF x).2] := by
  have h : root x * root x = x := by simpa using h
  unfold sqrtF; rw [if_pos h]
theorem mid_five : w6 (mid 5) = w6 (sel (5 + 1) ppq ppe) := by kernel_rfl
theorem mid_last {i : Nat} (h : i < 6) (h5 : ¬ i + 1 < 6) : w6 (mid i) = w6 (sel (i + 1) ppq ppe) := by
  have : i = 5 := by omega
  subst this
  exact mid_five


theorem Sqrt_ok {x : Fq} {w : World} (hG : Blocks (GH T) w)  : Vm.Pure Tryd.prog 21 #[encF x] w (.tuple #[encF (sqrtF x).1, .bool (sqrtF x).2]) := by
  refine pure_of_W (n := 43) (args := [encF x]) Tryd.func21 rfl Tryd.ntmps21 (Nat.le_of_ble_eq_true rfl) hG ?_
  refine sStart ?_
  refine sSeq ?_
  refine W.region ?_
  refine OpsW.fresh (fr_box rfl rfl) rfl fun b1 => ?_
  refine OpsW.fresh (fr_alloc z29) rfl fun b2 => ?_
  refine OpsW.det (det_assign rfl) rfl ?_
  refine sNext ?_
  refine W.keep (F' := [(2, _), (1, _)]) ⟨rfl, rfl, trivial⟩ ?_
  refine sSeq ?_
  refine W.region ?_
  refine OpsW.det (det_loadA_ro ty27 rfl (List.Mem.tail _ (List.Mem.head _)) rfl) rfl ?_
  refine OpsW.fresh (fr_alloc z27) rfl fun b4 => ?_
  refine OpsW.store sz27 rfl rfl rfl rfl rfl (Upd.here) rfl ?_
  refine sNext ?_
  refine W.keep (F' := [(4, _), (2, _), (1, _)]) ⟨rfl, rfl, rfl, trivial⟩ ?_
  refine sSeq ?_
  refine W.region ?_
  refine OpsW.det (det_indexAddr_arr u27 sz26 rfl rfl ⟨by decide, by decide⟩) rfl ?_
  refine OpsW.det (det_loadC ty26 rfl (List.Mem.head _) rfl) rfl ?_
  refine OpsW.det ((det_add (a := 13402431016077863595) (b := 1) rfl rfl).to (v := u64 13402431016077863596) (by kernel_rfl)) rfl ?_
  refine OpsW.det (det_indexAddr_arr u27 sz26 rfl rfl ⟨by decide, by decide⟩) rfl ?_
  refine OpsW.store sz26 rfl rfl rfl rfl rfl (Upd.here) rfl ?_
  refine sNext ?_
  refine W.keep (F' := [(4, _), (2, _), (1, _)]) ⟨rfl, rfl, rfl, trivial⟩ ?_
  refine sSeq ?_
  refine sSeq ?_
  refine W.region ?_
  refine OpsW.det (det_move rfl) rfl ?_
  refine sNext ?_
  refine sBlock ?_
  refine sLoop (σ := Nat) (fun i => [(12, .int .i64 (i : Nat)), (4, .pointer (some ⟨b4, 0, none⟩)), (2, .pointer (some ⟨b2, 0, none⟩)), (1, .pointer (some ⟨b1, 0, none⟩))]) (fun i => [(b4, blk (w6 (sel i ppq ppe)) 27), (b2, blk [.int .u64 0, .int .u64 0, .int .u64 0, .int .u64 0, .int .u64 0, .int .u64 0] 29), (b1, blk (cellsF x) 29)]) (fun i => i ≤ 6) (fun i => 6 - i) 0 (by decide) ⟨rfl, rfl, rfl, rfl, trivial⟩ (by rw [ppe_words]; exact List.Sublist.refl _) ?_
  intro i hi
  refine sSeq ?_
  refine W.region ?_
  refine OpsW.det (det_lss rfl rfl) rfl ?_
  refine sNext ?_
  refine sSeq ?_
  refine W.cond rfl (fun hc13 => ?_) (fun hc13 => ?_)
  · skip
    have hlt : i < 6 := by have h := hc13; simp only [decide_eq_true_eq] at h; omega
    refine sSkip ?_
    refine sSeq ?_
    refine sBlock ?_
    refine sSeq ?_
    refine W.region ?_
    refine OpsW.det (det_move rfl) rfl ?_
    refine OpsW.det (det_assign rfl) rfl ?_
    refine sNext ?_
    refine W.keep (F' := [(5, _), (12, _), (4, _), (2, _), (1, _)]) ⟨rfl, rfl, rfl, rfl, rfl, trivial⟩ ?_
    refine sSeq ?_
    refine W.region ?_
    refine OpsW.det (det_move rfl) rfl ?_
    refine OpsW.det (det_indexAddr_arr u27 sz26 rfl rfl ⟨by omega, by omega⟩) rfl ?_
    refine OpsW.det ((det_loadC ty26 rfl (List.Mem.head _) (at6 (f := sel i ppq ppe) hlt (by omega))).to (congrArg u64 sel_at)) rfl ?_
    refine OpsW.det (det_shrN (b := 2) rfl rfl (by decide)) rfl ?_
    refine OpsW.det (det_indexAddr_arr u27 sz26 rfl rfl ⟨by omega, by omega⟩) rfl ?_
    refine OpsW.store sz26 rfl rfl rfl rfl rfl (Upd.here) (put6 (f := sel i ppq ppe) (f' := mid i) hlt (by omega) mid_at fun j hj => mid_ne hj) ?_
    refine sNext ?_
    refine W.keep (F' := [(5, _), (12, _), (4, _), (2, _), (1, _)]) ⟨rfl, rfl, rfl, rfl, rfl, trivial⟩ ?_
    refine sSeq ?_
    refine W.region ?_
    refine OpsW.det (det_move rfl) rfl ?_
    refine OpsW.det (det_addN (b := 1) rfl rfl (by omega)) rfl ?_
    refine OpsW.det (det_lss rfl rfl) rfl ?_
    refine sNext ?_
    refine W.keep (F' := [(22, _), (5, _), (12, _), (4, _), (2, _), (1, _)]) ⟨rfl, rfl, rfl, rfl, rfl, rfl, trivial⟩ ?_
    refine W.cond rfl (fun hc22 => ?_) (fun hc22 => ?_)
    · skip
      have hl6 : i + 1 < 6 := by have h := hc22; simp only [decide_eq_true_eq] at h; omega
      refine W.draw mixed 10 [[], [0], [0, 1], [], [3], [3, 4], [3, 4, 5], [3, 4, 5, 6], [0, 1, 2, 3, 4, 5, 6, 7], [0, 1, 2, 3, 4, 5, 6, 7, 8], [0, 1, 2, 3, 4, 5, 6, 7, 8, 9]] (cl_lt (by decide)) ?_
      refine HeadR.start (cl_lt (by decide)) ?_
      refine HeadR.det rfl (fun β hβ => (det_move rfl)) ?_
      refine HeadR.det rfl (fun β hβ => (det_indexAddr_arr u27 sz26 rfl rfl ⟨by omega, by omega⟩)) ?_
      refine HeadR.det rfl (fun β hβ => ((det_loadC ty26 rfl (List.Mem.head _) (at6 (f := mid i) hlt (by omega))).to (congrArg u64 mid_at))) ?_
      refine HeadR.det rfl (fun β hβ => (det_move rfl)) ?_
      refine HeadR.det rfl (fun β hβ => (det_addN (b := 1) rfl rfl (by omega))) ?_
      refine HeadR.det rfl (fun β hβ => (det_indexAddr_arr u27 sz26 rfl rfl ⟨by omega, by omega⟩)) ?_
      refine HeadR.det rfl (fun β hβ => ((det_loadC ty26 rfl (List.Mem.head _) (at6 (f := mid i) (i := i + 1) hl6 (by omega))).to (congrArg u64 mid_next))) ?_
      refine HeadR.det rfl (fun β hβ => (det_shlN (b := 62) rfl rfl (by decide))) ?_
      refine HeadR.det rfl (fun β hβ => ((det_or rfl rfl).to (or_step hl6))) ?_
      refine HeadR.det rfl (fun β hβ => (det_indexAddr_arr u27 sz26 rfl rfl ⟨by omega, by omega⟩)) ?_
      refine HeadR.done ⟨by kernel_rfl, fun β hβ => ?_⟩
      refine OpsW.norm (F' := [(23, _), (24, _), (25, _), (26, _), (27, _), (28, _), (29, _), (30, _), (31, _), (32, _), (22, _), (5, _), (12, _), (4, _), (2, _), (1, _)]) (H' := [(_, _), (_, _), (_, _)]) rfl rfl ?_
      refine OpsW.store sz26 rfl rfl rfl rfl rfl (Upd.here) (put6 (f := mid i) (f' := sel (i + 1) ppq ppe) hlt (by omega) sel_new fun j hj => (sel_old hj).trans (mid_ne hj).symm) ?_
      refine sLast ?_
      refine bNext ?_
      refine W.keep (F' := [(12, _), (4, _), (2, _), (1, _)]) ⟨rfl, rfl, rfl, rfl, trivial⟩ ?_
      refine W.region ?_
      refine OpsW.det (det_addN (b := 1) rfl rfl (by omega)) rfl ?_
      refine OpsW.det (det_move rfl) rfl ?_
      refine sLast ?_
      exact rEnd (i + 1) hlt ⟨rfl, rfl, rfl, rfl, trivial⟩ (List.Sublist.refl _) (step_lt hlt)
    · skip
      have hl6 : ¬ i + 1 < 6 := by have h := hc22; simp only [decide_eq_false_iff_not] at h; omega
      refine sSkip0 ?_
      refine bNext ?_
      refine W.keep (F' := [(12, _), (4, _), (2, _), (1, _)]) ⟨rfl, rfl, rfl, rfl, trivial⟩ ?_
      refine W.region ?_
      refine OpsW.det (det_addN (b := 1) rfl rfl (by omega)) rfl ?_
      refine OpsW.det (det_move rfl) rfl ?_
      refine sLast ?_
      exact rEnd (i + 1) hlt ⟨rfl, rfl, rfl, rfl, trivial⟩ (by rw [← mid_last hlt hl6]; exact List.Sublist.refl _) (step_lt hlt)
  · skip
    have hi6 : i = 6 := by have h := hc13; simp only [decide_eq_false_iff_not] at h; omega
    subst hi6
    refine sExit ?_
    refine xLoop ?_
    refine xHere ?_
    refine W.keep (F' := [(4, _), (2, _), (1, _)]) ⟨rfl, rfl, rfl, trivial⟩ ?_
    refine sSeq ?_
    refine W.norm (F' := _) (H' := [(b4, blk (w6 (lim ppq)) 27), (_, _), (_, _)]) rfl (by rw [sel_6]) ?_
    refine W.region ?_
    refine OpsW.det (det_loadA ty29 rfl (List.Mem.tail _ (List.Mem.tail _ (List.Mem.head _))) rfl) rfl ?_
    refine OpsW.det (det_loadA ty27 rfl (List.Mem.head _) rfl) rfl ?_
    refine OpsW.det (det_call en60 rfl (fun w hb ho => power_ok (x := x) (E := ppq) (by decide) ho.blocks)) rfl ?_
    refine OpsW.fresh (fr_alloc z29) rfl fun b6 => ?_
    refine OpsW.store sz29 rfl rfl rfl rfl rfl (Upd.here) rfl ?_
    refine sNext ?_
    refine W.keep (F' := [(6, _), (2, _), (1, _)]) ⟨rfl, rfl, rfl, trivial⟩ ?_
    refine sSeq ?_
    refine sSeq ?_
    refine W.draw mixed 4 [[], [0], [], [0, 1, 2]] (cl_lt (by decide)) ?_
    refine HeadR.start (cl_lt (by decide)) ?_
    refine HeadR.det rfl (fun β hβ => (det_loadA ty29 rfl (List.Mem.head _) rfl)) ?_
    refine HeadR.det rfl (fun β hβ => (det_call en16 rfl (fun w hb ho => Cu.Square_ok ho.blocks))) ?_
    refine HeadR.det rfl (fun β hβ => (det_loadA ty29 rfl (List.Mem.tail _ (List.Mem.tail _ (List.Mem.tail _ (List.Mem.head _)))) rfl)) ?_
    refine HeadR.det rfl (fun β hβ => (det_neq29 rfl rfl)) ?_
    refine HeadR.done ⟨by kernel_rfl, fun β hβ => ?_⟩
    refine OpsW.norm (F' := [(37, _), (38, _), (39, _), (40, _), (6, _), (2, _), (1, _)]) (H' := [(_, _), (_, _), (_, _), (_, _)]) rfl rfl ?_
    refine sNext ?_
    refine W.keep (F' := [(40, _), (6, _), (2, _)]) ⟨rfl, rfl, rfl, trivial⟩ ?_
    refine W.cond rfl (fun hc40 => ?_) (fun hc40 => ?_)
    · skip
      refine sSeq ?_
      refine W.region ?_
      refine OpsW.det (det_zero bz29) rfl ?_
      refine OpsW.store sz29 rfl rfl rfl rfl rfl (Upd.there (Upd.there (Upd.here))) rfl ?_
      refine OpsW.det (det_assign rfl) rfl ?_
      refine sNext ?_
      refine W.keep (F' := [(3, _), (2, _)]) ⟨rfl, rfl, trivial⟩ ?_
      refine sRet ?_
      exact done2 Tryd.results21 (rv_cellA ty29 rfl (List.Mem.tail _ (List.Mem.tail _ (List.Mem.head _))) rfl) (rv_tmp rfl) (sqrt_no hc40)
    · skip
      refine sSkip ?_
      refine sSeq ?_
      refine W.region ?_
      refine OpsW.det (det_loadA ty29 rfl (List.Mem.head _) rfl) rfl ?_
      refine OpsW.store sz29 rfl rfl rfl rfl rfl (Upd.there (Upd.there (Upd.here))) rfl ?_
      refine OpsW.det (det_assign rfl) rfl ?_
      refine sNext ?_
      refine W.keep (F' := [(3, _), (2, _)]) ⟨rfl, rfl, trivial⟩ ?_
      refine sRet ?_
      exact done2 Tryd.results21 (rv_cellA ty29 rfl (List.Mem.tail _ (List.Mem.tail _ (List.Mem.head _))) rfl) (rv_tmp rfl) (sqrt_yes hc40)
theorem en21 : Vm.Enters Tryd.prog 21 := Vm.Enters.of fun _ _ => by kernel_rfl

end Go.Cu
