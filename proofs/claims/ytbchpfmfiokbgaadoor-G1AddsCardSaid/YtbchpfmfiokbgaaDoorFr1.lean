/-
  The scalars: sums and differences: the walks. Conditions: numbers below the order.
-/
import Derived.Test.YtbchpfmfiokbgaaDoorFp4
import Derived.Test.YtbchpfmfiokbgaaDoorLimb
namespace Go.Cu
open Go Go.Vm Go.RowKit Go.Proofs 
attribute [local irreducible] W OpsW Det Fresh New Writes Vm.Pure Makes Changes ExternTo BuildTo ZeroTo FieldTo IndexTo BinTo SliceTo Vm.Enters
set_option linter.unusedVariables false
set_option linter.unusedSimpArgs false
variable {T : Nat → TypeId × Nat × Nat}

theorem rlo_mod {v : Nat} (h : v < rr) : v % rr = v := Nat.mod_eq_of_lt h
theorem rhi_mod {v : Nat} (h : rr ≤ v) (h2 : v < 2 * rr) : v % rr = v - rr := by rw [Nat.mod_eq_sub_mod h, Nat.mod_eq_of_lt (by omega)]
theorem enc4_congr {m k : Nat} (h : ∀ j, j < 4 → lim m j = lim k j) : enc4 m = enc4 k := by
  unfold enc4; rw [h 0 (by decide), h 1 (by decide), h 2 (by decide), h 3 (by decide)]
theorem sub_w4 {f g : Nat → Nat} {n t : Nat} {r : Hp} (h : ∀ j, j < 4 → f j = g j) : List.Sublist ((n, blk (w4 f) t) :: r) ((n, blk (w4 g) t) :: r) := by rw [w4_congr h]; exact List.Sublist.refl _
theorem bor_4 {m k : Nat} (hm : m < R4) (hk : k < R4) : bor 4 m k = if m < k then 1 else 0 := by
  unfold bor; rw [R4_pow, Nat.mod_eq_of_lt hm, Nat.mod_eq_of_lt hk]
theorem car_4 {m k : Nat} (hm : m < rr) (hk : k < rr) : car 4 m k = 0 := by
  have h1 : m < R4 := Nat.lt_trans hm (by decide)
  have h2 : k < R4 := Nat.lt_trans hk (by decide)
  unfold car; rw [R4_pow, Nat.mod_eq_of_lt h1, Nat.mod_eq_of_lt h2]
  exact Nat.div_eq_of_lt (by unfold rr at hm hk; unfold R4; omega)
theorem z4_w4 : ([.int .u64 0, .int .u64 0, .int .u64 0, .int .u64 0] : List Value) = w4 (sel 0 0 0) := by kernel_rfl
theorem big4 {m j : Nat} (h : j < 4) : lim (m + R4) j = lim m j := by rw [← R4_pow]; exact lim_big h
theorem red_lo {V : Nat} (h : bor 4 V rr = 1) (hV : V < 2 * rr) : V % rr = V := by
  rw [bor_4 (Nat.lt_trans hV (by decide)) (by decide)] at h
  refine rlo_mod ?_
  by_cases hh : V < rr
  · exact hh
  · rw [if_neg hh] at h; cases h
theorem red_hi {V D : Nat} (hD : D + rr = V + R4) (h : bor 4 V rr ≠ 1) (hV : V < 2 * rr) : enc4 D = enc4 (V % rr) := by
  rw [bor_4 (Nat.lt_trans hV (by decide)) (by decide)] at h
  have hh : rr ≤ V := by
    rcases Nat.lt_or_ge V rr with hl | hl
    · rw [if_pos hl] at h; exact absurd rfl h
    · exact hl
  rw [rhi_mod hh hV, show D = (V - rr) + R4 by omega]
  exact enc4_congr fun j hj => big4 hj
theorem sub_pair4 {i m k D : Nat} (h : i < 4) (hD : D + k = m + R4) (hm : m < R4) :
    Value.tuple #[u64 ((lim m i + 18446744073709551616 - lim k i - bor i m k) % 18446744073709551616), u64 (if lim m i < lim k i + bor i m k then 1 else 0)] = .tuple #[u64 (lim D i), u64 (bor (i + 1) m k)] := by
  have h1 := sub_pair (i := i) (n := 4) (m := m) (k := k) h (by rw [R4_pow]; omega) (by rw [R4_pow]; exact hm)
  rwa [R4_pow, show m + R4 - k = D by omega] at h1
theorem add_pairE {m k S : Nat} (hS : S = m + k) (i : Nat) : Value.tuple #[u64 ((lim m i + lim k i + car i m k) % 18446744073709551616), u64 ((lim m i + lim k i + car i m k) / 18446744073709551616)] = .tuple #[u64 (lim S i), u64 (car (i + 1) m k)] := by
  rw [hS]; exact add_pair i m k
theorem sel_full {s m : Nat} : ∀ j, j < 4 → sel 4 s m j = lim s j := fun j hj => if_pos hj

theorem rsub_hi {m k D : Nat} (hD : D + k = m + R4) (h : bor 4 m k ≠ 1) (hm : m < rr) (hk : k < rr) : enc4 D = enc4 ((m + (rr - k)) % rr) := by
  rw [bor_4 (Nat.lt_trans hm (by decide)) (Nat.lt_trans hk (by decide))] at h
  have hh : k ≤ m := by
    rcases Nat.lt_or_ge m k with hl | hl
    · rw [if_pos hl] at h; exact absurd rfl h
    · exact hl
  rw [rhi_mod (by omega) (by omega), show D = (m + (rr - k) - rr) + R4 by omega]
  exact enc4_congr fun j hj => big4 hj
theorem rsub_lo {m k D E : Nat} (hD : D + k = m + R4) (hE : E = D + rr) (h : bor 4 m k = 1) (hm : m < rr) (hk : k < rr) : enc4 E = enc4 ((m + (rr - k)) % rr) := by
  rw [bor_4 (Nat.lt_trans hm (by decide)) (Nat.lt_trans hk (by decide))] at h
  have hh : m < k := by
    rcases Nat.lt_or_ge m k with hl | hl
    · exact hl
    · rw [if_neg (by omega)] at h; cases h
  have h4 : rr < R4 := by decide
  rw [rlo_mod (by omega), show E = (m + (rr - k)) + R4 by omega]
  exact enc4_congr fun j hj => big4 hj

theorem bld35 {v0 v1 v2 v3 : Int} : BuildTo Tryd.prog 35 [(0, (.agg #[.int .u64 v0, .int .u64 v1, .int .u64 v2, .int .u64 v3]))] (.agg #[.int .u64 v0, .int .u64 v1, .int .u64 v2, .int .u64 v3]) := BuildTo.of fun _ => by kernel_rfl
theorem en66 : Vm.Enters Tryd.prog 66 := Vm.Enters.of fun _ _ => by kernel_rfl
theorem fl35_0 : TyF Tryd.prog 35 0 0 4 := ⟨⟨33, by kernel_rfl, by kernel_rfl⟩, by decide⟩
theorem sz33 : sizeIn Tryd.prog 33 = some 4 := by kernel_rfl
theorem sz35 : sizeIn Tryd.prog 35 = some 4 := by kernel_rfl
theorem ty33 : TyA Tryd.prog 33 4 := ⟨by kernel_rfl, by kernel_rfl⟩
theorem ty35 : TyA Tryd.prog 35 4 := ⟨by kernel_rfl, by kernel_rfl⟩
theorem u33 : Tryd.prog.underlying 33 = some (.array 4 25) := by kernel_rfl
theorem z33 : TyZ Tryd.prog 33 (.agg #[.int .u64 0, .int .u64 0, .int .u64 0, .int .u64 0]) [.int .u64 0, .int .u64 0, .int .u64 0, .int .u64 0] := ⟨fun _ => by kernel_rfl, by kernel_rfl⟩
theorem z35 : TyZ Tryd.prog 35 (.agg #[.int .u64 0, .int .u64 0, .int .u64 0, .int .u64 0]) [.int .u64 0, .int .u64 0, .int .u64 0, .int .u64 0] := ⟨fun _ => by kernel_rfl, by kernel_rfl⟩
theorem rreduce_w_ok {V D : Nat} (hD : D + rr = V + R4) (hV : V < 2 * rr) {w : World} (hG : Blocks (GH T) w)  : Vm.Pure Tryd.prog 66 #[.agg #[u64 (lim (V) 0), u64 (lim (V) 1), u64 (lim (V) 2), u64 (lim (V) 3)], u64 0] w (enc4 (V % rr)) := by
  refine pure_of_W (n := 33) (args := [.agg #[u64 (lim (V) 0), u64 (lim (V) 1), u64 (lim (V) 2), u64 (lim (V) 3)], u64 0]) Tryd.func66 rfl Tryd.ntmps66 (Nat.le_of_ble_eq_true rfl) hG ?_
  refine sStart ?_
  refine sSeq ?_
  refine W.region ?_
  refine OpsW.fresh (fr_box rfl rfl) rfl fun b2 => ?_
  refine OpsW.fresh (fr_alloc z33) rfl fun b4 => ?_
  refine sNext ?_
  refine W.keep (F' := [(4, _), (2, _), (1, _)]) ⟨rfl, rfl, rfl, trivial⟩ ?_
  refine sSeq ?_
  refine W.region ?_
  refine OpsW.fresh (fr_alloc z33) rfl fun b5 => ?_
  refine sNext ?_
  refine sSeq ?_
  refine W.region ?_
  refine OpsW.det (det_assign rfl) rfl ?_
  refine sNext ?_
  refine sSeq ?_
  refine sSeq ?_
  refine W.region ?_
  refine OpsW.det (det_move rfl) rfl ?_
  refine sNext ?_
  refine sBlock ?_
  refine sLoop (σ := Nat) (fun i => [(8, .int .i64 (i : Nat)), (6, u64 (bor i V rr)), (5, .pointer (some ⟨b5, 0, none⟩)), (4, .pointer (some ⟨b4, 0, none⟩)), (2, .pointer (some ⟨b2, 0, none⟩)), (1, u64 0)]) (fun i => [(b5, blk (w4 (sel i D 0)) 33), (b4, blk [.int .u64 0, .int .u64 0, .int .u64 0, .int .u64 0] 33), (b2, blk (w4 (lim V)) 33)]) (fun i => i ≤ 4) (fun i => 4 - i) 0 (by decide) ⟨rfl, by rw [bor_0]; rfl, rfl, rfl, rfl, rfl, trivial⟩ (List.Sublist.refl _) ?_
  intro i hi
  refine sSeq ?_
  refine W.region ?_
  refine OpsW.det (det_lss rfl rfl) rfl ?_
  refine sNext ?_
  refine sSeq ?_
  refine W.cond rfl (fun hc9 => ?_) (fun hc9 => ?_)
  · skip
    have hlt : i < 4 := by have h := hc9; simp only [decide_eq_true_eq] at h; omega
    refine sSkip ?_
    refine sSeq ?_
    refine sBlock ?_
    refine sSeq ?_
    refine W.region ?_
    refine OpsW.det (det_move rfl) rfl ?_
    refine OpsW.det (det_assign rfl) rfl ?_
    refine sNext ?_
    refine W.keep (F' := [(7, _), (8, _), (6, _), (5, _), (4, _), (2, _), (1, _)]) ⟨rfl, rfl, rfl, rfl, rfl, rfl, rfl, trivial⟩ ?_
    refine W.draw mixed 13 [[], [], [1], [1, 2], [], [4], [4, 5], [], [1, 2, 3, 4, 5, 6, 7], [1, 2, 3, 4, 5, 6, 7, 8], [1, 2, 3, 4, 5, 6, 7, 8, 9], [1, 2, 3, 4, 5, 6, 7, 8, 9], [0, 1, 2, 3, 4, 5, 6, 7, 8, 9, 10], [0, 1, 2, 3, 4, 5, 6, 7, 8, 9, 10, 12], [0, 1, 2, 3, 4, 5, 6, 7, 8, 9, 10, 11, 12, 13]] (cl_lt (by decide)) ?_
    refine Head.det rfl (fun β hβ => Det.norm (F' := [(7, _), (8, _), (6, _), (5, _), (4, _), (2, _), (1, _)]) (H' := [(_, _), (_, _), (_, _)]) rfl rfl (det_move rfl)) ?_
    refine Head.norm (k' := 1) (es' := [.det 12 _]) rfl rfl ?_
    refine Head.det rfl (fun β hβ => Det.norm (F' := [(7, _), (8, _), (6, _), (5, _), (4, _), (2, _), (1, _)]) (H' := [(_, _), (_, _), (_, _)]) rfl rfl (det_move rfl)) ?_
    refine Head.norm (k' := 2) (es' := [.det 12 _, .det 13 _]) rfl rfl ?_
    refine Head.det rfl (fun β hβ => Det.norm (F' := [(13, _), (7, _), (8, _), (6, _), (5, _), (4, _), (2, _), (1, _)]) (H' := [(_, _), (_, _), (_, _)]) rfl rfl (det_indexAddr_arr u33 sz25 rfl rfl ⟨by omega, by omega⟩)) ?_
    refine Head.norm (k' := 3) (es' := [.det 12 _, .det 13 _, .det 14 _]) rfl rfl ?_
    refine Head.det rfl (fun β hβ => Det.norm (F' := [(13, _), (14, _), (7, _), (8, _), (6, _), (5, _), (4, _), (2, _), (1, _)]) (H' := [(_, _), (_, _), (_, _)]) rfl rfl (det_loadC ty25 rfl (List.Mem.tail _ (List.Mem.tail _ (List.Mem.head _))) (at4 (f := lim V) hlt (by omega)))) ?_
    refine Head.norm (k' := 4) (es' := [.det 12 _, .det 13 _, .det 14 _, .det 15 _]) rfl rfl ?_
    refine Head.det rfl (fun β hβ => Det.norm (F' := [(7, _), (8, _), (6, _), (5, _), (4, _), (2, _), (1, _)]) (H' := [(_, _), (_, _), (_, _)]) rfl rfl (det_move rfl)) ?_
    refine Head.norm (k' := 5) (es' := [.det 12 _, .det 13 _, .det 14 _, .det 15 _, .det 16 _]) rfl rfl ?_
    refine Head.det rfl (fun β hβ => Det.norm (F' := [(16, _), (7, _), (8, _), (6, _), (5, _), (4, _), (2, _), (1, _)]) (H' := [(_, _), (_, _), (_, _)]) rfl rfl (det_indexAddr_arr u33 sz25 rfl rfl ⟨by omega, by omega⟩)) ?_
    refine Head.norm (k' := 6) (es' := [.det 12 _, .det 13 _, .det 14 _, .det 15 _, .det 16 _, .det 17 _]) rfl rfl ?_
    refine Head.det rfl (fun β hβ => Det.norm (F' := [(16, _), (17, _), (7, _), (8, _), (6, _), (5, _), (4, _), (2, _), (1, _)]) (H' := [(_, _), (_, _), (_, _)]) rfl rfl (det_loadC_ro ty25 rfl (List.Mem.tail _ (List.Mem.tail _ (List.Mem.tail _ (List.Mem.head _)))) (at4 (f := lim rr) hlt (by omega)))) ?_
    refine Head.norm (k' := 7) (es' := [.det 12 _, .det 13 _, .det 14 _, .det 15 _, .det 16 _, .det 17 _, .det 18 _]) rfl rfl ?_
    refine Head.det rfl (fun β hβ => Det.norm (F' := [(7, _), (8, _), (6, _), (5, _), (4, _), (2, _), (1, _)]) (H' := [(_, _), (_, _), (_, _)]) rfl rfl (det_move rfl)) ?_
    refine Head.norm (k' := 8) (es' := [.det 12 _, .det 13 _, .det 14 _, .det 15 _, .det 16 _, .det 17 _, .det 18 _, .det 19 _]) rfl rfl ?_
    refine Head.det rfl (fun β hβ => Det.norm (F' := [(13, _), (14, _), (15, _), (16, _), (17, _), (18, _), (19, _), (7, _), (8, _), (6, _), (5, _), (4, _), (2, _), (1, _)]) (H' := [(_, _), (_, _), (_, _)]) rfl rfl ((det_extern rfl (run_Sub64 (lim V i) (lim rr i) (bor i V rr) (bor_le _ _ _))).to (sub_pair4 hlt hD (Nat.lt_trans hV (by decide))))) ?_
    refine Head.norm (k' := 9) (es' := [.det 12 _, .det 13 _, .det 14 _, .det 15 _, .det 16 _, .det 17 _, .det 18 _, .det 19 _, .det 20 _]) rfl rfl ?_
    refine Head.det rfl (fun β hβ => Det.norm (F' := [(13, _), (14, _), (15, _), (16, _), (17, _), (18, _), (19, _), (20, _), (7, _), (8, _), (6, _), (5, _), (4, _), (2, _), (1, _)]) (H' := [(_, _), (_, _), (_, _)]) rfl rfl (det_move rfl)) ?_
    refine Head.norm (k' := 10) (es' := [.det 12 _, .det 13 _, .det 14 _, .det 15 _, .det 16 _, .det 17 _, .det 18 _, .det 19 _, .det 20 _, .det 11 _]) rfl rfl ?_
    refine Head.det rfl (fun β hβ => Det.norm (F' := [(13, _), (14, _), (15, _), (16, _), (17, _), (18, _), (19, _), (20, _), (11, _), (7, _), (8, _), (6, _), (5, _), (4, _), (2, _), (1, _)]) (H' := [(_, _), (_, _), (_, _)]) rfl rfl (det_extract rfl rfl)) ?_
    refine Head.norm (k' := 11) (es' := [.det 12 _, .det 13 _, .det 14 _, .det 15 _, .det 16 _, .det 17 _, .det 18 _, .det 19 _, .det 20 _, .det 11 _, .det 21 _]) rfl rfl ?_
    refine Head.flt rfl (fun _ _ _ _ hs => flt_extract hs rfl rfl) ?_
    refine Head.norm (k' := 12) (es' := [.det 12 _, .det 13 _, .det 14 _, .det 15 _, .det 16 _, .det 17 _, .det 18 _, .det 19 _, .det 20 _, .det 11 _, .det 21 _, .flt 22 _]) rfl rfl ?_
    refine Head.det rfl (fun β hβ => Det.norm (F' := [(12, _), (13, _), (14, _), (15, _), (16, _), (17, _), (18, _), (19, _), (20, _), (11, _), (21, _), (7, _), (8, _), (6, _), (5, _), (4, _), (2, _), (1, _)]) (H' := [(_, _), (_, _), (_, _)]) rfl rfl (det_indexAddr_arr u33 sz25 rfl rfl ⟨by omega, by omega⟩)) ?_
    refine Head.norm (k' := 13) (es' := [.det 12 _, .det 13 _, .det 14 _, .det 15 _, .det 16 _, .det 17 _, .det 18 _, .det 19 _, .det 20 _, .det 11 _, .det 21 _, .flt 22 _, .det 23 _]) rfl rfl ?_
    refine Head.done ⟨by kernel_rfl, fun β hβ => ?_⟩
    refine OpsW.norm (F' := [(12, _), (13, _), (14, _), (15, _), (16, _), (17, _), (18, _), (19, _), (20, _), (11, _), (21, _), (22, _), (23, _), (7, _), (8, _), (6, _), (5, _), (4, _), (2, _), (1, _)]) (H' := [(_, _), (_, _), (_, _)]) rfl rfl ?_
    refine OpsW.store sz25 rfl rfl rfl rfl rfl (Upd.here) (put4 (f' := sel (i + 1) D 0) hlt (by omega) sel_new fun j hj => sel_old hj) ?_
    refine OpsW.det (det_assign rfl) rfl ?_
    refine sLast ?_
    refine bNext ?_
    refine W.keep (F' := [(6, _), (8, _), (5, _), (4, _), (2, _), (1, _)]) ⟨rfl, rfl, rfl, rfl, rfl, rfl, trivial⟩ ?_
    refine W.region ?_
    refine OpsW.det (det_addN (b := 1) rfl rfl (idx_ok hlt (by decide))) rfl ?_
    refine OpsW.det (det_move rfl) rfl ?_
    refine sLast ?_
    exact rEnd (i + 1) hlt ⟨rfl, rfl, rfl, rfl, rfl, rfl, trivial⟩ (List.Sublist.refl _) (step_lt hlt)
  · skip
    have hi4 : i = 4 := by have h := hc9; simp only [decide_eq_false_iff_not] at h; omega
    subst hi4
    refine sExit ?_
    refine xLoop ?_
    refine xHere ?_
    refine W.keep (F' := [(6, _), (5, _), (4, _), (2, _), (1, _)]) ⟨rfl, rfl, rfl, rfl, rfl, trivial⟩ ?_
    refine sSeq ?_
    refine sSeq ?_
    refine W.region ?_
    refine OpsW.det (det_move rfl) rfl ?_
    refine OpsW.det (det_eql rfl rfl) rfl ?_
    refine OpsW.det (det_move rfl) rfl ?_
    refine OpsW.guard_yes rfl rfl ?_
    refine OpsW.det (det_move rfl) rfl ?_
    refine OpsW.guard_yes rfl rfl ?_
    refine OpsW.det (det_eql rfl rfl) rfl ?_
    refine OpsW.det (det_pick rfl rfl) rfl ?_
    refine sNext ?_
    refine W.keep (F' := [(30, _), (5, _), (4, _), (2, _)]) ⟨rfl, rfl, rfl, rfl, trivial⟩ ?_
    refine W.cond rfl (fun hc30 => ?_) (fun hc30 => ?_)
    · skip
      have hb : bor 4 V rr = 1 := by have h := hc30; simp at h; omega
      refine sSeq ?_
      refine W.region ?_
      refine OpsW.det (det_loadA ty33 rfl (List.Mem.tail _ (List.Mem.tail _ (List.Mem.head _))) rfl) rfl ?_
      refine OpsW.store sz33 rfl rfl rfl rfl rfl (Upd.there (Upd.here)) rfl ?_
      refine sNext ?_
      refine W.keep (F' := [(4, _)]) ⟨rfl, trivial⟩ ?_
      refine sRet ?_
      exact done1 Tryd.results66 (rv_cellA ty33 rfl (List.Mem.tail _ (List.Mem.head _)) rfl) (congrArg enc4 (red_lo hb hV).symm)
    · skip
      have hb : bor 4 V rr ≠ 1 := by have h := hc30; simp at h; omega
      refine sSkip ?_
      refine sSeq ?_
      refine W.region ?_
      refine OpsW.det (det_loadA ty33 rfl (List.Mem.head _) rfl) rfl ?_
      refine OpsW.store sz33 rfl rfl rfl rfl rfl (Upd.there (Upd.here)) rfl ?_
      refine sNext ?_
      refine W.keep (F' := [(4, _)]) ⟨rfl, trivial⟩ ?_
      refine sRet ?_
      exact done1 Tryd.results66 (rv_cellA ty33 rfl (List.Mem.tail _ (List.Mem.head _)) rfl) ((congrArg (fun l : List Value => Value.agg l.toArray) (w4_congr sel_full)).trans (red_hi hD hb hV))
theorem rreduce_ok {V : Nat} {w : World} (hV : V < 2 * rr) (hG : Blocks (GH T) w) : Vm.Pure Tryd.prog 66 #[.agg #[u64 (lim (V) 0), u64 (lim (V) 1), u64 (lim (V) 2), u64 (lim (V) 3)], u64 0] w (enc4 (V % rr)) := rreduce_w_ok (D := V + R4 - rr) (Nat.sub_add_cancel (Nat.le_trans (by decide) (Nat.le_add_left R4 V))) hV hG
theorem RAdd_w_ok {m k S : Nat} (hS : S = m + k) (hm : m < rr) (hk : k < rr) {w : World} (hG : Blocks (GH T) w)  : Vm.Pure Tryd.prog 28 #[.agg #[u64 (lim (m) 0), u64 (lim (m) 1), u64 (lim (m) 2), u64 (lim (m) 3)], .agg #[u64 (lim (k) 0), u64 (lim (k) 1), u64 (lim (k) 2), u64 (lim (k) 3)]] w (enc4 (S % rr)) := by
  refine pure_of_W (n := 32) (args := [.agg #[u64 (lim (m) 0), u64 (lim (m) 1), u64 (lim (m) 2), u64 (lim (m) 3)], .agg #[u64 (lim (k) 0), u64 (lim (k) 1), u64 (lim (k) 2), u64 (lim (k) 3)]]) Tryd.func28 rfl Tryd.ntmps28 (Nat.le_of_ble_eq_true rfl) hG ?_
  refine sStart ?_
  refine sSeq ?_
  refine W.region ?_
  refine OpsW.fresh (fr_box rfl rfl) rfl fun b2 => ?_
  refine OpsW.fresh (fr_box rfl rfl) rfl fun b3 => ?_
  refine OpsW.fresh (fr_alloc z35) rfl fun b4 => ?_
  refine sNext ?_
  refine W.keep (F' := [(4, _), (3, _), (2, _)]) ⟨rfl, rfl, rfl, trivial⟩ ?_
  refine sSeq ?_
  refine W.region ?_
  refine OpsW.det (det_assign rfl) rfl ?_
  refine sNext ?_
  refine sSeq ?_
  refine sSeq ?_
  refine W.region ?_
  refine OpsW.det (det_move rfl) rfl ?_
  refine sNext ?_
  refine sBlock ?_
  refine sLoop (σ := Nat) (fun i => [(7, .int .i64 (i : Nat)), (5, u64 (car i m k)), (4, .pointer (some ⟨b4, 0, none⟩)), (3, .pointer (some ⟨b3, 0, none⟩)), (2, .pointer (some ⟨b2, 0, none⟩))]) (fun i => [(b4, blk [.int .u64 0, .int .u64 0, .int .u64 0, .int .u64 0] 35), (b3, blk (w4 (lim k)) 35), (b2, blk (w4 (sel i S m)) 35)]) (fun i => i ≤ 4) (fun i => 4 - i) 0 (by decide) ⟨rfl, by rw [car_0]; rfl, rfl, rfl, rfl, trivial⟩ (List.Sublist.refl _) ?_
  intro i hi
  refine sSeq ?_
  refine W.region ?_
  refine OpsW.det (det_lss rfl rfl) rfl ?_
  refine sNext ?_
  refine sSeq ?_
  refine W.cond rfl (fun hc8 => ?_) (fun hc8 => ?_)
  · skip
    have hlt : i < 4 := by have h := hc8; simp only [decide_eq_true_eq] at h; omega
    refine sSkip ?_
    refine sSeq ?_
    refine sBlock ?_
    refine sSeq ?_
    refine W.region ?_
    refine OpsW.det (det_move rfl) rfl ?_
    refine OpsW.det (det_assign rfl) rfl ?_
    refine sNext ?_
    refine W.keep (F' := [(6, _), (7, _), (5, _), (4, _), (3, _), (2, _)]) ⟨rfl, rfl, rfl, rfl, rfl, rfl, trivial⟩ ?_
    refine W.draw mixed 16 [[], [], [], [1, 2], [1, 2, 3], [], [], [5, 6], [5, 6, 7], [], [1, 2, 3, 4, 5, 6, 7, 8, 9], [1, 2, 3, 4, 5, 6, 7, 8, 9, 10], [1, 2, 3, 4, 5, 6, 7, 8, 9, 10, 11], [1, 2, 3, 4, 5, 6, 7, 8, 9, 10, 11], [], [0, 1, 2, 3, 4, 5, 6, 7, 8, 9, 10, 11, 12, 14], [0, 1, 2, 3, 4, 5, 6, 7, 8, 9, 10, 11, 12, 14, 15], [0, 1, 2, 3, 4, 5, 6, 7, 8, 9, 10, 11, 12, 13, 14, 15, 16]] (cl_lt (by decide)) ?_
    refine Head.det rfl (fun β hβ => Det.norm (F' := [(6, _), (7, _), (5, _), (4, _), (3, _), (2, _)]) (H' := [(_, _), (_, _), (_, _)]) rfl rfl (det_move rfl)) ?_
    refine Head.norm (k' := 1) (es' := [.det 11 _]) rfl rfl ?_
    refine Head.det rfl (fun β hβ => Det.norm (F' := [(6, _), (7, _), (5, _), (4, _), (3, _), (2, _)]) (H' := [(_, _), (_, _), (_, _)]) rfl rfl (det_move rfl)) ?_
    refine Head.norm (k' := 2) (es' := [.det 11 _, .det 12 _]) rfl rfl ?_
    refine Head.det rfl (fun β hβ => Det.norm (F' := [(6, _), (7, _), (5, _), (4, _), (3, _), (2, _)]) (H' := [(_, _), (_, _), (_, _)]) rfl rfl (det_fieldAddr fl35_0 rfl)) ?_
    refine Head.norm (k' := 3) (es' := [.det 11 _, .det 12 _, .det 13 _]) rfl rfl ?_
    refine Head.det rfl (fun β hβ => Det.norm (F' := [(12, _), (13, _), (6, _), (7, _), (5, _), (4, _), (3, _), (2, _)]) (H' := [(_, _), (_, _), (_, _)]) rfl rfl (det_indexAddr_arr u33 sz25 rfl rfl ⟨by omega, by omega⟩)) ?_
    refine Head.norm (k' := 4) (es' := [.det 11 _, .det 12 _, .det 13 _, .det 14 _]) rfl rfl ?_
    refine Head.det rfl (fun β hβ => Det.norm (F' := [(12, _), (13, _), (14, _), (6, _), (7, _), (5, _), (4, _), (3, _), (2, _)]) (H' := [(_, _), (_, _), (_, _)]) rfl rfl ((det_loadC ty25 rfl (List.Mem.tail _ (List.Mem.tail _ (List.Mem.head _))) (at4 (f := sel i S m) hlt (by omega))).to (congrArg u64 sel_at))) ?_
    refine Head.norm (k' := 5) (es' := [.det 11 _, .det 12 _, .det 13 _, .det 14 _, .det 15 _]) rfl rfl ?_
    refine Head.det rfl (fun β hβ => Det.norm (F' := [(6, _), (7, _), (5, _), (4, _), (3, _), (2, _)]) (H' := [(_, _), (_, _), (_, _)]) rfl rfl (det_move rfl)) ?_
    refine Head.norm (k' := 6) (es' := [.det 11 _, .det 12 _, .det 13 _, .det 14 _, .det 15 _, .det 16 _]) rfl rfl ?_
    refine Head.det rfl (fun β hβ => Det.norm (F' := [(6, _), (7, _), (5, _), (4, _), (3, _), (2, _)]) (H' := [(_, _), (_, _), (_, _)]) rfl rfl (det_fieldAddr fl35_0 rfl)) ?_
    refine Head.norm (k' := 7) (es' := [.det 11 _, .det 12 _, .det 13 _, .det 14 _, .det 15 _, .det 16 _, .det 17 _]) rfl rfl ?_
    refine Head.det rfl (fun β hβ => Det.norm (F' := [(16, _), (17, _), (6, _), (7, _), (5, _), (4, _), (3, _), (2, _)]) (H' := [(_, _), (_, _), (_, _)]) rfl rfl (det_indexAddr_arr u33 sz25 rfl rfl ⟨by omega, by omega⟩)) ?_
    refine Head.norm (k' := 8) (es' := [.det 11 _, .det 12 _, .det 13 _, .det 14 _, .det 15 _, .det 16 _, .det 17 _, .det 18 _]) rfl rfl ?_
    refine Head.det rfl (fun β hβ => Det.norm (F' := [(16, _), (17, _), (18, _), (6, _), (7, _), (5, _), (4, _), (3, _), (2, _)]) (H' := [(_, _), (_, _), (_, _)]) rfl rfl (det_loadC ty25 rfl (List.Mem.tail _ (List.Mem.head _)) (at4 (f := lim k) hlt (by omega)))) ?_
    refine Head.norm (k' := 9) (es' := [.det 11 _, .det 12 _, .det 13 _, .det 14 _, .det 15 _, .det 16 _, .det 17 _, .det 18 _, .det 19 _]) rfl rfl ?_
    refine Head.det rfl (fun β hβ => Det.norm (F' := [(6, _), (7, _), (5, _), (4, _), (3, _), (2, _)]) (H' := [(_, _), (_, _), (_, _)]) rfl rfl (det_move rfl)) ?_
    refine Head.norm (k' := 10) (es' := [.det 11 _, .det 12 _, .det 13 _, .det 14 _, .det 15 _, .det 16 _, .det 17 _, .det 18 _, .det 19 _, .det 20 _]) rfl rfl ?_
    refine Head.det rfl (fun β hβ => Det.norm (F' := [(12, _), (13, _), (14, _), (15, _), (16, _), (17, _), (18, _), (19, _), (20, _), (6, _), (7, _), (5, _), (4, _), (3, _), (2, _)]) (H' := [(_, _), (_, _), (_, _)]) rfl rfl ((det_extern rfl (run_Add64 (lim m i) (lim k i) (car i m k) (car_le _ _ _))).to (add_pairE hS i))) ?_
    refine Head.norm (k' := 11) (es' := [.det 11 _, .det 12 _, .det 13 _, .det 14 _, .det 15 _, .det 16 _, .det 17 _, .det 18 _, .det 19 _, .det 20 _, .det 21 _]) rfl rfl ?_
    refine Head.det rfl (fun β hβ => Det.norm (F' := [(12, _), (13, _), (14, _), (15, _), (16, _), (17, _), (18, _), (19, _), (20, _), (21, _), (6, _), (7, _), (5, _), (4, _), (3, _), (2, _)]) (H' := [(_, _), (_, _), (_, _)]) rfl rfl (det_move rfl)) ?_
    refine Head.norm (k' := 12) (es' := [.det 11 _, .det 12 _, .det 13 _, .det 14 _, .det 15 _, .det 16 _, .det 17 _, .det 18 _, .det 19 _, .det 20 _, .det 21 _, .det 10 _]) rfl rfl ?_
    refine Head.det rfl (fun β hβ => Det.norm (F' := [(12, _), (13, _), (14, _), (15, _), (16, _), (17, _), (18, _), (19, _), (20, _), (21, _), (10, _), (6, _), (7, _), (5, _), (4, _), (3, _), (2, _)]) (H' := [(_, _), (_, _), (_, _)]) rfl rfl (det_extract rfl rfl)) ?_
    refine Head.norm (k' := 13) (es' := [.det 11 _, .det 12 _, .det 13 _, .det 14 _, .det 15 _, .det 16 _, .det 17 _, .det 18 _, .det 19 _, .det 20 _, .det 21 _, .det 10 _, .det 22 _]) rfl rfl ?_
    refine Head.flt rfl (fun _ _ _ _ hs => flt_extract hs rfl rfl) ?_
    refine Head.norm (k' := 14) (es' := [.det 11 _, .det 12 _, .det 13 _, .det 14 _, .det 15 _, .det 16 _, .det 17 _, .det 18 _, .det 19 _, .det 20 _, .det 21 _, .det 10 _, .det 22 _, .flt 23 _]) rfl rfl ?_
    refine Head.det rfl (fun β hβ => Det.norm (F' := [(6, _), (7, _), (5, _), (4, _), (3, _), (2, _)]) (H' := [(_, _), (_, _), (_, _)]) rfl rfl (det_fieldAddr fl35_0 rfl)) ?_
    refine Head.norm (k' := 15) (es' := [.det 11 _, .det 12 _, .det 13 _, .det 14 _, .det 15 _, .det 16 _, .det 17 _, .det 18 _, .det 19 _, .det 20 _, .det 21 _, .det 10 _, .det 22 _, .flt 23 _, .det 24 _]) rfl rfl ?_
    refine Head.det rfl (fun β hβ => Det.norm (F' := [(11, _), (12, _), (13, _), (14, _), (15, _), (16, _), (17, _), (18, _), (19, _), (20, _), (21, _), (10, _), (22, _), (24, _), (6, _), (7, _), (5, _), (4, _), (3, _), (2, _)]) (H' := [(_, _), (_, _), (_, _)]) rfl rfl (det_indexAddr_arr u33 sz25 rfl rfl ⟨by omega, by omega⟩)) ?_
    refine Head.norm (k' := 16) (es' := [.det 11 _, .det 12 _, .det 13 _, .det 14 _, .det 15 _, .det 16 _, .det 17 _, .det 18 _, .det 19 _, .det 20 _, .det 21 _, .det 10 _, .det 22 _, .flt 23 _, .det 24 _, .det 25 _]) rfl rfl ?_
    refine Head.done ⟨by kernel_rfl, fun β hβ => ?_⟩
    refine OpsW.norm (F' := [(11, _), (12, _), (13, _), (14, _), (15, _), (16, _), (17, _), (18, _), (19, _), (20, _), (21, _), (10, _), (22, _), (23, _), (24, _), (25, _), (6, _), (7, _), (5, _), (4, _), (3, _), (2, _)]) (H' := [(_, _), (_, _), (_, _)]) rfl rfl ?_
    refine OpsW.store sz25 rfl rfl rfl rfl rfl (Upd.there (Upd.there (Upd.here))) (put4 (f' := sel (i + 1) S m) hlt (by omega) sel_new fun j hj => sel_old hj) ?_
    refine OpsW.det (det_assign rfl) rfl ?_
    refine sLast ?_
    refine bNext ?_
    refine W.keep (F' := [(5, _), (7, _), (4, _), (3, _), (2, _)]) ⟨rfl, rfl, rfl, rfl, rfl, trivial⟩ ?_
    refine W.region ?_
    refine OpsW.det (det_addN (b := 1) rfl rfl (idx_ok hlt (by decide))) rfl ?_
    refine OpsW.det (det_move rfl) rfl ?_
    refine sLast ?_
    exact rEnd (i + 1) hlt ⟨rfl, rfl, rfl, rfl, rfl, trivial⟩ (List.Sublist.refl _) (step_lt hlt)
  · skip
    have hi4 : i = 4 := by have h := hc8; simp only [decide_eq_false_iff_not] at h; omega
    subst hi4
    refine sExit ?_
    refine xLoop ?_
    refine xHere ?_
    refine W.keep (F' := [(5, _), (4, _), (2, _)]) ⟨rfl, rfl, rfl, trivial⟩ ?_
    refine sSeq ?_
    refine W.norm (F' := [(5, u64 0), (4, _), (2, _)]) (H' := [(_, _), (_, _), (b2, blk (w4 (lim S)) 35)]) (by rw [car_4 hm hk]) (by rw [w4_congr sel_full]) ?_
    refine W.region ?_
    refine OpsW.det (det_fieldAddr fl35_0 rfl) rfl ?_
    refine OpsW.det (det_loadA ty33 rfl (List.Mem.tail _ (List.Mem.tail _ (List.Mem.head _))) rfl) rfl ?_
    refine OpsW.det (det_move rfl) rfl ?_
    refine OpsW.det (det_call en66 rfl (fun w hb ho => rreduce_ok (V := S) (by omega) ho.blocks)) rfl ?_
    refine OpsW.det (det_build rfl bld35) rfl ?_
    refine OpsW.store sz35 rfl rfl rfl rfl rfl (Upd.here) rfl ?_
    refine sNext ?_
    refine W.keep (F' := [(4, _)]) ⟨rfl, trivial⟩ ?_
    refine sRet ?_
    exact done1 Tryd.results28 (rv_cellA ty35 rfl (List.Mem.head _) rfl) rfl
theorem RSub_w_ok {m k D E : Nat} (hD : D + k = m + R4) (hE : E = D + rr) (hm : m < rr) (hk : k < rr) {w : World} (hG : Blocks (GH T) w)  : Vm.Pure Tryd.prog 64 #[.agg #[u64 (lim (m) 0), u64 (lim (m) 1), u64 (lim (m) 2), u64 (lim (m) 3)], .agg #[u64 (lim (k) 0), u64 (lim (k) 1), u64 (lim (k) 2), u64 (lim (k) 3)]] w (enc4 ((m + (rr - k)) % rr)) := by
  refine pure_of_W (n := 51) (args := [.agg #[u64 (lim (m) 0), u64 (lim (m) 1), u64 (lim (m) 2), u64 (lim (m) 3)], .agg #[u64 (lim (k) 0), u64 (lim (k) 1), u64 (lim (k) 2), u64 (lim (k) 3)]]) Tryd.func64 rfl Tryd.ntmps64 (Nat.le_of_ble_eq_true rfl) hG ?_
  refine sStart ?_
  refine sSeq ?_
  refine W.region ?_
  refine OpsW.fresh (fr_box rfl rfl) rfl fun b2 => ?_
  refine OpsW.fresh (fr_box rfl rfl) rfl fun b3 => ?_
  refine OpsW.fresh (fr_alloc z35) rfl fun b4 => ?_
  refine sNext ?_
  refine W.keep (F' := [(4, _), (3, _), (2, _)]) ⟨rfl, rfl, rfl, trivial⟩ ?_
  refine sSeq ?_
  refine W.region ?_
  refine OpsW.det (det_assign rfl) rfl ?_
  refine OpsW.det (det_assign rfl) rfl ?_
  refine sNext ?_
  refine sSeq ?_
  refine sSeq ?_
  refine W.region ?_
  refine OpsW.det (det_move rfl) rfl ?_
  refine sNext ?_
  refine sBlock ?_
  refine sLoop (σ := Nat) (fun i => [(9, .int .i64 (i : Nat)), (6, u64 0), (5, u64 (bor i m k)), (4, .pointer (some ⟨b4, 0, none⟩)), (3, .pointer (some ⟨b3, 0, none⟩)), (2, .pointer (some ⟨b2, 0, none⟩))]) (fun i => [(b4, blk [.int .u64 0, .int .u64 0, .int .u64 0, .int .u64 0] 35), (b3, blk (w4 (lim k)) 35), (b2, blk (w4 (sel i D m)) 35)]) (fun i => i ≤ 4) (fun i => 4 - i) 0 (by decide) ⟨rfl, rfl, by rw [bor_0]; rfl, rfl, rfl, rfl, trivial⟩ (List.Sublist.refl _) ?_
  intro i hi
  refine sSeq ?_
  refine W.region ?_
  refine OpsW.det (det_lss rfl rfl) rfl ?_
  refine sNext ?_
  refine sSeq ?_
  refine W.cond rfl (fun hc10 => ?_) (fun hc10 => ?_)
  · skip
    have hlt : i < 4 := by have h := hc10; simp only [decide_eq_true_eq] at h; omega
    refine sSkip ?_
    refine sSeq ?_
    refine sBlock ?_
    refine sSeq ?_
    refine W.region ?_
    refine OpsW.det (det_move rfl) rfl ?_
    refine OpsW.det (det_assign rfl) rfl ?_
    refine sNext ?_
    refine W.keep (F' := [(7, _), (9, _), (6, _), (5, _), (4, _), (3, _), (2, _)]) ⟨rfl, rfl, rfl, rfl, rfl, rfl, rfl, trivial⟩ ?_
    refine W.draw mixed 16 [[], [], [], [1, 2], [1, 2, 3], [], [], [5, 6], [5, 6, 7], [], [1, 2, 3, 4, 5, 6, 7, 8, 9], [1, 2, 3, 4, 5, 6, 7, 8, 9, 10], [1, 2, 3, 4, 5, 6, 7, 8, 9, 10, 11], [1, 2, 3, 4, 5, 6, 7, 8, 9, 10, 11], [], [0, 1, 2, 3, 4, 5, 6, 7, 8, 9, 10, 11, 12, 14], [0, 1, 2, 3, 4, 5, 6, 7, 8, 9, 10, 11, 12, 14, 15], [0, 1, 2, 3, 4, 5, 6, 7, 8, 9, 10, 11, 12, 13, 14, 15, 16]] (cl_lt (by decide)) ?_
    refine Head.det rfl (fun β hβ => Det.norm (F' := [(7, _), (9, _), (6, _), (5, _), (4, _), (3, _), (2, _)]) (H' := [(_, _), (_, _), (_, _)]) rfl rfl (det_move rfl)) ?_
    refine Head.norm (k' := 1) (es' := [.det 13 _]) rfl rfl ?_
    refine Head.det rfl (fun β hβ => Det.norm (F' := [(7, _), (9, _), (6, _), (5, _), (4, _), (3, _), (2, _)]) (H' := [(_, _), (_, _), (_, _)]) rfl rfl (det_move rfl)) ?_
    refine Head.norm (k' := 2) (es' := [.det 13 _, .det 14 _]) rfl rfl ?_
    refine Head.det rfl (fun β hβ => Det.norm (F' := [(7, _), (9, _), (6, _), (5, _), (4, _), (3, _), (2, _)]) (H' := [(_, _), (_, _), (_, _)]) rfl rfl (det_fieldAddr fl35_0 rfl)) ?_
    refine Head.norm (k' := 3) (es' := [.det 13 _, .det 14 _, .det 15 _]) rfl rfl ?_
    refine Head.det rfl (fun β hβ => Det.norm (F' := [(14, _), (15, _), (7, _), (9, _), (6, _), (5, _), (4, _), (3, _), (2, _)]) (H' := [(_, _), (_, _), (_, _)]) rfl rfl (det_indexAddr_arr u33 sz25 rfl rfl ⟨by omega, by omega⟩)) ?_
    refine Head.norm (k' := 4) (es' := [.det 13 _, .det 14 _, .det 15 _, .det 16 _]) rfl rfl ?_
    refine Head.det rfl (fun β hβ => Det.norm (F' := [(14, _), (15, _), (16, _), (7, _), (9, _), (6, _), (5, _), (4, _), (3, _), (2, _)]) (H' := [(_, _), (_, _), (_, _)]) rfl rfl ((det_loadC ty25 rfl (List.Mem.tail _ (List.Mem.tail _ (List.Mem.head _))) (at4 (f := sel i D m) hlt (by omega))).to (congrArg u64 sel_at))) ?_
    refine Head.norm (k' := 5) (es' := [.det 13 _, .det 14 _, .det 15 _, .det 16 _, .det 17 _]) rfl rfl ?_
    refine Head.det rfl (fun β hβ => Det.norm (F' := [(7, _), (9, _), (6, _), (5, _), (4, _), (3, _), (2, _)]) (H' := [(_, _), (_, _), (_, _)]) rfl rfl (det_move rfl)) ?_
    refine Head.norm (k' := 6) (es' := [.det 13 _, .det 14 _, .det 15 _, .det 16 _, .det 17 _, .det 18 _]) rfl rfl ?_
    refine Head.det rfl (fun β hβ => Det.norm (F' := [(7, _), (9, _), (6, _), (5, _), (4, _), (3, _), (2, _)]) (H' := [(_, _), (_, _), (_, _)]) rfl rfl (det_fieldAddr fl35_0 rfl)) ?_
    refine Head.norm (k' := 7) (es' := [.det 13 _, .det 14 _, .det 15 _, .det 16 _, .det 17 _, .det 18 _, .det 19 _]) rfl rfl ?_
    refine Head.det rfl (fun β hβ => Det.norm (F' := [(18, _), (19, _), (7, _), (9, _), (6, _), (5, _), (4, _), (3, _), (2, _)]) (H' := [(_, _), (_, _), (_, _)]) rfl rfl (det_indexAddr_arr u33 sz25 rfl rfl ⟨by omega, by omega⟩)) ?_
    refine Head.norm (k' := 8) (es' := [.det 13 _, .det 14 _, .det 15 _, .det 16 _, .det 17 _, .det 18 _, .det 19 _, .det 20 _]) rfl rfl ?_
    refine Head.det rfl (fun β hβ => Det.norm (F' := [(18, _), (19, _), (20, _), (7, _), (9, _), (6, _), (5, _), (4, _), (3, _), (2, _)]) (H' := [(_, _), (_, _), (_, _)]) rfl rfl (det_loadC ty25 rfl (List.Mem.tail _ (List.Mem.head _)) (at4 (f := lim k) hlt (by omega)))) ?_
    refine Head.norm (k' := 9) (es' := [.det 13 _, .det 14 _, .det 15 _, .det 16 _, .det 17 _, .det 18 _, .det 19 _, .det 20 _, .det 21 _]) rfl rfl ?_
    refine Head.det rfl (fun β hβ => Det.norm (F' := [(7, _), (9, _), (6, _), (5, _), (4, _), (3, _), (2, _)]) (H' := [(_, _), (_, _), (_, _)]) rfl rfl (det_move rfl)) ?_
    refine Head.norm (k' := 10) (es' := [.det 13 _, .det 14 _, .det 15 _, .det 16 _, .det 17 _, .det 18 _, .det 19 _, .det 20 _, .det 21 _, .det 22 _]) rfl rfl ?_
    refine Head.det rfl (fun β hβ => Det.norm (F' := [(14, _), (15, _), (16, _), (17, _), (18, _), (19, _), (20, _), (21, _), (22, _), (7, _), (9, _), (6, _), (5, _), (4, _), (3, _), (2, _)]) (H' := [(_, _), (_, _), (_, _)]) rfl rfl ((det_extern rfl (run_Sub64 (lim m i) (lim k i) (bor i m k) (bor_le _ _ _))).to (sub_pair4 hlt hD (Nat.lt_trans hm (by decide))))) ?_
    refine Head.norm (k' := 11) (es' := [.det 13 _, .det 14 _, .det 15 _, .det 16 _, .det 17 _, .det 18 _, .det 19 _, .det 20 _, .det 21 _, .det 22 _, .det 23 _]) rfl rfl ?_
    refine Head.det rfl (fun β hβ => Det.norm (F' := [(14, _), (15, _), (16, _), (17, _), (18, _), (19, _), (20, _), (21, _), (22, _), (23, _), (7, _), (9, _), (6, _), (5, _), (4, _), (3, _), (2, _)]) (H' := [(_, _), (_, _), (_, _)]) rfl rfl (det_move rfl)) ?_
    refine Head.norm (k' := 12) (es' := [.det 13 _, .det 14 _, .det 15 _, .det 16 _, .det 17 _, .det 18 _, .det 19 _, .det 20 _, .det 21 _, .det 22 _, .det 23 _, .det 12 _]) rfl rfl ?_
    refine Head.det rfl (fun β hβ => Det.norm (F' := [(14, _), (15, _), (16, _), (17, _), (18, _), (19, _), (20, _), (21, _), (22, _), (23, _), (12, _), (7, _), (9, _), (6, _), (5, _), (4, _), (3, _), (2, _)]) (H' := [(_, _), (_, _), (_, _)]) rfl rfl (det_extract rfl rfl)) ?_
    refine Head.norm (k' := 13) (es' := [.det 13 _, .det 14 _, .det 15 _, .det 16 _, .det 17 _, .det 18 _, .det 19 _, .det 20 _, .det 21 _, .det 22 _, .det 23 _, .det 12 _, .det 24 _]) rfl rfl ?_
    refine Head.flt rfl (fun _ _ _ _ hs => flt_extract hs rfl rfl) ?_
    refine Head.norm (k' := 14) (es' := [.det 13 _, .det 14 _, .det 15 _, .det 16 _, .det 17 _, .det 18 _, .det 19 _, .det 20 _, .det 21 _, .det 22 _, .det 23 _, .det 12 _, .det 24 _, .flt 25 _]) rfl rfl ?_
    refine Head.det rfl (fun β hβ => Det.norm (F' := [(7, _), (9, _), (6, _), (5, _), (4, _), (3, _), (2, _)]) (H' := [(_, _), (_, _), (_, _)]) rfl rfl (det_fieldAddr fl35_0 rfl)) ?_
    refine Head.norm (k' := 15) (es' := [.det 13 _, .det 14 _, .det 15 _, .det 16 _, .det 17 _, .det 18 _, .det 19 _, .det 20 _, .det 21 _, .det 22 _, .det 23 _, .det 12 _, .det 24 _, .flt 25 _, .det 26 _]) rfl rfl ?_
    refine Head.det rfl (fun β hβ => Det.norm (F' := [(13, _), (14, _), (15, _), (16, _), (17, _), (18, _), (19, _), (20, _), (21, _), (22, _), (23, _), (12, _), (24, _), (26, _), (7, _), (9, _), (6, _), (5, _), (4, _), (3, _), (2, _)]) (H' := [(_, _), (_, _), (_, _)]) rfl rfl (det_indexAddr_arr u33 sz25 rfl rfl ⟨by omega, by omega⟩)) ?_
    refine Head.norm (k' := 16) (es' := [.det 13 _, .det 14 _, .det 15 _, .det 16 _, .det 17 _, .det 18 _, .det 19 _, .det 20 _, .det 21 _, .det 22 _, .det 23 _, .det 12 _, .det 24 _, .flt 25 _, .det 26 _, .det 27 _]) rfl rfl ?_
    refine Head.done ⟨by kernel_rfl, fun β hβ => ?_⟩
    refine OpsW.norm (F' := [(13, _), (14, _), (15, _), (16, _), (17, _), (18, _), (19, _), (20, _), (21, _), (22, _), (23, _), (12, _), (24, _), (25, _), (26, _), (27, _), (7, _), (9, _), (6, _), (5, _), (4, _), (3, _), (2, _)]) (H' := [(_, _), (_, _), (_, _)]) rfl rfl ?_
    refine OpsW.store sz25 rfl rfl rfl rfl rfl (Upd.there (Upd.there (Upd.here))) (put4 (f' := sel (i + 1) D m) hlt (by omega) sel_new fun j hj => sel_old hj) ?_
    refine OpsW.det (det_assign rfl) rfl ?_
    refine sLast ?_
    refine bNext ?_
    refine W.keep (F' := [(5, _), (9, _), (6, _), (4, _), (3, _), (2, _)]) ⟨rfl, rfl, rfl, rfl, rfl, rfl, trivial⟩ ?_
    refine W.region ?_
    refine OpsW.det (det_addN (b := 1) rfl rfl (idx_ok hlt (by decide))) rfl ?_
    refine OpsW.det (det_move rfl) rfl ?_
    refine sLast ?_
    exact rEnd (i + 1) hlt ⟨rfl, rfl, rfl, rfl, rfl, rfl, trivial⟩ (List.Sublist.refl _) (step_lt hlt)
  · skip
    have hi4 : i = 4 := by have h := hc10; simp only [decide_eq_false_iff_not] at h; omega
    subst hi4
    refine sExit ?_
    refine xLoop ?_
    refine xHere ?_
    refine W.keep (F' := [(6, _), (5, _), (4, _), (2, _)]) ⟨rfl, rfl, rfl, rfl, trivial⟩ ?_
    refine sSeq ?_
    refine sSeq ?_
    refine W.norm (F' := [(6, u64 0), (5, _), (4, _), (2, _)]) (H' := [(_, _), (_, _), (b2, blk (w4 (lim D)) 35)]) rfl (by rw [w4_congr sel_full]) ?_
    refine W.region ?_
    refine OpsW.det (det_move rfl) rfl ?_
    refine OpsW.det (det_eql rfl rfl) rfl ?_
    refine sNext ?_
    refine W.keep (F' := [(30, _), (6, _), (4, _), (2, _)]) ⟨rfl, rfl, rfl, rfl, trivial⟩ ?_
    refine W.cond rfl (fun hc30 => ?_) (fun hc30 => ?_)
    · skip
      have hb : bor 4 m k = 1 := by have h := hc30; simp at h; omega
      refine sSeq ?_
      refine W.region ?_
      refine OpsW.det (det_move rfl) rfl ?_
      refine sNext ?_
      refine W.keep (F' := [(31, _), (6, _), (4, _), (2, _)]) ⟨rfl, rfl, rfl, rfl, trivial⟩ ?_
      refine sBlock ?_
      refine sLoop (σ := Nat) (fun i => [(31, .int .i64 (i : Nat)), (6, u64 (car i D rr)), (4, .pointer (some ⟨b4, 0, none⟩)), (2, .pointer (some ⟨b2, 0, none⟩))]) (fun i => [(b4, blk [.int .u64 0, .int .u64 0, .int .u64 0, .int .u64 0] 35), (b3, blk (w4 (lim k)) 35), (b2, blk (w4 (sel i E D)) 35)]) (fun i => i ≤ 4) (fun i => 4 - i) 0 (by decide) ⟨rfl, by rw [car_0]; rfl, rfl, rfl, trivial⟩ (List.Sublist.refl _) ?_
      intro i hi
      refine sSeq ?_
      refine W.region ?_
      refine OpsW.det (det_lss rfl rfl) rfl ?_
      refine sNext ?_
      refine sSeq ?_
      refine W.cond rfl (fun hc32 => ?_) (fun hc32 => ?_)
      · skip
        have hlt : i < 4 := by have h := hc32; simp only [decide_eq_true_eq] at h; omega
        refine sSkip ?_
        refine sSeq ?_
        refine sBlock ?_
        refine sSeq ?_
        refine W.region ?_
        refine OpsW.det (det_move rfl) rfl ?_
        refine OpsW.det (det_assign rfl) rfl ?_
        refine sNext ?_
        refine W.keep (F' := [(8, _), (31, _), (6, _), (4, _), (2, _)]) ⟨rfl, rfl, rfl, rfl, rfl, trivial⟩ ?_
        refine W.draw mixed 15 [[], [], [], [1, 2], [1, 2, 3], [], [5], [5, 6], [], [1, 2, 3, 4, 5, 6, 7, 8], [1, 2, 3, 4, 5, 6, 7, 8, 9], [1, 2, 3, 4, 5, 6, 7, 8, 9, 10], [1, 2, 3, 4, 5, 6, 7, 8, 9, 10], [], [0, 1, 2, 3, 4, 5, 6, 7, 8, 9, 10, 11, 13], [0, 1, 2, 3, 4, 5, 6, 7, 8, 9, 10, 11, 13, 14], [0, 1, 2, 3, 4, 5, 6, 7, 8, 9, 10, 11, 12, 13, 14, 15]] (cl_lt (by decide)) ?_
        refine Head.det rfl (fun β hβ => Det.norm (F' := [(8, _), (31, _), (6, _), (4, _), (2, _)]) (H' := [(_, _), (_, _), (_, _)]) rfl rfl (det_move rfl)) ?_
        refine Head.norm (k' := 1) (es' := [.det 35 _]) rfl rfl ?_
        refine Head.det rfl (fun β hβ => Det.norm (F' := [(8, _), (31, _), (6, _), (4, _), (2, _)]) (H' := [(_, _), (_, _), (_, _)]) rfl rfl (det_move rfl)) ?_
        refine Head.norm (k' := 2) (es' := [.det 35 _, .det 36 _]) rfl rfl ?_
        refine Head.det rfl (fun β hβ => Det.norm (F' := [(8, _), (31, _), (6, _), (4, _), (2, _)]) (H' := [(_, _), (_, _), (_, _)]) rfl rfl (det_fieldAddr fl35_0 rfl)) ?_
        refine Head.norm (k' := 3) (es' := [.det 35 _, .det 36 _, .det 37 _]) rfl rfl ?_
        refine Head.det rfl (fun β hβ => Det.norm (F' := [(36, _), (37, _), (8, _), (31, _), (6, _), (4, _), (2, _)]) (H' := [(_, _), (_, _), (_, _)]) rfl rfl (det_indexAddr_arr u33 sz25 rfl rfl ⟨by omega, by omega⟩)) ?_
        refine Head.norm (k' := 4) (es' := [.det 35 _, .det 36 _, .det 37 _, .det 38 _]) rfl rfl ?_
        refine Head.det rfl (fun β hβ => Det.norm (F' := [(36, _), (37, _), (38, _), (8, _), (31, _), (6, _), (4, _), (2, _)]) (H' := [(_, _), (_, _), (_, _)]) rfl rfl ((det_loadC ty25 rfl (List.Mem.tail _ (List.Mem.tail _ (List.Mem.head _))) (at4 (f := sel i E D) hlt (by omega))).to (congrArg u64 sel_at))) ?_
        refine Head.norm (k' := 5) (es' := [.det 35 _, .det 36 _, .det 37 _, .det 38 _, .det 39 _]) rfl rfl ?_
        refine Head.det rfl (fun β hβ => Det.norm (F' := [(8, _), (31, _), (6, _), (4, _), (2, _)]) (H' := [(_, _), (_, _), (_, _)]) rfl rfl (det_move rfl)) ?_
        refine Head.norm (k' := 6) (es' := [.det 35 _, .det 36 _, .det 37 _, .det 38 _, .det 39 _, .det 40 _]) rfl rfl ?_
        refine Head.det rfl (fun β hβ => Det.norm (F' := [(40, _), (8, _), (31, _), (6, _), (4, _), (2, _)]) (H' := [(_, _), (_, _), (_, _)]) rfl rfl (det_indexAddr_arr u33 sz25 rfl rfl ⟨by omega, by omega⟩)) ?_
        refine Head.norm (k' := 7) (es' := [.det 35 _, .det 36 _, .det 37 _, .det 38 _, .det 39 _, .det 40 _, .det 41 _]) rfl rfl ?_
        refine Head.det rfl (fun β hβ => Det.norm (F' := [(40, _), (41, _), (8, _), (31, _), (6, _), (4, _), (2, _)]) (H' := [(_, _), (_, _), (_, _)]) rfl rfl (det_loadC_ro ty25 rfl (List.Mem.tail _ (List.Mem.tail _ (List.Mem.tail _ (List.Mem.head _)))) (at4 (f := lim rr) hlt (by omega)))) ?_
        refine Head.norm (k' := 8) (es' := [.det 35 _, .det 36 _, .det 37 _, .det 38 _, .det 39 _, .det 40 _, .det 41 _, .det 42 _]) rfl rfl ?_
        refine Head.det rfl (fun β hβ => Det.norm (F' := [(8, _), (31, _), (6, _), (4, _), (2, _)]) (H' := [(_, _), (_, _), (_, _)]) rfl rfl (det_move rfl)) ?_
        refine Head.norm (k' := 9) (es' := [.det 35 _, .det 36 _, .det 37 _, .det 38 _, .det 39 _, .det 40 _, .det 41 _, .det 42 _, .det 43 _]) rfl rfl ?_
        refine Head.det rfl (fun β hβ => Det.norm (F' := [(36, _), (37, _), (38, _), (39, _), (40, _), (41, _), (42, _), (43, _), (8, _), (31, _), (6, _), (4, _), (2, _)]) (H' := [(_, _), (_, _), (_, _)]) rfl rfl ((det_extern rfl (run_Add64 (lim D i) (lim rr i) (car i D rr) (car_le _ _ _))).to (add_pairE hE i))) ?_
        refine Head.norm (k' := 10) (es' := [.det 35 _, .det 36 _, .det 37 _, .det 38 _, .det 39 _, .det 40 _, .det 41 _, .det 42 _, .det 43 _, .det 44 _]) rfl rfl ?_
        refine Head.det rfl (fun β hβ => Det.norm (F' := [(36, _), (37, _), (38, _), (39, _), (40, _), (41, _), (42, _), (43, _), (44, _), (8, _), (31, _), (6, _), (4, _), (2, _)]) (H' := [(_, _), (_, _), (_, _)]) rfl rfl (det_move rfl)) ?_
        refine Head.norm (k' := 11) (es' := [.det 35 _, .det 36 _, .det 37 _, .det 38 _, .det 39 _, .det 40 _, .det 41 _, .det 42 _, .det 43 _, .det 44 _, .det 34 _]) rfl rfl ?_
        refine Head.det rfl (fun β hβ => Det.norm (F' := [(36, _), (37, _), (38, _), (39, _), (40, _), (41, _), (42, _), (43, _), (44, _), (34, _), (8, _), (31, _), (6, _), (4, _), (2, _)]) (H' := [(_, _), (_, _), (_, _)]) rfl rfl (det_extract rfl rfl)) ?_
        refine Head.norm (k' := 12) (es' := [.det 35 _, .det 36 _, .det 37 _, .det 38 _, .det 39 _, .det 40 _, .det 41 _, .det 42 _, .det 43 _, .det 44 _, .det 34 _, .det 45 _]) rfl rfl ?_
        refine Head.flt rfl (fun _ _ _ _ hs => flt_extract hs rfl rfl) ?_
        refine Head.norm (k' := 13) (es' := [.det 35 _, .det 36 _, .det 37 _, .det 38 _, .det 39 _, .det 40 _, .det 41 _, .det 42 _, .det 43 _, .det 44 _, .det 34 _, .det 45 _, .flt 46 _]) rfl rfl ?_
        refine Head.det rfl (fun β hβ => Det.norm (F' := [(8, _), (31, _), (6, _), (4, _), (2, _)]) (H' := [(_, _), (_, _), (_, _)]) rfl rfl (det_fieldAddr fl35_0 rfl)) ?_
        refine Head.norm (k' := 14) (es' := [.det 35 _, .det 36 _, .det 37 _, .det 38 _, .det 39 _, .det 40 _, .det 41 _, .det 42 _, .det 43 _, .det 44 _, .det 34 _, .det 45 _, .flt 46 _, .det 47 _]) rfl rfl ?_
        refine Head.det rfl (fun β hβ => Det.norm (F' := [(35, _), (36, _), (37, _), (38, _), (39, _), (40, _), (41, _), (42, _), (43, _), (44, _), (34, _), (45, _), (47, _), (8, _), (31, _), (6, _), (4, _), (2, _)]) (H' := [(_, _), (_, _), (_, _)]) rfl rfl (det_indexAddr_arr u33 sz25 rfl rfl ⟨by omega, by omega⟩)) ?_
        refine Head.norm (k' := 15) (es' := [.det 35 _, .det 36 _, .det 37 _, .det 38 _, .det 39 _, .det 40 _, .det 41 _, .det 42 _, .det 43 _, .det 44 _, .det 34 _, .det 45 _, .flt 46 _, .det 47 _, .det 48 _]) rfl rfl ?_
        refine Head.done ⟨by kernel_rfl, fun β hβ => ?_⟩
        refine OpsW.norm (F' := [(35, _), (36, _), (37, _), (38, _), (39, _), (40, _), (41, _), (42, _), (43, _), (44, _), (34, _), (45, _), (46, _), (47, _), (48, _), (8, _), (31, _), (6, _), (4, _), (2, _)]) (H' := [(_, _), (_, _), (_, _)]) rfl rfl ?_
        refine OpsW.store sz25 rfl rfl rfl rfl rfl (Upd.there (Upd.there (Upd.here))) (put4 (f' := sel (i + 1) E D) hlt (by omega) sel_new fun j hj => sel_old hj) ?_
        refine OpsW.det (det_assign rfl) rfl ?_
        refine sLast ?_
        refine bNext ?_
        refine W.keep (F' := [(6, _), (31, _), (4, _), (2, _)]) ⟨rfl, rfl, rfl, rfl, trivial⟩ ?_
        refine W.region ?_
        refine OpsW.det (det_addN (b := 1) rfl rfl (idx_ok hlt (by decide))) rfl ?_
        refine OpsW.det (det_move rfl) rfl ?_
        refine sLast ?_
        exact rEnd (i + 1) hlt ⟨rfl, rfl, rfl, rfl, trivial⟩ (List.Sublist.refl _) (step_lt hlt)
      · skip
        have hi4 : i = 4 := by have h := hc32; simp only [decide_eq_false_iff_not] at h; omega
        subst hi4
        refine sExit ?_
        refine xLoop ?_
        refine xHere ?_
        refine W.keep (F' := [(4, _), (2, _)]) ⟨rfl, rfl, trivial⟩ ?_
        refine sSeq ?_
        refine W.region ?_
        refine OpsW.det (det_loadA ty35 rfl (List.Mem.tail _ (List.Mem.tail _ (List.Mem.head _))) rfl) rfl ?_
        refine OpsW.store sz35 rfl rfl rfl rfl rfl (Upd.here) rfl ?_
        refine sNext ?_
        refine W.keep (F' := [(4, _)]) ⟨rfl, trivial⟩ ?_
        refine sRet ?_
        exact done1 Tryd.results64 (rv_cellA ty35 rfl (List.Mem.head _) rfl) ((congrArg (fun l : List Value => Value.agg l.toArray) (w4_congr sel_full)).trans (rsub_lo hD hE hb hm hk))
    · skip
      have hb : bor 4 m k ≠ 1 := by have h := hc30; simp at h; omega
      refine sSkip ?_
      refine sSeq ?_
      refine W.region ?_
      refine OpsW.det (det_loadA ty35 rfl (List.Mem.tail _ (List.Mem.tail _ (List.Mem.head _))) rfl) rfl ?_
      refine OpsW.store sz35 rfl rfl rfl rfl rfl (Upd.here) rfl ?_
      refine sNext ?_
      refine W.keep (F' := [(4, _)]) ⟨rfl, trivial⟩ ?_
      refine sRet ?_
      exact done1 Tryd.results64 (rv_cellA ty35 rfl (List.Mem.head _) rfl) (rsub_hi hD hb hm hk)

end Go.Cu
