/-
  The first group's field: sums, differences, products: the walks. Conditions: numbers below the modulus.
-/
import Derived.Test.YtndonmbemehefaaDoorWords
import Derived.Test.YtndonmbemehefaaDoorVmHead
namespace Go.Cu
open Go Go.Vm Go.RowKit Go.Proofs 
attribute [local irreducible] W OpsW Det Fresh New Writes Vm.Pure Makes Changes ExternTo BuildTo ZeroTo FieldTo IndexTo BinTo SliceTo Vm.Enters
set_option linter.unusedVariables false
set_option linter.unusedSimpArgs false
variable {T : Nat → TypeId × Nat × Nat}

theorem val6_lt {a b c d e f : Nat} (h0 : a < 18446744073709551616) (h1 : b < 18446744073709551616) (h2 : c < 18446744073709551616) (h3 : d < 18446744073709551616) (h4 : e < 18446744073709551616) (h5 : f < 18446744073709551616) : val6 a b c d e f < R6 := by
  unfold val6 R6; omega
abbrev glo1 : List Value := [u64 17644856173732828998, u64 754043588434789617, u64 10224657059481499349, u64 7488229067341005760, u64 11130996698012816685, u64 1267921511277847466]
abbrev glo2 : List Value := [u64 13402431016077863595, u64 2210141511517208575, u64 7435674573564081700, u64 7239337960414712511, u64 5412103778470702295, u64 1873798617647539866]
abbrev glo0 : List Value := [u64 14526898881837571181, u64 3129137299524312099, u64 419701826671360399, u64 524908885293268753]
abbrev glo3 : List Value := [u64 18446744069414584321, u64 6034159408538082302, u64 3691218898639771653, u64 8353516859464449352]
abbrev GH (T : Nat → TypeId × Nat × Nat) : Hp := [(0, .cells glo1.toArray (T 1).1 (T 1).2), (1, .cells glo2.toArray (T 2).1 (T 2).2)]
theorem step_lt {n i : Nat} (h : i < n) : n - (i + 1) < n - i := by omega
theorem idx_ok {n i : Nat} (h : i < n) (hn : n ≤ 9223372036854775807) : i + 1 ≤ 9223372036854775807 := by omega
theorem lo_mod {v : Nat} (h : v < pp) : v % pp = v := Nat.mod_eq_of_lt h
theorem hi_mod {v : Nat} (h : pp ≤ v) (h2 : v < 2 * pp) : v % pp = v - pp := by
  rw [Nat.mod_eq_sub_mod h, Nat.mod_eq_of_lt (by omega)]

theorem bld27 {v0 v1 v2 v3 v4 v5 : Int} : BuildTo Tryd.prog 27 [(0, .int .u64 v0), (1, .int .u64 v1), (2, .int .u64 v2), (3, .int .u64 v3), (4, .int .u64 v4), (5, .int .u64 v5)] (.agg #[.int .u64 v0, .int .u64 v1, .int .u64 v2, .int .u64 v3, .int .u64 v4, .int .u64 v5]) := BuildTo.of fun _ => by kernel_rfl
theorem bld29 {v0 v1 v2 v3 v4 v5 : Int} : BuildTo Tryd.prog 29 [(0, (.agg #[.int .u64 v0, .int .u64 v1, .int .u64 v2, .int .u64 v3, .int .u64 v4, .int .u64 v5]))] (.agg #[.int .u64 v0, .int .u64 v1, .int .u64 v2, .int .u64 v3, .int .u64 v4, .int .u64 v5]) := BuildTo.of fun _ => by kernel_rfl
theorem en58 : Vm.Enters Tryd.prog 58 := Vm.Enters.of fun _ _ => by kernel_rfl
theorem fl29_0 : TyF Tryd.prog 29 0 0 6 := ⟨⟨27, by kernel_rfl, by kernel_rfl⟩, by decide⟩
theorem sz26 : sizeIn Tryd.prog 26 = some 1 := by kernel_rfl
theorem sz27 : sizeIn Tryd.prog 27 = some 6 := by kernel_rfl
theorem sz29 : sizeIn Tryd.prog 29 = some 6 := by kernel_rfl
theorem ty26 : TyC Tryd.prog 26 := ⟨by kernel_rfl, by kernel_rfl⟩
theorem ty27 : TyA Tryd.prog 27 6 := ⟨by kernel_rfl, by kernel_rfl⟩
theorem ty29 : TyA Tryd.prog 29 6 := ⟨by kernel_rfl, by kernel_rfl⟩
theorem u27 : Tryd.prog.underlying 27 = some (.array 6 26) := by kernel_rfl
theorem z27 : TyZ Tryd.prog 27 (.agg #[.int .u64 0, .int .u64 0, .int .u64 0, .int .u64 0, .int .u64 0, .int .u64 0]) [.int .u64 0, .int .u64 0, .int .u64 0, .int .u64 0, .int .u64 0, .int .u64 0] := ⟨fun _ => by kernel_rfl, by kernel_rfl⟩
theorem z29 : TyZ Tryd.prog 29 (.agg #[.int .u64 0, .int .u64 0, .int .u64 0, .int .u64 0, .int .u64 0, .int .u64 0]) [.int .u64 0, .int .u64 0, .int .u64 0, .int .u64 0, .int .u64 0, .int .u64 0] := ⟨fun _ => by kernel_rfl, by kernel_rfl⟩
theorem reduce_ok {a0 a1 a2 a3 a4 a5 : Nat} (h0 : a0 < 18446744073709551616) (h1 : a1 < 18446744073709551616) (h2 : a2 < 18446744073709551616) (h3 : a3 < 18446744073709551616) (h4 : a4 < 18446744073709551616) (h5 : a5 < 18446744073709551616) (hV : val6 a0 a1 a2 a3 a4 a5 < 2 * pp) {w : World} (hG : Blocks (GH T) w)  : Vm.Pure Tryd.prog 58 #[.agg #[u64 a0, u64 a1, u64 a2, u64 a3, u64 a4, u64 a5], u64 0] w (enc6 (val6 a0 a1 a2 a3 a4 a5 % pp)) := by
  refine pure_of_W (n := 67) (args := [.agg #[u64 a0, u64 a1, u64 a2, u64 a3, u64 a4, u64 a5], u64 0]) Tryd.func58 rfl Tryd.ntmps58 (Nat.le_of_ble_eq_true rfl) hG ?_
  refine sStart ?_
  refine sSeq ?_
  refine W.region ?_
  refine OpsW.fresh (fr_box rfl rfl) rfl fun b2 => ?_
  refine OpsW.fresh (fr_alloc z27) rfl fun b4 => ?_
  refine sNext ?_
  refine W.keep (F' := [(4, _), (2, _), (1, _)]) ⟨rfl, rfl, rfl, trivial⟩ ?_
  refine sSeq ?_
  refine W.region ?_
  refine OpsW.det (det_indexAddr_arr u27 sz26 rfl rfl ⟨by decide, by decide⟩) rfl ?_
  refine OpsW.det (det_loadC ty26 rfl (List.Mem.tail _ (List.Mem.head _)) rfl) rfl ?_
  refine OpsW.sub64 (b := 13402431016077863595) (e := 0) rfl rfl rfl (by first | assumption | exact lim_lt _ _ | decide) (by first | assumption | exact lim_lt _ _ | decide) (by first | assumption | decide) rfl fun s15 c15 he15 hs15 hk15 => ?_
  refine OpsW.det (det_move rfl) rfl ?_
  refine OpsW.det (det_extract rfl rfl) rfl ?_
  refine OpsW.det (det_extract rfl rfl) rfl ?_
  refine OpsW.det (det_assign rfl) rfl ?_
  refine OpsW.det (det_assign rfl) rfl ?_
  refine sNext ?_
  refine W.keep (F' := [(6, _), (5, _), (4, _), (2, _), (1, _)]) ⟨rfl, rfl, rfl, rfl, rfl, trivial⟩ ?_
  refine sSeq ?_
  refine W.region ?_
  refine OpsW.det (det_indexAddr_arr u27 sz26 rfl rfl ⟨by decide, by decide⟩) rfl ?_
  refine OpsW.det (det_loadC ty26 rfl (List.Mem.tail _ (List.Mem.head _)) rfl) rfl ?_
  refine OpsW.det (det_move rfl) rfl ?_
  refine OpsW.sub64 (b := 2210141511517208575) rfl rfl rfl (by first | assumption | exact lim_lt _ _ | decide) (by first | assumption | exact lim_lt _ _ | decide) (by first | assumption | decide) rfl fun s22 c22 he22 hs22 hk22 => ?_
  refine OpsW.det (det_move rfl) rfl ?_
  refine OpsW.det (det_extract rfl rfl) rfl ?_
  refine OpsW.det (det_extract rfl rfl) rfl ?_
  refine OpsW.det (det_assign rfl) rfl ?_
  refine OpsW.det (det_assign rfl) rfl ?_
  refine sNext ?_
  refine W.keep (F' := [(6, _), (7, _), (5, _), (4, _), (2, _), (1, _)]) ⟨rfl, rfl, rfl, rfl, rfl, rfl, trivial⟩ ?_
  refine sSeq ?_
  refine W.region ?_
  refine OpsW.det (det_indexAddr_arr u27 sz26 rfl rfl ⟨by decide, by decide⟩) rfl ?_
  refine OpsW.det (det_loadC ty26 rfl (List.Mem.tail _ (List.Mem.head _)) rfl) rfl ?_
  refine OpsW.det (det_move rfl) rfl ?_
  refine OpsW.sub64 (b := 7435674573564081700) rfl rfl rfl (by first | assumption | exact lim_lt _ _ | decide) (by first | assumption | exact lim_lt _ _ | decide) (by first | assumption | decide) rfl fun s29 c29 he29 hs29 hk29 => ?_
  refine OpsW.det (det_move rfl) rfl ?_
  refine OpsW.det (det_extract rfl rfl) rfl ?_
  refine OpsW.det (det_extract rfl rfl) rfl ?_
  refine OpsW.det (det_assign rfl) rfl ?_
  refine OpsW.det (det_assign rfl) rfl ?_
  refine sNext ?_
  refine W.keep (F' := [(6, _), (8, _), (7, _), (5, _), (4, _), (2, _), (1, _)]) ⟨rfl, rfl, rfl, rfl, rfl, rfl, rfl, trivial⟩ ?_
  refine sSeq ?_
  refine W.region ?_
  refine OpsW.det (det_indexAddr_arr u27 sz26 rfl rfl ⟨by decide, by decide⟩) rfl ?_
  refine OpsW.det (det_loadC ty26 rfl (List.Mem.tail _ (List.Mem.head _)) rfl) rfl ?_
  refine OpsW.det (det_move rfl) rfl ?_
  refine OpsW.sub64 (b := 7239337960414712511) rfl rfl rfl (by first | assumption | exact lim_lt _ _ | decide) (by first | assumption | exact lim_lt _ _ | decide) (by first | assumption | decide) rfl fun s36 c36 he36 hs36 hk36 => ?_
  refine OpsW.det (det_move rfl) rfl ?_
  refine OpsW.det (det_extract rfl rfl) rfl ?_
  refine OpsW.det (det_extract rfl rfl) rfl ?_
  refine OpsW.det (det_assign rfl) rfl ?_
  refine OpsW.det (det_assign rfl) rfl ?_
  refine sNext ?_
  refine W.keep (F' := [(6, _), (9, _), (8, _), (7, _), (5, _), (4, _), (2, _), (1, _)]) ⟨rfl, rfl, rfl, rfl, rfl, rfl, rfl, rfl, trivial⟩ ?_
  refine sSeq ?_
  refine W.region ?_
  refine OpsW.det (det_indexAddr_arr u27 sz26 rfl rfl ⟨by decide, by decide⟩) rfl ?_
  refine OpsW.det (det_loadC ty26 rfl (List.Mem.tail _ (List.Mem.head _)) rfl) rfl ?_
  refine OpsW.det (det_move rfl) rfl ?_
  refine OpsW.sub64 (b := 5412103778470702295) rfl rfl rfl (by first | assumption | exact lim_lt _ _ | decide) (by first | assumption | exact lim_lt _ _ | decide) (by first | assumption | decide) rfl fun s43 c43 he43 hs43 hk43 => ?_
  refine OpsW.det (det_move rfl) rfl ?_
  refine OpsW.det (det_extract rfl rfl) rfl ?_
  refine OpsW.det (det_extract rfl rfl) rfl ?_
  refine OpsW.det (det_assign rfl) rfl ?_
  refine OpsW.det (det_assign rfl) rfl ?_
  refine sNext ?_
  refine W.keep (F' := [(6, _), (10, _), (9, _), (8, _), (7, _), (5, _), (4, _), (2, _), (1, _)]) ⟨rfl, rfl, rfl, rfl, rfl, rfl, rfl, rfl, rfl, trivial⟩ ?_
  refine sSeq ?_
  refine W.region ?_
  refine OpsW.det (det_indexAddr_arr u27 sz26 rfl rfl ⟨by decide, by decide⟩) rfl ?_
  refine OpsW.det (det_loadC ty26 rfl (List.Mem.tail _ (List.Mem.head _)) rfl) rfl ?_
  refine OpsW.det (det_move rfl) rfl ?_
  refine OpsW.sub64 (b := 1873798617647539866) rfl rfl rfl (by first | assumption | exact lim_lt _ _ | decide) (by first | assumption | exact lim_lt _ _ | decide) (by first | assumption | decide) rfl fun s50 c50 he50 hs50 hk50 => ?_
  refine OpsW.det (det_move rfl) rfl ?_
  refine OpsW.det (det_extract rfl rfl) rfl ?_
  refine OpsW.det (det_extract rfl rfl) rfl ?_
  refine OpsW.det (det_assign rfl) rfl ?_
  refine OpsW.det (det_assign rfl) rfl ?_
  refine sNext ?_
  refine W.keep (F' := [(6, _), (11, _), (10, _), (9, _), (8, _), (7, _), (5, _), (4, _), (2, _), (1, _)]) ⟨rfl, rfl, rfl, rfl, rfl, rfl, rfl, rfl, rfl, rfl, trivial⟩ ?_
  refine sSeq ?_
  refine sSeq ?_
  have hb : (c50 = 1 ∧ val6 a0 a1 a2 a3 a4 a5 < pp) ∨ (c50 = 0 ∧ pp ≤ val6 a0 a1 a2 a3 a4 a5 ∧ val6 s15 s22 s29 s36 s43 s50 = val6 a0 a1 a2 a3 a4 a5 - pp) := by unfold val6 pp; omega
  refine W.region ?_
  refine OpsW.det (det_move rfl) rfl ?_
  refine OpsW.det (det_eql rfl rfl) rfl ?_
  refine OpsW.det (det_move rfl) rfl ?_
  refine OpsW.guard_yes rfl rfl ?_
  refine OpsW.det (det_move rfl) rfl ?_
  refine OpsW.guard_yes rfl rfl ?_
  refine OpsW.det (det_eql rfl rfl) rfl ?_
  refine OpsW.det (det_pick rfl rfl) rfl ?_
  refine sNext ?_
  refine W.keep (F' := [(58, _), (11, _), (10, _), (9, _), (8, _), (7, _), (5, _), (4, _), (2, _)]) ⟨rfl, rfl, rfl, rfl, rfl, rfl, rfl, rfl, rfl, trivial⟩ ?_
  refine W.cond rfl (fun hc58 => ?_) (fun hc58 => ?_)
  · skip
    have hb1 : c50 = 1 := by have h := hc58; simp at h; omega
    have hb2 : val6 a0 a1 a2 a3 a4 a5 < pp := by omega
    refine sSeq ?_
    refine W.region ?_
    refine OpsW.det (det_loadA ty27 rfl (List.Mem.tail _ (List.Mem.head _)) rfl) rfl ?_
    refine OpsW.store sz27 rfl rfl rfl rfl rfl (Upd.here) rfl ?_
    refine sNext ?_
    refine W.keep (F' := [(4, _)]) ⟨rfl, trivial⟩ ?_
    refine sRet ?_
    exact done1 Tryd.results58 (rv_cellA ty27 rfl (List.Mem.head _) rfl) (((congrArg enc6 (lo_mod hb2)).trans (lim6 h0 h1 h2 h3 h4 h5)).symm)
  · skip
    have hb1 : c50 ≠ 1 := by have h := hc58; simp at h; omega
    have hb2 : val6 s15 s22 s29 s36 s43 s50 = val6 a0 a1 a2 a3 a4 a5 % pp := by rw [hi_mod (by omega) hV]; omega
    refine sSkip ?_
    refine sSeq ?_
    refine W.region ?_
    refine OpsW.det (det_move rfl) rfl ?_
    refine OpsW.det (det_move rfl) rfl ?_
    refine OpsW.det (det_move rfl) rfl ?_
    refine OpsW.det (det_move rfl) rfl ?_
    refine OpsW.det (det_move rfl) rfl ?_
    refine OpsW.det (det_move rfl) rfl ?_
    refine OpsW.det (det_build rfl bld27) rfl ?_
    refine OpsW.store sz27 rfl rfl rfl rfl rfl (Upd.here) rfl ?_
    refine sNext ?_
    refine W.keep (F' := [(4, _)]) ⟨rfl, trivial⟩ ?_
    refine sRet ?_
    exact done1 Tryd.results58 (rv_cellA ty27 rfl (List.Mem.head _) rfl) ((lim6 hs15 hs22 hs29 hs36 hs43 hs50).symm.trans (congrArg enc6 hb2))
theorem Add_w_ok {m k : Nat} (hm : m < pp) (hk : k < pp) {w : World} (hG : Blocks (GH T) w)  : Vm.Pure Tryd.prog 18 #[.agg #[u64 (lim (m) 0), u64 (lim (m) 1), u64 (lim (m) 2), u64 (lim (m) 3), u64 (lim (m) 4), u64 (lim (m) 5)], .agg #[u64 (lim (k) 0), u64 (lim (k) 1), u64 (lim (k) 2), u64 (lim (k) 3), u64 (lim (k) 4), u64 (lim (k) 5)]] w (enc6 ((m + k) % pp)) := by
  refine pure_of_W (n := 87) (args := [.agg #[u64 (lim (m) 0), u64 (lim (m) 1), u64 (lim (m) 2), u64 (lim (m) 3), u64 (lim (m) 4), u64 (lim (m) 5)], .agg #[u64 (lim (k) 0), u64 (lim (k) 1), u64 (lim (k) 2), u64 (lim (k) 3), u64 (lim (k) 4), u64 (lim (k) 5)]]) Tryd.func18 rfl Tryd.ntmps18 (Nat.le_of_ble_eq_true rfl) hG ?_
  refine sStart ?_
  refine sSeq ?_
  refine W.region ?_
  refine OpsW.fresh (fr_box rfl rfl) rfl fun b2 => ?_
  refine OpsW.fresh (fr_box rfl rfl) rfl fun b3 => ?_
  refine OpsW.fresh (fr_alloc z29) rfl fun b4 => ?_
  refine sNext ?_
  refine W.keep (F' := [(4, _), (3, _), (2, _)]) ⟨rfl, rfl, rfl, trivial⟩ ?_
  refine sSeq ?_
  refine W.region ?_
  refine OpsW.det (det_fieldAddr fl29_0 rfl) rfl ?_
  refine OpsW.det (det_indexAddr_arr u27 sz26 rfl rfl ⟨by decide, by decide⟩) rfl ?_
  refine OpsW.det (det_loadC ty26 rfl (List.Mem.tail _ (List.Mem.tail _ (List.Mem.head _))) rfl) rfl ?_
  refine OpsW.det (det_fieldAddr fl29_0 rfl) rfl ?_
  refine OpsW.det (det_indexAddr_arr u27 sz26 rfl rfl ⟨by decide, by decide⟩) rfl ?_
  refine OpsW.det (det_loadC ty26 rfl (List.Mem.tail _ (List.Mem.head _)) rfl) rfl ?_
  refine OpsW.add64 (e := 0) rfl rfl rfl (by first | assumption | exact lim_lt _ _ | decide) (by first | assumption | exact lim_lt _ _ | decide) (by first | assumption | decide) rfl fun s19 c19 he19 hs19 hk19 => ?_
  refine OpsW.det (det_move rfl) rfl ?_
  refine OpsW.det (det_extract rfl rfl) rfl ?_
  refine OpsW.det (det_extract rfl rfl) rfl ?_
  refine OpsW.det (det_assign rfl) rfl ?_
  refine OpsW.det (det_assign rfl) rfl ?_
  refine sNext ?_
  refine W.keep (F' := [(6, _), (5, _), (4, _), (3, _), (2, _)]) ⟨rfl, rfl, rfl, rfl, rfl, trivial⟩ ?_
  refine sSeq ?_
  refine W.region ?_
  refine OpsW.det (det_fieldAddr fl29_0 rfl) rfl ?_
  refine OpsW.det (det_indexAddr_arr u27 sz26 rfl rfl ⟨by decide, by decide⟩) rfl ?_
  refine OpsW.det (det_loadC ty26 rfl (List.Mem.tail _ (List.Mem.tail _ (List.Mem.head _))) rfl) rfl ?_
  refine OpsW.det (det_fieldAddr fl29_0 rfl) rfl ?_
  refine OpsW.det (det_indexAddr_arr u27 sz26 rfl rfl ⟨by decide, by decide⟩) rfl ?_
  refine OpsW.det (det_loadC ty26 rfl (List.Mem.tail _ (List.Mem.head _)) rfl) rfl ?_
  refine OpsW.det (det_move rfl) rfl ?_
  refine OpsW.add64 rfl rfl rfl (by first | assumption | exact lim_lt _ _ | decide) (by first | assumption | exact lim_lt _ _ | decide) (by first | assumption | decide) rfl fun s30 c30 he30 hs30 hk30 => ?_
  refine OpsW.det (det_move rfl) rfl ?_
  refine OpsW.det (det_extract rfl rfl) rfl ?_
  refine OpsW.det (det_extract rfl rfl) rfl ?_
  refine OpsW.det (det_assign rfl) rfl ?_
  refine OpsW.det (det_assign rfl) rfl ?_
  refine sNext ?_
  refine W.keep (F' := [(6, _), (7, _), (5, _), (4, _), (3, _), (2, _)]) ⟨rfl, rfl, rfl, rfl, rfl, rfl, trivial⟩ ?_
  refine sSeq ?_
  refine W.region ?_
  refine OpsW.det (det_fieldAddr fl29_0 rfl) rfl ?_
  refine OpsW.det (det_indexAddr_arr u27 sz26 rfl rfl ⟨by decide, by decide⟩) rfl ?_
  refine OpsW.det (det_loadC ty26 rfl (List.Mem.tail _ (List.Mem.tail _ (List.Mem.head _))) rfl) rfl ?_
  refine OpsW.det (det_fieldAddr fl29_0 rfl) rfl ?_
  refine OpsW.det (det_indexAddr_arr u27 sz26 rfl rfl ⟨by decide, by decide⟩) rfl ?_
  refine OpsW.det (det_loadC ty26 rfl (List.Mem.tail _ (List.Mem.head _)) rfl) rfl ?_
  refine OpsW.det (det_move rfl) rfl ?_
  refine OpsW.add64 rfl rfl rfl (by first | assumption | exact lim_lt _ _ | decide) (by first | assumption | exact lim_lt _ _ | decide) (by first | assumption | decide) rfl fun s41 c41 he41 hs41 hk41 => ?_
  refine OpsW.det (det_move rfl) rfl ?_
  refine OpsW.det (det_extract rfl rfl) rfl ?_
  refine OpsW.det (det_extract rfl rfl) rfl ?_
  refine OpsW.det (det_assign rfl) rfl ?_
  refine OpsW.det (det_assign rfl) rfl ?_
  refine sNext ?_
  refine W.keep (F' := [(6, _), (8, _), (7, _), (5, _), (4, _), (3, _), (2, _)]) ⟨rfl, rfl, rfl, rfl, rfl, rfl, rfl, trivial⟩ ?_
  refine sSeq ?_
  refine W.region ?_
  refine OpsW.det (det_fieldAddr fl29_0 rfl) rfl ?_
  refine OpsW.det (det_indexAddr_arr u27 sz26 rfl rfl ⟨by decide, by decide⟩) rfl ?_
  refine OpsW.det (det_loadC ty26 rfl (List.Mem.tail _ (List.Mem.tail _ (List.Mem.head _))) rfl) rfl ?_
  refine OpsW.det (det_fieldAddr fl29_0 rfl) rfl ?_
  refine OpsW.det (det_indexAddr_arr u27 sz26 rfl rfl ⟨by decide, by decide⟩) rfl ?_
  refine OpsW.det (det_loadC ty26 rfl (List.Mem.tail _ (List.Mem.head _)) rfl) rfl ?_
  refine OpsW.det (det_move rfl) rfl ?_
  refine OpsW.add64 rfl rfl rfl (by first | assumption | exact lim_lt _ _ | decide) (by first | assumption | exact lim_lt _ _ | decide) (by first | assumption | decide) rfl fun s52 c52 he52 hs52 hk52 => ?_
  refine OpsW.det (det_move rfl) rfl ?_
  refine OpsW.det (det_extract rfl rfl) rfl ?_
  refine OpsW.det (det_extract rfl rfl) rfl ?_
  refine OpsW.det (det_assign rfl) rfl ?_
  refine OpsW.det (det_assign rfl) rfl ?_
  refine sNext ?_
  refine W.keep (F' := [(6, _), (9, _), (8, _), (7, _), (5, _), (4, _), (3, _), (2, _)]) ⟨rfl, rfl, rfl, rfl, rfl, rfl, rfl, rfl, trivial⟩ ?_
  refine sSeq ?_
  refine W.region ?_
  refine OpsW.det (det_fieldAddr fl29_0 rfl) rfl ?_
  refine OpsW.det (det_indexAddr_arr u27 sz26 rfl rfl ⟨by decide, by decide⟩) rfl ?_
  refine OpsW.det (det_loadC ty26 rfl (List.Mem.tail _ (List.Mem.tail _ (List.Mem.head _))) rfl) rfl ?_
  refine OpsW.det (det_fieldAddr fl29_0 rfl) rfl ?_
  refine OpsW.det (det_indexAddr_arr u27 sz26 rfl rfl ⟨by decide, by decide⟩) rfl ?_
  refine OpsW.det (det_loadC ty26 rfl (List.Mem.tail _ (List.Mem.head _)) rfl) rfl ?_
  refine OpsW.det (det_move rfl) rfl ?_
  refine OpsW.add64 rfl rfl rfl (by first | assumption | exact lim_lt _ _ | decide) (by first | assumption | exact lim_lt _ _ | decide) (by first | assumption | decide) rfl fun s63 c63 he63 hs63 hk63 => ?_
  refine OpsW.det (det_move rfl) rfl ?_
  refine OpsW.det (det_extract rfl rfl) rfl ?_
  refine OpsW.det (det_extract rfl rfl) rfl ?_
  refine OpsW.det (det_assign rfl) rfl ?_
  refine OpsW.det (det_assign rfl) rfl ?_
  refine sNext ?_
  refine W.keep (F' := [(6, _), (10, _), (9, _), (8, _), (7, _), (5, _), (4, _), (3, _), (2, _)]) ⟨rfl, rfl, rfl, rfl, rfl, rfl, rfl, rfl, rfl, trivial⟩ ?_
  refine sSeq ?_
  refine W.region ?_
  refine OpsW.det (det_fieldAddr fl29_0 rfl) rfl ?_
  refine OpsW.det (det_indexAddr_arr u27 sz26 rfl rfl ⟨by decide, by decide⟩) rfl ?_
  refine OpsW.det (det_loadC ty26 rfl (List.Mem.tail _ (List.Mem.tail _ (List.Mem.head _))) rfl) rfl ?_
  refine OpsW.det (det_fieldAddr fl29_0 rfl) rfl ?_
  refine OpsW.det (det_indexAddr_arr u27 sz26 rfl rfl ⟨by decide, by decide⟩) rfl ?_
  refine OpsW.det (det_loadC ty26 rfl (List.Mem.tail _ (List.Mem.head _)) rfl) rfl ?_
  refine OpsW.det (det_move rfl) rfl ?_
  refine OpsW.add64 rfl rfl rfl (by first | assumption | exact lim_lt _ _ | decide) (by first | assumption | exact lim_lt _ _ | decide) (by first | assumption | decide) rfl fun s74 c74 he74 hs74 hk74 => ?_
  refine OpsW.det (det_move rfl) rfl ?_
  refine OpsW.det (det_extract rfl rfl) rfl ?_
  refine OpsW.det (det_extract rfl rfl) rfl ?_
  refine OpsW.det (det_assign rfl) rfl ?_
  refine OpsW.det (det_assign rfl) rfl ?_
  refine sNext ?_
  refine W.keep (F' := [(6, _), (11, _), (10, _), (9, _), (8, _), (7, _), (5, _), (4, _)]) ⟨rfl, rfl, rfl, rfl, rfl, rfl, rfl, rfl, trivial⟩ ?_
  refine sSeq ?_
  have hm' := val_lim6 (m := m) (by unfold pp at hm; unfold R6; omega)
  have hk' := val_lim6 (m := k) (by unfold pp at hk; unfold R6; omega)
  have hz : c74 = 0 := by unfold val6 at hm' hk'; unfold pp at hm hk; omega
  subst hz
  have hV : val6 s19 s30 s41 s52 s63 s74 = m + k := by unfold val6 at hm' hk' ⊢; omega
  refine W.region ?_
  refine OpsW.det (det_move rfl) rfl ?_
  refine OpsW.det (det_move rfl) rfl ?_
  refine OpsW.det (det_move rfl) rfl ?_
  refine OpsW.det (det_move rfl) rfl ?_
  refine OpsW.det (det_move rfl) rfl ?_
  refine OpsW.det (det_move rfl) rfl ?_
  refine OpsW.det (det_build rfl bld27) rfl ?_
  refine OpsW.det (det_move rfl) rfl ?_
  refine OpsW.det (det_call en58 rfl (fun w hb ho => reduce_ok hs19 hs30 hs41 hs52 hs63 hs74 (by omega) ho.blocks)) rfl ?_
  refine OpsW.det (det_build rfl bld29) rfl ?_
  refine OpsW.store sz29 rfl rfl rfl rfl rfl (Upd.here) rfl ?_
  refine sNext ?_
  refine W.keep (F' := [(4, _)]) ⟨rfl, trivial⟩ ?_
  refine sRet ?_
  exact done1 Tryd.results18 (rv_cellA ty29 rfl (List.Mem.head _) rfl) (congrArg (fun z => enc6 (z % pp)) hV)
theorem Sub_w_ok {m k : Nat} (hm : m < pp) (hk : k < pp) {w : World} (hG : Blocks (GH T) w)  : Vm.Pure Tryd.prog 62 #[.agg #[u64 (lim (m) 0), u64 (lim (m) 1), u64 (lim (m) 2), u64 (lim (m) 3), u64 (lim (m) 4), u64 (lim (m) 5)], .agg #[u64 (lim (k) 0), u64 (lim (k) 1), u64 (lim (k) 2), u64 (lim (k) 3), u64 (lim (k) 4), u64 (lim (k) 5)]] w (enc6 ((m + (pp - k)) % pp)) := by
  refine pure_of_W (n := 131) (args := [.agg #[u64 (lim (m) 0), u64 (lim (m) 1), u64 (lim (m) 2), u64 (lim (m) 3), u64 (lim (m) 4), u64 (lim (m) 5)], .agg #[u64 (lim (k) 0), u64 (lim (k) 1), u64 (lim (k) 2), u64 (lim (k) 3), u64 (lim (k) 4), u64 (lim (k) 5)]]) Tryd.func62 rfl Tryd.ntmps62 (Nat.le_of_ble_eq_true rfl) hG ?_
  refine sStart ?_
  refine sSeq ?_
  refine W.region ?_
  refine OpsW.fresh (fr_box rfl rfl) rfl fun b2 => ?_
  refine OpsW.fresh (fr_box rfl rfl) rfl fun b3 => ?_
  refine OpsW.fresh (fr_alloc z29) rfl fun b4 => ?_
  refine sNext ?_
  refine W.keep (F' := [(4, _), (3, _), (2, _)]) ⟨rfl, rfl, rfl, trivial⟩ ?_
  refine sSeq ?_
  refine W.region ?_
  refine OpsW.det (det_fieldAddr fl29_0 rfl) rfl ?_
  refine OpsW.det (det_indexAddr_arr u27 sz26 rfl rfl ⟨by decide, by decide⟩) rfl ?_
  refine OpsW.det (det_loadC ty26 rfl (List.Mem.tail _ (List.Mem.tail _ (List.Mem.head _))) rfl) rfl ?_
  refine OpsW.det (det_fieldAddr fl29_0 rfl) rfl ?_
  refine OpsW.det (det_indexAddr_arr u27 sz26 rfl rfl ⟨by decide, by decide⟩) rfl ?_
  refine OpsW.det (det_loadC ty26 rfl (List.Mem.tail _ (List.Mem.head _)) rfl) rfl ?_
  refine OpsW.sub64 (e := 0) rfl rfl rfl (by first | assumption | exact lim_lt _ _ | decide) (by first | assumption | exact lim_lt _ _ | decide) (by first | assumption | decide) rfl fun s20 c20 he20 hs20 hk20 => ?_
  refine OpsW.det (det_move rfl) rfl ?_
  refine OpsW.det (det_extract rfl rfl) rfl ?_
  refine OpsW.det (det_extract rfl rfl) rfl ?_
  refine OpsW.det (det_assign rfl) rfl ?_
  refine OpsW.det (det_assign rfl) rfl ?_
  refine sNext ?_
  refine W.keep (F' := [(6, _), (5, _), (4, _), (3, _), (2, _)]) ⟨rfl, rfl, rfl, rfl, rfl, trivial⟩ ?_
  refine sSeq ?_
  refine W.region ?_
  refine OpsW.det (det_fieldAddr fl29_0 rfl) rfl ?_
  refine OpsW.det (det_indexAddr_arr u27 sz26 rfl rfl ⟨by decide, by decide⟩) rfl ?_
  refine OpsW.det (det_loadC ty26 rfl (List.Mem.tail _ (List.Mem.tail _ (List.Mem.head _))) rfl) rfl ?_
  refine OpsW.det (det_fieldAddr fl29_0 rfl) rfl ?_
  refine OpsW.det (det_indexAddr_arr u27 sz26 rfl rfl ⟨by decide, by decide⟩) rfl ?_
  refine OpsW.det (det_loadC ty26 rfl (List.Mem.tail _ (List.Mem.head _)) rfl) rfl ?_
  refine OpsW.det (det_move rfl) rfl ?_
  refine OpsW.sub64 rfl rfl rfl (by first | assumption | exact lim_lt _ _ | decide) (by first | assumption | exact lim_lt _ _ | decide) (by first | assumption | decide) rfl fun s31 c31 he31 hs31 hk31 => ?_
  refine OpsW.det (det_move rfl) rfl ?_
  refine OpsW.det (det_extract rfl rfl) rfl ?_
  refine OpsW.det (det_extract rfl rfl) rfl ?_
  refine OpsW.det (det_assign rfl) rfl ?_
  refine OpsW.det (det_assign rfl) rfl ?_
  refine sNext ?_
  refine W.keep (F' := [(6, _), (7, _), (5, _), (4, _), (3, _), (2, _)]) ⟨rfl, rfl, rfl, rfl, rfl, rfl, trivial⟩ ?_
  refine sSeq ?_
  refine W.region ?_
  refine OpsW.det (det_fieldAddr fl29_0 rfl) rfl ?_
  refine OpsW.det (det_indexAddr_arr u27 sz26 rfl rfl ⟨by decide, by decide⟩) rfl ?_
  refine OpsW.det (det_loadC ty26 rfl (List.Mem.tail _ (List.Mem.tail _ (List.Mem.head _))) rfl) rfl ?_
  refine OpsW.det (det_fieldAddr fl29_0 rfl) rfl ?_
  refine OpsW.det (det_indexAddr_arr u27 sz26 rfl rfl ⟨by decide, by decide⟩) rfl ?_
  refine OpsW.det (det_loadC ty26 rfl (List.Mem.tail _ (List.Mem.head _)) rfl) rfl ?_
  refine OpsW.det (det_move rfl) rfl ?_
  refine OpsW.sub64 rfl rfl rfl (by first | assumption | exact lim_lt _ _ | decide) (by first | assumption | exact lim_lt _ _ | decide) (by first | assumption | decide) rfl fun s42 c42 he42 hs42 hk42 => ?_
  refine OpsW.det (det_move rfl) rfl ?_
  refine OpsW.det (det_extract rfl rfl) rfl ?_
  refine OpsW.det (det_extract rfl rfl) rfl ?_
  refine OpsW.det (det_assign rfl) rfl ?_
  refine OpsW.det (det_assign rfl) rfl ?_
  refine sNext ?_
  refine W.keep (F' := [(6, _), (8, _), (7, _), (5, _), (4, _), (3, _), (2, _)]) ⟨rfl, rfl, rfl, rfl, rfl, rfl, rfl, trivial⟩ ?_
  refine sSeq ?_
  refine W.region ?_
  refine OpsW.det (det_fieldAddr fl29_0 rfl) rfl ?_
  refine OpsW.det (det_indexAddr_arr u27 sz26 rfl rfl ⟨by decide, by decide⟩) rfl ?_
  refine OpsW.det (det_loadC ty26 rfl (List.Mem.tail _ (List.Mem.tail _ (List.Mem.head _))) rfl) rfl ?_
  refine OpsW.det (det_fieldAddr fl29_0 rfl) rfl ?_
  refine OpsW.det (det_indexAddr_arr u27 sz26 rfl rfl ⟨by decide, by decide⟩) rfl ?_
  refine OpsW.det (det_loadC ty26 rfl (List.Mem.tail _ (List.Mem.head _)) rfl) rfl ?_
  refine OpsW.det (det_move rfl) rfl ?_
  refine OpsW.sub64 rfl rfl rfl (by first | assumption | exact lim_lt _ _ | decide) (by first | assumption | exact lim_lt _ _ | decide) (by first | assumption | decide) rfl fun s53 c53 he53 hs53 hk53 => ?_
  refine OpsW.det (det_move rfl) rfl ?_
  refine OpsW.det (det_extract rfl rfl) rfl ?_
  refine OpsW.det (det_extract rfl rfl) rfl ?_
  refine OpsW.det (det_assign rfl) rfl ?_
  refine OpsW.det (det_assign rfl) rfl ?_
  refine sNext ?_
  refine W.keep (F' := [(6, _), (9, _), (8, _), (7, _), (5, _), (4, _), (3, _), (2, _)]) ⟨rfl, rfl, rfl, rfl, rfl, rfl, rfl, rfl, trivial⟩ ?_
  refine sSeq ?_
  refine W.region ?_
  refine OpsW.det (det_fieldAddr fl29_0 rfl) rfl ?_
  refine OpsW.det (det_indexAddr_arr u27 sz26 rfl rfl ⟨by decide, by decide⟩) rfl ?_
  refine OpsW.det (det_loadC ty26 rfl (List.Mem.tail _ (List.Mem.tail _ (List.Mem.head _))) rfl) rfl ?_
  refine OpsW.det (det_fieldAddr fl29_0 rfl) rfl ?_
  refine OpsW.det (det_indexAddr_arr u27 sz26 rfl rfl ⟨by decide, by decide⟩) rfl ?_
  refine OpsW.det (det_loadC ty26 rfl (List.Mem.tail _ (List.Mem.head _)) rfl) rfl ?_
  refine OpsW.det (det_move rfl) rfl ?_
  refine OpsW.sub64 rfl rfl rfl (by first | assumption | exact lim_lt _ _ | decide) (by first | assumption | exact lim_lt _ _ | decide) (by first | assumption | decide) rfl fun s64 c64 he64 hs64 hk64 => ?_
  refine OpsW.det (det_move rfl) rfl ?_
  refine OpsW.det (det_extract rfl rfl) rfl ?_
  refine OpsW.det (det_extract rfl rfl) rfl ?_
  refine OpsW.det (det_assign rfl) rfl ?_
  refine OpsW.det (det_assign rfl) rfl ?_
  refine sNext ?_
  refine W.keep (F' := [(6, _), (10, _), (9, _), (8, _), (7, _), (5, _), (4, _), (3, _), (2, _)]) ⟨rfl, rfl, rfl, rfl, rfl, rfl, rfl, rfl, rfl, trivial⟩ ?_
  refine sSeq ?_
  refine W.region ?_
  refine OpsW.det (det_fieldAddr fl29_0 rfl) rfl ?_
  refine OpsW.det (det_indexAddr_arr u27 sz26 rfl rfl ⟨by decide, by decide⟩) rfl ?_
  refine OpsW.det (det_loadC ty26 rfl (List.Mem.tail _ (List.Mem.tail _ (List.Mem.head _))) rfl) rfl ?_
  refine OpsW.det (det_fieldAddr fl29_0 rfl) rfl ?_
  refine OpsW.det (det_indexAddr_arr u27 sz26 rfl rfl ⟨by decide, by decide⟩) rfl ?_
  refine OpsW.det (det_loadC ty26 rfl (List.Mem.tail _ (List.Mem.head _)) rfl) rfl ?_
  refine OpsW.det (det_move rfl) rfl ?_
  refine OpsW.sub64 rfl rfl rfl (by first | assumption | exact lim_lt _ _ | decide) (by first | assumption | exact lim_lt _ _ | decide) (by first | assumption | decide) rfl fun s75 c75 he75 hs75 hk75 => ?_
  refine OpsW.det (det_move rfl) rfl ?_
  refine OpsW.det (det_extract rfl rfl) rfl ?_
  refine OpsW.det (det_extract rfl rfl) rfl ?_
  refine OpsW.det (det_assign rfl) rfl ?_
  refine OpsW.det (det_assign rfl) rfl ?_
  refine sNext ?_
  refine W.keep (F' := [(6, _), (11, _), (10, _), (9, _), (8, _), (7, _), (5, _), (4, _)]) ⟨rfl, rfl, rfl, rfl, rfl, rfl, rfl, rfl, trivial⟩ ?_
  refine sSeq ?_
  refine sSeq ?_
  have hm' := val_lim6 (m := m) (by unfold pp at hm; unfold R6; omega)
  have hk' := val_lim6 (m := k) (by unfold pp at hk; unfold R6; omega)
  have hV : val6 s20 s31 s42 s53 s64 s75 + k = m + R6 * c75 := by unfold val6 at hm' hk' ⊢; unfold R6; omega
  clear he20 he31 he42 he53 he64 he75 hm' hk'
  refine W.region ?_
  refine OpsW.det (det_move rfl) rfl ?_
  refine OpsW.det (det_eql rfl rfl) rfl ?_
  refine sNext ?_
  refine W.keep (F' := [(79, _), (11, _), (10, _), (9, _), (8, _), (7, _), (5, _), (4, _)]) ⟨rfl, rfl, rfl, rfl, rfl, rfl, rfl, rfl, trivial⟩ ?_
  refine W.cond rfl (fun hc79 => ?_) (fun hc79 => ?_)
  · skip
    have hz : c75 = 0 := by have h := hc79; simp at h; omega
    subst hz
    have hW : val6 s20 s31 s42 s53 s64 s75 = (m + (pp - k)) % pp := by rw [hi_mod (by omega) (by omega)]; omega
    refine sSeq ?_
    refine W.region ?_
    refine OpsW.det (det_move rfl) rfl ?_
    refine OpsW.det (det_move rfl) rfl ?_
    refine OpsW.det (det_move rfl) rfl ?_
    refine OpsW.det (det_move rfl) rfl ?_
    refine OpsW.det (det_move rfl) rfl ?_
    refine OpsW.det (det_move rfl) rfl ?_
    refine OpsW.det (det_build rfl bld27) rfl ?_
    refine OpsW.det (det_build rfl bld29) rfl ?_
    refine OpsW.store sz29 rfl rfl rfl rfl rfl (Upd.here) rfl ?_
    refine sNext ?_
    refine W.keep (F' := [(4, _)]) ⟨rfl, trivial⟩ ?_
    refine sRet ?_
    exact done1 Tryd.results62 (rv_cellA ty29 rfl (List.Mem.head _) rfl) ((lim6 hs20 hs31 hs42 hs53 hs64 hs75).symm.trans (congrArg enc6 hW))
  · skip
    have hz : c75 = 1 := by have h := hc79; simp at h; omega
    subst hz
    refine sSkip ?_
    refine sSeq ?_
    refine W.region ?_
    refine OpsW.det (det_move rfl) rfl ?_
    refine OpsW.add64 (b := 13402431016077863595) (e := 0) rfl rfl rfl (by first | assumption | exact lim_lt _ _ | decide) (by first | assumption | exact lim_lt _ _ | decide) (by first | assumption | decide) rfl fun s90 c90 he90 hs90 hk90 => ?_
    refine OpsW.det (det_move rfl) rfl ?_
    refine OpsW.det (det_extract rfl rfl) rfl ?_
    refine OpsW.det (det_extract rfl rfl) rfl ?_
    refine OpsW.det (det_assign rfl) rfl ?_
    refine OpsW.det (det_assign rfl) rfl ?_
    refine sNext ?_
    refine W.keep (F' := [(12, _), (5, _), (11, _), (10, _), (9, _), (8, _), (7, _), (4, _)]) ⟨rfl, rfl, rfl, rfl, rfl, rfl, rfl, rfl, trivial⟩ ?_
    refine sSeq ?_
    refine W.region ?_
    refine OpsW.det (det_move rfl) rfl ?_
    refine OpsW.det (det_move rfl) rfl ?_
    refine OpsW.add64 (b := 2210141511517208575) rfl rfl rfl (by first | assumption | exact lim_lt _ _ | decide) (by first | assumption | exact lim_lt _ _ | decide) (by first | assumption | decide) rfl fun s96 c96 he96 hs96 hk96 => ?_
    refine OpsW.det (det_move rfl) rfl ?_
    refine OpsW.det (det_extract rfl rfl) rfl ?_
    refine OpsW.det (det_extract rfl rfl) rfl ?_
    refine OpsW.det (det_assign rfl) rfl ?_
    refine OpsW.det (det_assign rfl) rfl ?_
    refine sNext ?_
    refine W.keep (F' := [(12, _), (7, _), (5, _), (11, _), (10, _), (9, _), (8, _), (4, _)]) ⟨rfl, rfl, rfl, rfl, rfl, rfl, rfl, rfl, trivial⟩ ?_
    refine sSeq ?_
    refine W.region ?_
    refine OpsW.det (det_move rfl) rfl ?_
    refine OpsW.det (det_move rfl) rfl ?_
    refine OpsW.add64 (b := 7435674573564081700) rfl rfl rfl (by first | assumption | exact lim_lt _ _ | decide) (by first | assumption | exact lim_lt _ _ | decide) (by first | assumption | decide) rfl fun s102 c102 he102 hs102 hk102 => ?_
    refine OpsW.det (det_move rfl) rfl ?_
    refine OpsW.det (det_extract rfl rfl) rfl ?_
    refine OpsW.det (det_extract rfl rfl) rfl ?_
    refine OpsW.det (det_assign rfl) rfl ?_
    refine OpsW.det (det_assign rfl) rfl ?_
    refine sNext ?_
    refine W.keep (F' := [(12, _), (8, _), (7, _), (5, _), (11, _), (10, _), (9, _), (4, _)]) ⟨rfl, rfl, rfl, rfl, rfl, rfl, rfl, rfl, trivial⟩ ?_
    refine sSeq ?_
    refine W.region ?_
    refine OpsW.det (det_move rfl) rfl ?_
    refine OpsW.det (det_move rfl) rfl ?_
    refine OpsW.add64 (b := 7239337960414712511) rfl rfl rfl (by first | assumption | exact lim_lt _ _ | decide) (by first | assumption | exact lim_lt _ _ | decide) (by first | assumption | decide) rfl fun s108 c108 he108 hs108 hk108 => ?_
    refine OpsW.det (det_move rfl) rfl ?_
    refine OpsW.det (det_extract rfl rfl) rfl ?_
    refine OpsW.det (det_extract rfl rfl) rfl ?_
    refine OpsW.det (det_assign rfl) rfl ?_
    refine OpsW.det (det_assign rfl) rfl ?_
    refine sNext ?_
    refine W.keep (F' := [(12, _), (9, _), (8, _), (7, _), (5, _), (11, _), (10, _), (4, _)]) ⟨rfl, rfl, rfl, rfl, rfl, rfl, rfl, rfl, trivial⟩ ?_
    refine sSeq ?_
    refine W.region ?_
    refine OpsW.det (det_move rfl) rfl ?_
    refine OpsW.det (det_move rfl) rfl ?_
    refine OpsW.add64 (b := 5412103778470702295) rfl rfl rfl (by first | assumption | exact lim_lt _ _ | decide) (by first | assumption | exact lim_lt _ _ | decide) (by first | assumption | decide) rfl fun s114 c114 he114 hs114 hk114 => ?_
    refine OpsW.det (det_move rfl) rfl ?_
    refine OpsW.det (det_extract rfl rfl) rfl ?_
    refine OpsW.det (det_extract rfl rfl) rfl ?_
    refine OpsW.det (det_assign rfl) rfl ?_
    refine OpsW.det (det_assign rfl) rfl ?_
    refine sNext ?_
    refine W.keep (F' := [(12, _), (10, _), (9, _), (8, _), (7, _), (5, _), (11, _), (4, _)]) ⟨rfl, rfl, rfl, rfl, rfl, rfl, rfl, rfl, trivial⟩ ?_
    refine sSeq ?_
    refine W.region ?_
    refine OpsW.det (det_move rfl) rfl ?_
    refine OpsW.det (det_move rfl) rfl ?_
    refine OpsW.add64 (b := 1873798617647539866) rfl rfl rfl (by first | assumption | exact lim_lt _ _ | decide) (by first | assumption | exact lim_lt _ _ | decide) (by first | assumption | decide) rfl fun s120 c120 he120 hs120 hk120 => ?_
    refine OpsW.det (det_move rfl) rfl ?_
    refine OpsW.det (det_extract rfl rfl) rfl ?_
    refine OpsW.det (det_extract rfl rfl) rfl ?_
    refine OpsW.det (det_assign rfl) rfl ?_
    refine sNext ?_
    refine W.keep (F' := [(11, _), (10, _), (9, _), (8, _), (7, _), (5, _), (4, _)]) ⟨rfl, rfl, rfl, rfl, rfl, rfl, rfl, trivial⟩ ?_
    refine sSeq ?_
    have hU : val6 s90 s96 s102 s108 s114 s120 + R6 * c120 = val6 s20 s31 s42 s53 s64 s75 + pp := by unfold val6 R6 pp; omega
    have h1 := val6_lt hs90 hs96 hs102 hs108 hs114 hs120
    have h2 := val6_lt hs20 hs31 hs42 hs53 hs64 hs75
    have hlt : m + (pp - k) < pp := by clear hU he90 he96 he102 he108 he114 he120; unfold R6 at hV h2; omega
    have hW : val6 s90 s96 s102 s108 s114 s120 = (m + (pp - k)) % pp := by rw [lo_mod hlt]; clear he90 he96 he102 he108 he114 he120; unfold R6 at hV hU h1 h2; omega
    refine W.region ?_
    refine OpsW.det (det_move rfl) rfl ?_
    refine OpsW.det (det_move rfl) rfl ?_
    refine OpsW.det (det_move rfl) rfl ?_
    refine OpsW.det (det_move rfl) rfl ?_
    refine OpsW.det (det_move rfl) rfl ?_
    refine OpsW.det (det_move rfl) rfl ?_
    refine OpsW.det (det_build rfl bld27) rfl ?_
    refine OpsW.det (det_build rfl bld29) rfl ?_
    refine OpsW.store sz29 rfl rfl rfl rfl rfl (Upd.here) rfl ?_
    refine sNext ?_
    refine W.keep (F' := [(4, _)]) ⟨rfl, trivial⟩ ?_
    refine sRet ?_
    exact done1 Tryd.results62 (rv_cellA ty29 rfl (List.Mem.head _) rfl) ((lim6 hs90 hs96 hs102 hs108 hs114 hs120).symm.trans (congrArg enc6 hW))

end Go.Cu
