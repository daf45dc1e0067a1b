/-
  The scalars: what the functions compute: the walks. Conditions: none.
-/
import Derived.Test.YtbchpfmfiokbgaaDoorFr2
namespace Go.Cu
open Go Go.Vm Go.RowKit Go.Proofs 
attribute [local irreducible] W OpsW Det Fresh New Writes Vm.Pure Makes Changes ExternTo BuildTo ZeroTo FieldTo IndexTo BinTo SliceTo Vm.Enters
set_option linter.unusedVariables false
set_option linter.unusedSimpArgs false
variable {T : Nat → TypeId × Nat × Nat}

theorem montr_mul (x y : Fs) : montr x * montr y * inv_rr % rr = montr (x * y) := by
  unfold montr
  rw [Zp.mul_val, Nat.mul_mod, ← Nat.mul_mod (x.val * R4), ← Nat.mul_mod, Nat.mod_mul_mod,
    show x.val * R4 * (y.val * R4) * inv_rr = x.val * y.val * R4 * (R4 * inv_rr) from by ac_rfl, Nat.mul_mod, show R4 * inv_rr % rr = 1 from by decide +kernel, Nat.mul_one, Nat.mod_mod]
theorem montr_add (x y : Fs) : (montr x + montr y) % rr = montr (x + y) := by
  unfold montr
  rw [Zp.add_val, ← Nat.add_mod, ← Nat.add_mul, Nat.mod_mul_mod]
theorem montr_sub (x y : Fs) : (montr x + (rr - montr y)) % rr = montr (x - y) := by
  unfold montr
  rw [Zp.sub_val, Nat.mod_mul_mod]
  have h1 := Nat.mod_lt (y.val * R4) rr_pos
  have h2 := Nat.div_add_mod (y.val * R4) rr
  have hy := y.lt
  have h3 : (x.val + (rr - y.val)) * R4 + rr * (y.val * R4 / rr) = (x.val * R4 + (rr - y.val * R4 % rr)) + rr * (R4 - 1) := by
    have : (rr - y.val) * R4 + y.val * R4 = rr * R4 := by rw [← Nat.add_mul, Nat.sub_add_cancel (Nat.le_of_lt hy)]
    have h5 : rr * R4 = rr * (R4 - 1) + rr := by rw [← Nat.mul_succ]; rfl
    rw [Nat.add_mul]
    generalize rr * (R4 - 1) = z at *
    omega
  have h4 := congrArg (· % rr) h3
  simp only [Nat.add_mul_mod_self_left] at h4
  rw [h4, Nat.add_mod, Nat.mod_mod, ← Nat.add_mod]
theorem RAdd_ok {x y : Fs} {w : World} (hG : Blocks (GH T) w) : Vm.Pure Tryd.prog 28 #[encR x, encR y] w (encR (x + y)) := (RAdd_w_ok (S := montr x + montr y) rfl (montr_lt x) (montr_lt y) hG).same (congrArg enc4 (montr_add x y))
theorem RSub_ok {x y : Fs} {w : World} (hG : Blocks (GH T) w) : Vm.Pure Tryd.prog 64 #[encR x, encR y] w (encR (x - y)) :=
  (RSub_w_ok (D := montr x + R4 - montr y) (E := montr x + R4 - montr y + rr) (Nat.sub_add_cancel (Nat.le_trans (Nat.le_of_lt (Nat.lt_trans (montr_lt y) (by decide))) (Nat.le_add_left R4 (montr x)))) rfl (montr_lt x) (montr_lt y) hG).same (congrArg enc4 (montr_sub x y))
theorem RMul_ok {x y : Fs} {w : World} (hG : Blocks (GH T) w) : Vm.Pure Tryd.prog 30 #[encR x, encR y] w (encR (x * y)) := (RMul_w_ok (montr_lt x) (montr_lt y) hG).same (congrArg enc4 (montr_mul x y))
theorem rof_words {n : Nat} (h : n < 18446744073709551616) : enc4 n = .agg #[u64 n, .int .u64 0, .int .u64 0, .int .u64 0] := by
  have := lim4 h (by decide : 0 < 18446744073709551616) (by decide : 0 < 18446744073709551616) (by decide : 0 < 18446744073709551616)
  have hv : val4 n 0 0 0 = n := by simp [val4]
  rw [hv] at this
  exact this
def R44 : Nat := val4 14526898881837571181 3129137299524312099 419701826671360399 524908885293268753
theorem ROf_call {n : Nat} {w : World} (hn : n < 18446744073709551616) (hG : Blocks (GH T) w) : Vm.Pure Tryd.prog 30 #[.agg #[u64 n, .int .u64 0, .int .u64 0, .int .u64 0], .agg glo0.toArray] w (encR (Zp.of n)) := by
  have h := RMul_w_ok (X := n) (Y := R44) (Nat.lt_trans hn (by decide)) (by decide) hG
  rw [← rof_words hn]
  refine h.same (congrArg enc4 ?_)
  unfold montr
  show _ = (n % rr) * R4 % rr
  rw [Nat.mod_mul_mod, Nat.mul_assoc, Nat.mul_mod, show R44 * inv_rr % rr = R4 % rr from by decide +kernel, ← Nat.mul_mod]
theorem RPlain_call {x : Fs} {w : World} (hG : Blocks (GH T) w) : Vm.Pure Tryd.prog 30 #[encR x, .agg #[u64 1, .int .u64 0, .int .u64 0, .int .u64 0]] w (enc4 x.val) := by
  have h := RMul_w_ok (X := montr x) (Y := 1) (montr_lt x) (by decide) hG
  rw [← rof_words (n := 1) (by decide)]
  refine h.same (congrArg enc4 ?_)
  unfold montr
  rw [Nat.mul_one, Nat.mod_mul_mod, Nat.mul_assoc, Nat.mul_mod, show R4 * inv_rr % rr = 1 from by decide +kernel, Nat.mul_one, Nat.mod_mod, Nat.mod_eq_of_lt x.lt]
theorem zR : (.agg #[.int .u64 0, .int .u64 0, .int .u64 0, .int .u64 0] : Value) = encR 0 := by kernel_rfl

theorem bld33_0 {v0 : Int} : BuildTo Tryd.prog 33 [(0, .int .u64 v0)] (.agg #[.int .u64 v0, .int .u64 0, .int .u64 0, .int .u64 0]) := BuildTo.of fun _ => by kernel_rfl
theorem bz35 : ZeroTo Tryd.prog 35 (encR 0) := ZeroTo.of fun _ => by kernel_rfl
theorem en30 : Vm.Enters Tryd.prog 30 := Vm.Enters.of fun _ _ => by kernel_rfl
theorem en64 : Vm.Enters Tryd.prog 64 := Vm.Enters.of fun _ _ => by kernel_rfl
theorem ROf_ok {n : Nat} (hn : n < 18446744073709551616) {w : World} (hG : Blocks (GH T) w)  : Vm.Pure Tryd.prog 26 #[u64 n] w (encR (Zp.of n)) := by
  refine pure_of_W (n := 9) (args := [u64 n]) Tryd.func26 rfl Tryd.ntmps26 (Nat.le_of_ble_eq_true rfl) hG ?_
  refine sStart ?_
  refine sSeq ?_
  refine W.region ?_
  refine OpsW.fresh (fr_alloc z35) rfl fun b2 => ?_
  refine sNext ?_
  refine sSeq ?_
  refine W.region ?_
  refine OpsW.det (det_move rfl) rfl ?_
  refine OpsW.det (det_build rfl bld33_0) rfl ?_
  refine OpsW.det (det_build rfl bld35) rfl ?_
  refine OpsW.det (det_loadA_ro ty33 rfl (List.Mem.head _) rfl) rfl ?_
  refine OpsW.det (det_build rfl bld35) rfl ?_
  refine OpsW.det (det_call en30 rfl (fun w hb ho => ROf_call hn ho.blocks)) rfl ?_
  refine OpsW.store sz35 rfl rfl rfl rfl rfl (Upd.here) rfl ?_
  refine sNext ?_
  refine W.keep (F' := [(2, _)]) ⟨rfl, trivial⟩ ?_
  refine sRet ?_
  exact done1 Tryd.results26 (rv_cellA ty35 rfl (List.Mem.head _) rfl) rfl
theorem RNeg_ok {x : Fs} {w : World} (hG : Blocks (GH T) w)  : Vm.Pure Tryd.prog 27 #[encR x] w (encR (0 - x)) := by
  refine pure_of_W (n := 6) (args := [encR x]) Tryd.func27 rfl Tryd.ntmps27 (Nat.le_of_ble_eq_true rfl) hG ?_
  refine sStart ?_
  refine sSeq ?_
  refine W.region ?_
  refine OpsW.fresh (fr_box rfl rfl) rfl fun b1 => ?_
  refine OpsW.fresh (fr_alloc z35) rfl fun b2 => ?_
  refine sNext ?_
  refine W.keep (F' := [(2, _), (1, _)]) ⟨rfl, rfl, trivial⟩ ?_
  refine sSeq ?_
  refine W.region ?_
  refine OpsW.det (det_zero bz35) rfl ?_
  refine OpsW.det (det_loadA ty35 rfl (List.Mem.tail _ (List.Mem.head _)) rfl) rfl ?_
  refine OpsW.det (det_call en64 rfl (fun w hb ho => RSub_ok ho.blocks)) rfl ?_
  refine OpsW.store sz35 rfl rfl rfl rfl rfl (Upd.here) rfl ?_
  refine sNext ?_
  refine W.keep (F' := [(2, _)]) ⟨rfl, trivial⟩ ?_
  refine sRet ?_
  exact done1 Tryd.results27 (rv_cellA ty35 rfl (List.Mem.head _) rfl) rfl
theorem fld35 {a b c d : Int} : FieldTo Tryd.prog 35 (.agg #[.int .u64 a, .int .u64 b, .int .u64 c, .int .u64 d]) 0 (.agg #[.int .u64 a, .int .u64 b, .int .u64 c, .int .u64 d]) := FieldTo.of fun _ => by kernel_rfl
theorem RPlain_ok {x : Fs} {w : World} (hG : Blocks (GH T) w)  : Vm.Pure Tryd.prog 71 #[encR x] w (enc4 x.val) := by
  refine pure_of_W (n := 8) (args := [encR x]) Tryd.func71 rfl Tryd.ntmps71 (Nat.le_of_ble_eq_true rfl) hG ?_
  refine sStart ?_
  refine sSeq ?_
  refine W.region ?_
  refine OpsW.fresh (fr_box rfl rfl) rfl fun b1 => ?_
  refine OpsW.fresh (fr_alloc z33) rfl fun b2 => ?_
  refine sNext ?_
  refine W.keep (F' := [(2, _), (1, _)]) ⟨rfl, rfl, trivial⟩ ?_
  refine sSeq ?_
  refine W.region ?_
  refine OpsW.det (det_loadA ty35 rfl (List.Mem.tail _ (List.Mem.head _)) rfl) rfl ?_
  refine OpsW.det (det_build rfl bld33_0) rfl ?_
  refine OpsW.det (det_build rfl bld35) rfl ?_
  refine OpsW.det (det_call en30 rfl (fun w hb ho => RPlain_call ho.blocks)) rfl ?_
  refine OpsW.det (det_field rfl fld35) rfl ?_
  refine OpsW.store sz33 rfl rfl rfl rfl rfl (Upd.here) rfl ?_
  refine sNext ?_
  refine W.keep (F' := [(2, _)]) ⟨rfl, trivial⟩ ?_
  refine sRet ?_
  exact done1 Tryd.results71 (rv_cellA ty33 rfl (List.Mem.head _) rfl) rfl

end Go.Cu
