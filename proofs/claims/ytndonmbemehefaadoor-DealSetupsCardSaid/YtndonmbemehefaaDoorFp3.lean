/-
  The first group's field: what its functions compute: the walks. Conditions: none.
-/
import Derived.Test.YtndonmbemehefaaDoorEq
namespace Go.Cu
open Go Go.Vm Go.RowKit Go.Proofs 
attribute [local irreducible] W OpsW Det Fresh New Writes Vm.Pure Makes Changes ExternTo BuildTo ZeroTo FieldTo IndexTo BinTo SliceTo Vm.Enters
set_option linter.unusedVariables false
set_option linter.unusedSimpArgs false
variable {T : Nat → TypeId × Nat × Nat}

theorem Add_ok {x y : Fq} {w : World} (hG : Blocks (GH T) w) : Vm.Pure Tryd.prog 18 #[encF x, encF y] w (encF (x + y)) := (Add_w_ok (mont_lt x) (mont_lt y) hG).same (congrArg enc6 (mont_add x y))
theorem Sub_ok {x y : Fq} {w : World} (hG : Blocks (GH T) w) : Vm.Pure Tryd.prog 62 #[encF x, encF y] w (encF (x - y)) := (Sub_w_ok (mont_lt x) (mont_lt y) hG).same (congrArg enc6 (mont_sub x y))
theorem Mul_ok {x y : Fq} {w : World} (hG : Blocks (GH T) w) : Vm.Pure Tryd.prog 17 #[encF x, encF y] w (encF (x * y)) := (Mul_w_ok (mont_lt x) (mont_lt y) hG).same (congrArg enc6 (mont_mul x y))
/-- A word that is no number of the field is not asked: every word is below the modulus. -/
theorem of_words {n : Nat} (h : n < 18446744073709551616) : enc6 n = .agg #[u64 n, .int .u64 0, .int .u64 0, .int .u64 0, .int .u64 0, .int .u64 0] := by
  have := lim6 h (by decide : 0 < 18446744073709551616) (by decide : 0 < 18446744073709551616) (by decide : 0 < 18446744073709551616) (by decide : 0 < 18446744073709551616) (by decide : 0 < 18446744073709551616)
  have hv : val6 n 0 0 0 0 0 = n := by simp [val6]
  rw [hv] at this
  exact this
def R66 : Nat := val6 17644856173732828998 754043588434789617 10224657059481499349 7488229067341005760 11130996698012816685 1267921511277847466
theorem Of_call {n : Nat} {w : World} (hn : n < 18446744073709551616) (hG : Blocks (GH T) w) : Vm.Pure Tryd.prog 17 #[.agg #[u64 n, .int .u64 0, .int .u64 0, .int .u64 0, .int .u64 0, .int .u64 0], .agg glo1.toArray] w (encF (Zp.of n)) := by
  have h := Mul_w_ok (X := n) (Y := R66) (Nat.lt_trans hn (by decide)) (by decide) hG
  rw [← of_words hn]
  refine h.same (congrArg enc6 ?_)
  unfold mont
  show _ = (n % pp) * R6 % pp
  rw [Nat.mod_mul_mod, Nat.mul_assoc, Nat.mul_mod, show R66 * inv_pp % pp = R6 % pp from by decide +kernel, ← Nat.mul_mod]
section
variable {K : List Nat} {G : Hp} {w0 : World} {d : Option Tmp} {ty xt yt : TypeId} {pos : String} {after : Array Edge} {g : Option (Nat × Bool)} {F : Fr} {H : Hp} {x y : Operand}
theorem det_eql29 {a b : Fq} (hx : ev F x = some (encF a)) (hy : ev F y = some (encF b)) : Det Tryd.prog K G w0 ⟨d, .binOp .eql 29 x y yt, ty, pos, after, g⟩ F H (.bool (decide (a = b))) := det_binTo hx hy eq29
theorem det_neq29 {a b : Fq} (hx : ev F x = some (encF a)) (hy : ev F y = some (encF b)) : Det Tryd.prog K G w0 ⟨d, .binOp .neq 29 x y yt, ty, pos, after, g⟩ F H (.bool (!decide (a = b))) := det_binTo hx hy ne29
theorem det_eql31 {a b : Pt} (hx : ev F x = some (encP a)) (hy : ev F y = some (encP b)) : Det Tryd.prog K G w0 ⟨d, .binOp .eql 31 x y yt, ty, pos, after, g⟩ F H (.bool (decide (a = b))) := det_binTo hx hy eq31
theorem det_neq31 {a b : Pt} (hx : ev F x = some (encP a)) (hy : ev F y = some (encP b)) : Det Tryd.prog K G w0 ⟨d, .binOp .neq 31 x y yt, ty, pos, after, g⟩ F H (.bool (!decide (a = b))) := det_binTo hx hy ne31
end
/-- A point in Jacobi's coordinates. -/
abbrev Jac := Fq × Fq × Fq
def encJ (p : Jac) : Value := .agg (cellsF p.1 ++ cellsF p.2.1 ++ cellsF p.2.2).toArray

theorem bld27_0 {v0 : Int} : BuildTo Tryd.prog 27 [(0, .int .u64 v0)] (.agg #[.int .u64 v0, .int .u64 0, .int .u64 0, .int .u64 0, .int .u64 0, .int .u64 0]) := BuildTo.of fun _ => by kernel_rfl
theorem bz29 : ZeroTo Tryd.prog 29 (encF 0) := ZeroTo.of fun _ => by kernel_rfl
theorem en17 : Vm.Enters Tryd.prog 17 := Vm.Enters.of fun _ _ => by kernel_rfl
theorem en19 : Vm.Enters Tryd.prog 19 := Vm.Enters.of fun _ _ => by kernel_rfl
theorem en62 : Vm.Enters Tryd.prog 62 := Vm.Enters.of fun _ _ => by kernel_rfl
theorem Square_ok {x : Fq} {w : World} (hG : Blocks (GH T) w)  : Vm.Pure Tryd.prog 16 #[encF x] w (encF (x * x)) := by
  refine pure_of_W (n := 6) (args := [encF x]) Tryd.func16 rfl Tryd.ntmps16 (Nat.le_of_ble_eq_true rfl) hG ?_
  refine sStart ?_
  refine sSeq ?_
  refine W.region ?_
  refine OpsW.fresh (fr_box rfl rfl) rfl fun b1 => ?_
  refine OpsW.fresh (fr_alloc z29) rfl fun b2 => ?_
  refine sNext ?_
  refine W.keep (F' := [(2, _), (1, _)]) ⟨rfl, rfl, trivial⟩ ?_
  refine sSeq ?_
  refine W.region ?_
  refine OpsW.det (det_loadA ty29 rfl (List.Mem.tail _ (List.Mem.head _)) rfl) rfl ?_
  refine OpsW.det (det_loadA ty29 rfl (List.Mem.tail _ (List.Mem.head _)) rfl) rfl ?_
  refine OpsW.det (det_call en17 rfl (fun w hb ho => Cu.Mul_ok ho.blocks)) rfl ?_
  refine OpsW.store sz29 rfl rfl rfl rfl rfl (Upd.here) rfl ?_
  refine sNext ?_
  refine W.keep (F' := [(2, _)]) ⟨rfl, trivial⟩ ?_
  refine sRet ?_
  exact done1 Tryd.results16 (rv_cellA ty29 rfl (List.Mem.head _) rfl) rfl
theorem Neg_ok {x : Fq} {w : World} (hG : Blocks (GH T) w)  : Vm.Pure Tryd.prog 23 #[encF x] w (encF (0 - x)) := by
  refine pure_of_W (n := 6) (args := [encF x]) Tryd.func23 rfl Tryd.ntmps23 (Nat.le_of_ble_eq_true rfl) hG ?_
  refine sStart ?_
  refine sSeq ?_
  refine W.region ?_
  refine OpsW.fresh (fr_box rfl rfl) rfl fun b1 => ?_
  refine OpsW.fresh (fr_alloc z29) rfl fun b2 => ?_
  refine sNext ?_
  refine W.keep (F' := [(2, _), (1, _)]) ⟨rfl, rfl, trivial⟩ ?_
  refine sSeq ?_
  refine W.region ?_
  refine OpsW.det (det_zero bz29) rfl ?_
  refine OpsW.det (det_loadA ty29 rfl (List.Mem.tail _ (List.Mem.head _)) rfl) rfl ?_
  refine OpsW.det (det_call en62 rfl (fun w hb ho => Cu.Sub_ok ho.blocks)) rfl ?_
  refine OpsW.store sz29 rfl rfl rfl rfl rfl (Upd.here) rfl ?_
  refine sNext ?_
  refine W.keep (F' := [(2, _)]) ⟨rfl, trivial⟩ ?_
  refine sRet ?_
  exact done1 Tryd.results23 (rv_cellA ty29 rfl (List.Mem.head _) rfl) rfl
theorem Zero_ok {x : Fq} {w : World} (hG : Blocks (GH T) w)  : Vm.Pure Tryd.prog 65 #[encF x] w (.bool (decide (x = 0))) := by
  refine pure_of_W (n := 6) (args := [encF x]) Tryd.func65 rfl Tryd.ntmps65 (Nat.le_of_ble_eq_true rfl) hG ?_
  refine sStart ?_
  refine sSeq ?_
  refine W.region ?_
  refine OpsW.fresh (fr_box rfl rfl) rfl fun b1 => ?_
  refine OpsW.det (det_assign rfl) rfl ?_
  refine sNext ?_
  refine W.keep (F' := [(1, _)]) ⟨rfl, trivial⟩ ?_
  refine sSeq ?_
  refine W.region ?_
  refine OpsW.det (det_loadA ty29 rfl (List.Mem.head _) rfl) rfl ?_
  refine OpsW.det (det_zero bz29) rfl ?_
  refine OpsW.det (det_eql29 rfl rfl) rfl ?_
  refine OpsW.det (det_assign rfl) rfl ?_
  refine sNext ?_
  refine W.keep (F' := [(2, _)]) ⟨rfl, trivial⟩ ?_
  refine sRet ?_
  exact done1 Tryd.results65 (rv_tmp rfl) rfl
theorem Of_ok {n : Nat} (hn : n < 18446744073709551616) {w : World} (hG : Blocks (GH T) w)  : Vm.Pure Tryd.prog 19 #[u64 n] w (encF (Zp.of n)) := by
  refine pure_of_W (n := 9) (args := [u64 n]) Tryd.func19 rfl Tryd.ntmps19 (Nat.le_of_ble_eq_true rfl) hG ?_
  refine sStart ?_
  refine sSeq ?_
  refine W.region ?_
  refine OpsW.fresh (fr_alloc z29) rfl fun b2 => ?_
  refine sNext ?_
  refine sSeq ?_
  refine W.region ?_
  refine OpsW.det (det_move rfl) rfl ?_
  refine OpsW.det (det_build rfl bld27_0) rfl ?_
  refine OpsW.det (det_build rfl bld29) rfl ?_
  refine OpsW.det (det_loadA_ro ty27 rfl (List.Mem.head _) rfl) rfl ?_
  refine OpsW.det (det_build rfl bld29) rfl ?_
  refine OpsW.det (det_call en17 rfl (fun w hb ho => Of_call hn ho.blocks)) rfl ?_
  refine OpsW.store sz29 rfl rfl rfl rfl rfl (Upd.here) rfl ?_
  refine sNext ?_
  refine W.keep (F' := [(2, _)]) ⟨rfl, trivial⟩ ?_
  refine sRet ?_
  exact done1 Tryd.results19 (rv_cellA ty29 rfl (List.Mem.head _) rfl) rfl
theorem four_ok  {w : World} (hG : Blocks (GH T) w)  : Vm.Pure Tryd.prog 70 #[] w (encF (Zp.of 4)) := by
  refine pure_of_W (n := 2) (args := []) Tryd.func70 rfl Tryd.ntmps70 (Nat.le_of_ble_eq_true rfl) hG ?_
  refine sStart ?_
  refine sSeq ?_
  refine W.region ?_
  refine OpsW.fresh (fr_alloc z29) rfl fun b0 => ?_
  refine sNext ?_
  refine sSeq ?_
  refine W.region ?_
  refine OpsW.det (det_call en19 rfl (fun w hb ho => Of_ok (n := 4) (by decide) ho.blocks)) rfl ?_
  refine OpsW.store sz29 rfl rfl rfl rfl rfl (Upd.here) rfl ?_
  refine sNext ?_
  refine W.keep (F' := [(0, _)]) ⟨rfl, trivial⟩ ?_
  refine sRet ?_
  exact done1 Tryd.results70 (rv_cellA ty29 rfl (List.Mem.head _) rfl) rfl
theorem one_ok  {w : World} (hG : Blocks (GH T) w)  : Vm.Pure Tryd.prog 98 #[] w (encF (Zp.of 1)) := by
  refine pure_of_W (n := 2) (args := []) Tryd.func98 rfl Tryd.ntmps98 (Nat.le_of_ble_eq_true rfl) hG ?_
  refine sStart ?_
  refine sSeq ?_
  refine W.region ?_
  refine OpsW.fresh (fr_alloc z29) rfl fun b0 => ?_
  refine sNext ?_
  refine sSeq ?_
  refine W.region ?_
  refine OpsW.det (det_call en19 rfl (fun w hb ho => Of_ok (n := 1) (by decide) ho.blocks)) rfl ?_
  refine OpsW.store sz29 rfl rfl rfl rfl rfl (Upd.here) rfl ?_
  refine sNext ?_
  refine W.keep (F' := [(0, _)]) ⟨rfl, trivial⟩ ?_
  refine sRet ?_
  exact done1 Tryd.results98 (rv_cellA ty29 rfl (List.Mem.head _) rfl) rfl

end Go.Cu
