/-
  The first group's points: what Neg, On, Add compute: the walks. Conditions: none.
-/
import Derived.Test.YtbchpfmfiokbgaaDoorFp4
namespace Go.Cu
open Go Go.Vm Go.RowKit Go.Proofs 
attribute [local irreducible] W OpsW Det Fresh New Writes Vm.Pure Makes Changes ExternTo BuildTo ZeroTo FieldTo IndexTo BinTo SliceTo Vm.Enters
set_option linter.unusedVariables false
set_option linter.unusedSimpArgs false
variable {T : Nat → TypeId × Nat × Nat}

def inv (x : Fq) : Fq := pw x (pp - 2)
def four : Fq := Zp.of 4
def pneg (p : Pt) : Pt := if p = (0, 0) then p else (p.1, 0 - p.2)
def onB (p : Pt) : Bool := decide (p = (0, 0)) || decide (p.2 * p.2 = p.1 * p.1 * p.1 + four)
def tojac (p : Pt) : Jac := if p = (0, 0) then (0, 0, 0) else (p.1, p.2, Zp.of 1)
def jdbl (p : Jac) : Jac :=
  if p.2.2 = 0 then (0, 0, 0) else if p.2.1 = 0 then (0, 0, 0) else
    let a := p.1 * p.1
    let b := p.2.1 * p.2.1
    let c := b * b
    let d0 := (p.1 + b) * (p.1 + b) - a - c
    let d := d0 + d0
    let e := a + a + a
    let f := e * e - d - d
    let c4 := (c + c) + (c + c)
    (f, e * (d - f) - c4 - c4, p.2.1 * p.2.2 + p.2.1 * p.2.2)
def jaddH (p : Jac) (q : Pt) : Fq := q.1 * (p.2.2 * p.2.2) - p.1
def jaddR (p : Jac) (q : Pt) : Fq := q.2 * p.2.2 * (p.2.2 * p.2.2) - p.2.1
def jaddN (p : Jac) (q : Pt) : Jac :=
  let zz := p.2.2 * p.2.2
  let h := jaddH p q
  let r := jaddR p q + jaddR p q
  let hh := h * h
  let i := (hh + hh) + (hh + hh)
  let j := h * i
  let v := p.1 * i
  let x := r * r - j - v - v
  let yj := p.2.1 * j
  (x, r * (v - x) - yj - yj, (p.2.2 + h) * (p.2.2 + h) - zz - hh)
def jadd (p : Jac) (q : Pt) : Jac :=
  if q = (0, 0) then p else if p.2.2 = 0 then tojac q else if jaddH p q = 0 then (if jaddR p q = 0 then jdbl p else (0, 0, 0)) else jaddN p q
def point (p : Jac) : Pt := if p.2.2 = 0 then (0, 0) else
  let i := inv p.2.2
  let i2 := i * i
  (p.1 * i2, p.2.1 * i2 * i)
def padd (p q : Pt) : Pt := point (jadd (tojac p) q)
theorem Inv_call {x : Fq} {w : World} (hG : Blocks (GH T) w) : Vm.Pure Tryd.prog 97 #[encF x, .agg #[u64 13402431016077863593, u64 2210141511517208575, u64 7435674573564081700, u64 7239337960414712511, u64 5412103778470702295, u64 1873798617647539866]] w (encF (inv x)) := by
  have h := power_ok (x := x) (E := pp - 2) (by decide) hG
  have e : Value.agg #[u64 (lim (pp - 2) 0), u64 (lim (pp - 2) 1), u64 (lim (pp - 2) 2), u64 (lim (pp - 2) 3), u64 (lim (pp - 2) 4), u64 (lim (pp - 2) 5)] = .agg #[u64 13402431016077863593, u64 2210141511517208575, u64 7435674573564081700, u64 7239337960414712511, u64 5412103778470702295, u64 1873798617647539866] := by kernel_rfl
  rw [e] at h
  exact h
theorem dt {p : Prop} [Decidable p] (h : decide p = true) : p := of_decide_eq_true h
theorem df {p : Prop} [Decidable p] (h : decide p = false) : ¬ p := of_decide_eq_false h
theorem pneg_yes {p : Pt} (h : decide (p = (0, 0)) = true) : pneg p = p := if_pos (dt h)
theorem pneg_no {p : Pt} (h : decide (p = (0, 0)) = false) : pneg p = (p.1, 0 - p.2) := if_neg (df h)
theorem tojac_yes {p : Pt} (h : decide (p = (0, 0)) = true) : tojac p = (0, 0, 0) := if_pos (dt h)
theorem tojac_no {p : Pt} (h : decide (p = (0, 0)) = false) : tojac p = (p.1, p.2, Zp.of 1) := if_neg (df h)
theorem point_yes {p : Jac} (h : decide (p.2.2 = 0) = true) : point p = (0, 0) := if_pos (dt h)
theorem point_no {p : Jac} (h : decide (p.2.2 = 0) = false) : point p = (p.1 * (inv p.2.2 * inv p.2.2), p.2.1 * (inv p.2.2 * inv p.2.2) * inv p.2.2) := if_neg (df h)
theorem jdbl_z {p : Jac} (h : decide (p.2.2 = 0) = true) : jdbl p = (0, 0, 0) := if_pos (dt h)
theorem jdbl_y {p : Jac} (h : decide (p.2.2 = 0) = false) (h2 : decide (p.2.1 = 0) = true) : jdbl p = (0, 0, 0) := (if_neg (df h)).trans (if_pos (dt h2))
theorem jdbl_no {p : Jac} (h : decide (p.2.2 = 0) = false) (h2 : decide (p.2.1 = 0) = false) : jdbl p = (
    let a := p.1 * p.1
    let b := p.2.1 * p.2.1
    let c := b * b
    let d0 := (p.1 + b) * (p.1 + b) - a - c
    let d := d0 + d0
    let e := a + a + a
    let f := e * e - d - d
    let c4 := (c + c) + (c + c)
    (f, e * (d - f) - c4 - c4, p.2.1 * p.2.2 + p.2.1 * p.2.2)) := (if_neg (df h)).trans (if_neg (df h2))
theorem jadd_q {p : Jac} {q : Pt} (h : decide (q = (0, 0)) = true) : jadd p q = p := if_pos (dt h)
theorem jadd_p {p : Jac} {q : Pt} (h : decide (q = (0, 0)) = false) (h2 : decide (p.2.2 = 0) = true) : jadd p q = tojac q := (if_neg (df h)).trans (if_pos (dt h2))
theorem jadd_d {p : Jac} {q : Pt} (h : decide (q = (0, 0)) = false) (h2 : decide (p.2.2 = 0) = false) (h3 : decide (jaddH p q = 0) = true) (h4 : decide (jaddR p q = 0) = true) : jadd p q = jdbl p :=
  (if_neg (df h)).trans ((if_neg (df h2)).trans ((if_pos (dt h3)).trans (if_pos (dt h4))))
theorem jadd_o {p : Jac} {q : Pt} (h : decide (q = (0, 0)) = false) (h2 : decide (p.2.2 = 0) = false) (h3 : decide (jaddH p q = 0) = true) (h4 : decide (jaddR p q = 0) = false) : jadd p q = (0, 0, 0) :=
  (if_neg (df h)).trans ((if_neg (df h2)).trans ((if_pos (dt h3)).trans (if_neg (df h4))))
theorem jadd_n {p : Jac} {q : Pt} (h : decide (q = (0, 0)) = false) (h2 : decide (p.2.2 = 0) = false) (h3 : decide (jaddH p q = 0) = false) : jadd p q = jaddN p q :=
  (if_neg (df h)).trans ((if_neg (df h2)).trans (if_neg (df h3)))

theorem bld30 {x y : Fq} : BuildTo Tryd.prog 30 [(0, encF x), (1, encF y)] (encP (x, y)) := BuildTo.of fun _ => by kernel_rfl
theorem bld74 {x y z : Fq} : BuildTo Tryd.prog 74 [(0, encF x), (1, encF y), (2, encF z)] (encJ (x, y, z)) := BuildTo.of fun _ => by kernel_rfl
theorem bz30 : ZeroTo Tryd.prog 30 (encP (0, 0)) := ZeroTo.of fun _ => by kernel_rfl
theorem bz74 : ZeroTo Tryd.prog 74 (encJ (0, 0, 0)) := ZeroTo.of fun _ => by kernel_rfl
theorem en33 : Vm.Enters Tryd.prog 33 := Vm.Enters.of fun _ _ => by kernel_rfl
theorem en52 : Vm.Enters Tryd.prog 52 := Vm.Enters.of fun _ _ => by kernel_rfl
theorem en53 : Vm.Enters Tryd.prog 53 := Vm.Enters.of fun _ _ => by kernel_rfl
theorem en54 : Vm.Enters Tryd.prog 54 := Vm.Enters.of fun _ _ => by kernel_rfl
theorem en55 : Vm.Enters Tryd.prog 55 := Vm.Enters.of fun _ _ => by kernel_rfl
theorem en58 : Vm.Enters Tryd.prog 58 := Vm.Enters.of fun _ _ => by kernel_rfl
theorem en61 : Vm.Enters Tryd.prog 61 := Vm.Enters.of fun _ _ => by kernel_rfl
theorem en63 : Vm.Enters Tryd.prog 63 := Vm.Enters.of fun _ _ => by kernel_rfl
theorem en95 : Vm.Enters Tryd.prog 95 := Vm.Enters.of fun _ _ => by kernel_rfl
theorem en96 : Vm.Enters Tryd.prog 96 := Vm.Enters.of fun _ _ => by kernel_rfl
theorem en97 : Vm.Enters Tryd.prog 97 := Vm.Enters.of fun _ _ => by kernel_rfl
theorem fl30_0 : TyF Tryd.prog 30 0 0 6 := ⟨⟨28, by kernel_rfl, by kernel_rfl⟩, by decide⟩
theorem fl30_1 : TyF Tryd.prog 30 1 6 6 := ⟨⟨28, by kernel_rfl, by kernel_rfl⟩, by decide⟩
theorem fl74_0 : TyF Tryd.prog 74 0 0 6 := ⟨⟨28, by kernel_rfl, by kernel_rfl⟩, by decide⟩
theorem fl74_1 : TyF Tryd.prog 74 1 6 6 := ⟨⟨28, by kernel_rfl, by kernel_rfl⟩, by decide⟩
theorem fl74_2 : TyF Tryd.prog 74 2 12 6 := ⟨⟨28, by kernel_rfl, by kernel_rfl⟩, by decide⟩
theorem sz30 : sizeIn Tryd.prog 30 = some 12 := by kernel_rfl
theorem sz74 : sizeIn Tryd.prog 74 = some 18 := by kernel_rfl
theorem ty30 : TyA Tryd.prog 30 12 := ⟨by kernel_rfl, by kernel_rfl⟩
theorem ty74 : TyA Tryd.prog 74 18 := ⟨by kernel_rfl, by kernel_rfl⟩
theorem z30 : TyZ Tryd.prog 30 (.agg #[.int .u64 0, .int .u64 0, .int .u64 0, .int .u64 0, .int .u64 0, .int .u64 0, .int .u64 0, .int .u64 0, .int .u64 0, .int .u64 0, .int .u64 0, .int .u64 0]) [.int .u64 0, .int .u64 0, .int .u64 0, .int .u64 0, .int .u64 0, .int .u64 0, .int .u64 0, .int .u64 0, .int .u64 0, .int .u64 0, .int .u64 0, .int .u64 0] := ⟨fun _ => by kernel_rfl, by kernel_rfl⟩
theorem z74 : TyZ Tryd.prog 74 (.agg #[.int .u64 0, .int .u64 0, .int .u64 0, .int .u64 0, .int .u64 0, .int .u64 0, .int .u64 0, .int .u64 0, .int .u64 0, .int .u64 0, .int .u64 0, .int .u64 0, .int .u64 0, .int .u64 0, .int .u64 0, .int .u64 0, .int .u64 0, .int .u64 0]) [.int .u64 0, .int .u64 0, .int .u64 0, .int .u64 0, .int .u64 0, .int .u64 0, .int .u64 0, .int .u64 0, .int .u64 0, .int .u64 0, .int .u64 0, .int .u64 0, .int .u64 0, .int .u64 0, .int .u64 0, .int .u64 0, .int .u64 0, .int .u64 0] := ⟨fun _ => by kernel_rfl, by kernel_rfl⟩
theorem Inv_ok {x : Fq} {w : World} (hG : Blocks (GH T) w)  : Vm.Pure Tryd.prog 96 #[encF x] w (encF (inv x)) := by
  refine pure_of_W (n := 12) (args := [encF x]) Tryd.func96 rfl Tryd.ntmps96 (Nat.le_of_ble_eq_true rfl) hG ?_
  refine sStart ?_
  refine sSeq ?_
  refine W.region ?_
  refine OpsW.fresh (fr_box rfl rfl) rfl fun b1 => ?_
  refine OpsW.fresh (fr_alloc z28) rfl fun b2 => ?_
  refine sNext ?_
  refine W.keep (F' := [(2, _), (1, _)]) ⟨rfl, rfl, trivial⟩ ?_
  refine sSeq ?_
  refine W.region ?_
  refine OpsW.det (det_loadA_ro ty26 rfl (List.Mem.tail _ (List.Mem.tail _ (List.Mem.head _))) rfl) rfl ?_
  refine OpsW.fresh (fr_alloc z26) rfl fun b3 => ?_
  refine OpsW.store sz26 rfl rfl rfl rfl rfl (Upd.here) rfl ?_
  refine sNext ?_
  refine W.keep (F' := [(3, _), (2, _), (1, _)]) ⟨rfl, rfl, rfl, trivial⟩ ?_
  refine sSeq ?_
  refine W.region ?_
  refine OpsW.det (det_indexAddr_arr u26 sz25 rfl rfl ⟨by decide, by decide⟩) rfl ?_
  refine OpsW.det (det_loadC ty25 rfl (List.Mem.head _) rfl) rfl ?_
  refine OpsW.det ((det_sub (a := 13402431016077863595) (b := 2) rfl rfl).to (v := u64 13402431016077863593) (by kernel_rfl)) rfl ?_
  refine OpsW.det (det_indexAddr_arr u26 sz25 rfl rfl ⟨by decide, by decide⟩) rfl ?_
  refine OpsW.store sz25 rfl rfl rfl rfl rfl (Upd.here) rfl ?_
  refine sNext ?_
  refine W.keep (F' := [(3, _), (2, _), (1, _)]) ⟨rfl, rfl, rfl, trivial⟩ ?_
  refine sSeq ?_
  refine W.region ?_
  refine OpsW.det (det_loadA ty28 rfl (List.Mem.tail _ (List.Mem.tail _ (List.Mem.head _))) rfl) rfl ?_
  refine OpsW.det (det_loadA ty26 rfl (List.Mem.head _) rfl) rfl ?_
  refine OpsW.det (det_call en97 rfl (fun w hb ho => Inv_call ho.blocks)) rfl ?_
  refine OpsW.store sz28 rfl rfl rfl rfl rfl (Upd.there (Upd.here)) rfl ?_
  refine sNext ?_
  refine W.keep (F' := [(2, _)]) ⟨rfl, trivial⟩ ?_
  refine sRet ?_
  exact done1 Tryd.results96 (rv_cellA ty28 rfl (List.Mem.tail _ (List.Mem.head _)) rfl) rfl
theorem PNeg_ok {p : Pt} {w : World} (hG : Blocks (GH T) w)  : Vm.Pure Tryd.prog 22 #[encP p] w (encP (pneg p)) := by
  refine pure_of_W (n := 13) (args := [encP p]) Tryd.func22 rfl Tryd.ntmps22 (Nat.le_of_ble_eq_true rfl) hG ?_
  refine sStart ?_
  refine sSeq ?_
  refine W.region ?_
  refine OpsW.fresh (fr_box rfl rfl) rfl fun b1 => ?_
  refine OpsW.fresh (fr_alloc z30) rfl fun b2 => ?_
  refine sNext ?_
  refine W.keep (F' := [(2, _), (1, _)]) ⟨rfl, rfl, trivial⟩ ?_
  refine sSeq ?_
  refine sSeq ?_
  refine W.region ?_
  refine OpsW.det (det_loadA ty30 rfl (List.Mem.tail _ (List.Mem.head _)) rfl) rfl ?_
  refine OpsW.det (det_zero bz30) rfl ?_
  refine OpsW.det (det_eql30 rfl rfl) rfl ?_
  refine sNext ?_
  refine W.keep (F' := [(5, _), (2, _), (1, _)]) ⟨rfl, rfl, rfl, trivial⟩ ?_
  refine W.cond rfl (fun hc5 => ?_) (fun hc5 => ?_)
  · skip
    refine sSeq ?_
    refine W.region ?_
    refine OpsW.det (det_loadA ty30 rfl (List.Mem.tail _ (List.Mem.head _)) rfl) rfl ?_
    refine OpsW.store sz30 rfl rfl rfl rfl rfl (Upd.here) rfl ?_
    refine sNext ?_
    refine W.keep (F' := [(2, _)]) ⟨rfl, trivial⟩ ?_
    refine sRet ?_
    exact done1 Tryd.results22 (rv_cellA ty30 rfl (List.Mem.head _) rfl) (congrArg encP (pneg_yes hc5).symm)
  · skip
    refine sSkip ?_
    refine sSeq ?_
    refine W.draw mixed 6 [[], [0], [], [2], [2, 3], [0, 1, 2, 3, 4], [0, 1, 2, 3, 4, 5]] (cl_lt (by decide)) ?_
    refine Head.det rfl (fun β hβ => Det.norm (F' := [(5, _), (2, _), (1, _)]) (H' := [(_, _), (_, _)]) rfl rfl (det_fieldAddr fl30_0 rfl)) ?_
    refine Head.norm (k' := 1) (es' := [.det 7 _]) rfl rfl ?_
    refine Head.det rfl (fun β hβ => Det.norm (F' := [(7, _), (5, _), (2, _), (1, _)]) (H' := [(_, _), (_, _)]) rfl rfl (det_loadA ty28 rfl (List.Mem.tail _ (List.Mem.head _)) rfl)) ?_
    refine Head.norm (k' := 2) (es' := [.det 7 _, .det 8 _]) rfl rfl ?_
    refine Head.det rfl (fun β hβ => Det.norm (F' := [(5, _), (2, _), (1, _)]) (H' := [(_, _), (_, _)]) rfl rfl (det_fieldAddr fl30_1 rfl)) ?_
    refine Head.norm (k' := 3) (es' := [.det 7 _, .det 8 _, .det 9 _]) rfl rfl ?_
    refine Head.det rfl (fun β hβ => Det.norm (F' := [(9, _), (5, _), (2, _), (1, _)]) (H' := [(_, _), (_, _)]) rfl rfl (det_loadA ty28 rfl (List.Mem.tail _ (List.Mem.head _)) rfl)) ?_
    refine Head.norm (k' := 4) (es' := [.det 7 _, .det 8 _, .det 9 _, .det 10 _]) rfl rfl ?_
    refine Head.det rfl (fun β hβ => Det.norm (F' := [(9, _), (10, _), (5, _), (2, _), (1, _)]) (H' := [(_, _), (_, _)]) rfl rfl (det_call en55 rfl (fun w hb ho => Neg_ok ho.blocks))) ?_
    refine Head.norm (k' := 5) (es' := [.det 7 _, .det 8 _, .det 9 _, .det 10 _, .det 11 _]) rfl rfl ?_
    refine Head.det rfl (fun β hβ => Det.norm (F' := [(7, _), (8, _), (9, _), (10, _), (11, _), (5, _), (2, _), (1, _)]) (H' := [(_, _), (_, _)]) rfl rfl (det_build rfl bld30)) ?_
    refine Head.norm (k' := 6) (es' := [.det 7 _, .det 8 _, .det 9 _, .det 10 _, .det 11 _, .det 12 _]) rfl rfl ?_
    refine Head.done ⟨by kernel_rfl, fun β hβ => ?_⟩
    refine OpsW.norm (F' := [(7, _), (8, _), (9, _), (10, _), (11, _), (12, _), (5, _), (2, _), (1, _)]) (H' := [(_, _), (_, _)]) rfl rfl ?_
    refine OpsW.store sz30 rfl rfl rfl rfl rfl (Upd.here) rfl ?_
    refine sNext ?_
    refine W.keep (F' := [(2, _)]) ⟨rfl, trivial⟩ ?_
    refine sRet ?_
    exact done1 Tryd.results22 (rv_cellA ty30 rfl (List.Mem.head _) rfl) (congrArg encP (pneg_no hc5).symm)
theorem POn_ok {p : Pt} {w : World} (hG : Blocks (GH T) w)  : Vm.Pure Tryd.prog 23 #[encP p] w (.bool (onB p)) := by
  refine pure_of_W (n := 20) (args := [encP p]) Tryd.func23 rfl Tryd.ntmps23 (Nat.le_of_ble_eq_true rfl) hG ?_
  refine sStart ?_
  refine sSeq ?_
  refine W.region ?_
  refine OpsW.fresh (fr_box rfl rfl) rfl fun b1 => ?_
  refine OpsW.det (det_assign rfl) rfl ?_
  refine sNext ?_
  refine W.keep (F' := [(1, _)]) ⟨rfl, trivial⟩ ?_
  refine sSeq ?_
  cases hp : decide (p = (0, 0))
  · skip
    refine W.draw mixed 18 [[], [], [0, 1], [0, 1, 2], [0, 1, 2, 3], [0, 1, 2, 3, 4], [0, 1, 2, 3, 4, 5], [0, 1, 2, 3], [0, 1, 2, 3, 7], [0, 1, 2, 3, 4, 5, 6, 7, 8], [0, 1, 2, 3], [0, 1, 2, 3, 10], [0, 1, 2, 3, 4, 5, 6, 7, 8, 9, 10, 11], [0, 1, 2, 3, 4, 5, 6, 7, 8, 9, 10, 11, 12], [0, 1, 2, 3, 4, 5, 6, 7, 8, 9, 10, 11, 12, 13], [0, 1, 2, 3, 4, 5, 6, 7, 8, 9, 10, 11, 12, 13, 14], [0, 1, 2, 3, 4, 5, 6, 7, 8, 9, 10, 11, 12, 13, 14, 15], [0, 1, 2, 3, 4, 5, 6, 7, 8, 9, 10, 11, 12, 13, 14, 15, 16]] (cl_lt (by decide)) ?_
    refine Head.det rfl (fun β hβ => Det.norm (F' := [(1, _)]) (H' := [(_, _)]) rfl rfl (det_loadA ty30 rfl (List.Mem.head _) rfl)) ?_
    refine Head.norm (k' := 1) (es' := [.det 3 _]) rfl rfl ?_
    refine Head.det rfl (fun β hβ => Det.norm (F' := [(1, _)]) (H' := [(_, _)]) rfl rfl (det_zero bz30)) ?_
    refine Head.norm (k' := 2) (es' := [.det 3 _, .det 4 _]) rfl rfl ?_
    refine Head.det rfl (fun β hβ => Det.norm (F' := [(3, _), (4, _), (1, _)]) (H' := [(_, _)]) rfl rfl ((det_eql30 (a := p) rfl rfl).to (congrArg Value.bool hp))) ?_
    refine Head.norm (k' := 3) (es' := [.det 3 _, .det 4 _, .det 5 _]) rfl rfl ?_
    refine Head.det rfl (fun β hβ => Det.norm (F' := [(3, _), (4, _), (5, _), (1, _)]) (H' := [(_, _)]) rfl rfl (det_move rfl)) ?_
    refine Head.norm (k' := 4) (es' := [.det 3 _, .det 4 _, .det 5 _, .det 6 _]) rfl rfl ?_
    refine Head.yes rfl rfl (fun _ _ => rfl) (fun β hβ => Det.norm (F' := [(3, _), (4, _), (5, _), (6, _), (1, _)]) (H' := [(_, _)]) rfl rfl (det_fieldAddr fl30_1 rfl)) ?_
    refine Head.norm (k' := 5) (es' := [.det 3 _, .det 4 _, .det 5 _, .det 6 _, .det 7 _]) rfl rfl ?_
    refine Head.yes rfl rfl (fun _ _ => rfl) (fun β hβ => Det.norm (F' := [(3, _), (4, _), (5, _), (6, _), (7, _), (1, _)]) (H' := [(_, _)]) rfl rfl (det_loadA ty28 rfl (List.Mem.head _) rfl)) ?_
    refine Head.norm (k' := 6) (es' := [.det 3 _, .det 4 _, .det 5 _, .det 6 _, .det 7 _, .det 8 _]) rfl rfl ?_
    refine Head.yes rfl rfl (fun _ _ => rfl) (fun β hβ => Det.norm (F' := [(3, _), (4, _), (5, _), (6, _), (7, _), (8, _), (1, _)]) (H' := [(_, _)]) rfl rfl (det_call en56 rfl (fun w hb ho => Square_ok ho.blocks))) ?_
    refine Head.norm (k' := 7) (es' := [.det 3 _, .det 4 _, .det 5 _, .det 6 _, .det 7 _, .det 8 _, .det 9 _]) rfl rfl ?_
    refine Head.yes rfl rfl (fun _ _ => rfl) (fun β hβ => Det.norm (F' := [(3, _), (4, _), (5, _), (6, _), (1, _)]) (H' := [(_, _)]) rfl rfl (det_fieldAddr fl30_0 rfl)) ?_
    refine Head.norm (k' := 8) (es' := [.det 3 _, .det 4 _, .det 5 _, .det 6 _, .det 7 _, .det 8 _, .det 9 _, .det 10 _]) rfl rfl ?_
    refine Head.yes rfl rfl (fun _ _ => rfl) (fun β hβ => Det.norm (F' := [(3, _), (4, _), (5, _), (6, _), (10, _), (1, _)]) (H' := [(_, _)]) rfl rfl (det_loadA ty28 rfl (List.Mem.head _) rfl)) ?_
    refine Head.norm (k' := 9) (es' := [.det 3 _, .det 4 _, .det 5 _, .det 6 _, .det 7 _, .det 8 _, .det 9 _, .det 10 _, .det 11 _]) rfl rfl ?_
    refine Head.yes rfl rfl (fun _ _ => rfl) (fun β hβ => Det.norm (F' := [(3, _), (4, _), (5, _), (6, _), (7, _), (8, _), (9, _), (10, _), (11, _), (1, _)]) (H' := [(_, _)]) rfl rfl (det_call en56 rfl (fun w hb ho => Square_ok ho.blocks))) ?_
    refine Head.norm (k' := 10) (es' := [.det 3 _, .det 4 _, .det 5 _, .det 6 _, .det 7 _, .det 8 _, .det 9 _, .det 10 _, .det 11 _, .det 12 _]) rfl rfl ?_
    refine Head.yes rfl rfl (fun _ _ => rfl) (fun β hβ => Det.norm (F' := [(3, _), (4, _), (5, _), (6, _), (1, _)]) (H' := [(_, _)]) rfl rfl (det_fieldAddr fl30_0 rfl)) ?_
    refine Head.norm (k' := 11) (es' := [.det 3 _, .det 4 _, .det 5 _, .det 6 _, .det 7 _, .det 8 _, .det 9 _, .det 10 _, .det 11 _, .det 12 _, .det 13 _]) rfl rfl ?_
    refine Head.yes rfl rfl (fun _ _ => rfl) (fun β hβ => Det.norm (F' := [(3, _), (4, _), (5, _), (6, _), (13, _), (1, _)]) (H' := [(_, _)]) rfl rfl (det_loadA ty28 rfl (List.Mem.head _) rfl)) ?_
    refine Head.norm (k' := 12) (es' := [.det 3 _, .det 4 _, .det 5 _, .det 6 _, .det 7 _, .det 8 _, .det 9 _, .det 10 _, .det 11 _, .det 12 _, .det 13 _, .det 14 _]) rfl rfl ?_
    refine Head.yes rfl rfl (fun _ _ => rfl) (fun β hβ => Det.norm (F' := [(3, _), (4, _), (5, _), (6, _), (7, _), (8, _), (9, _), (10, _), (11, _), (12, _), (13, _), (14, _), (1, _)]) (H' := [(_, _)]) rfl rfl (det_call en57 rfl (fun w hb ho => Mul_ok ho.blocks))) ?_
    refine Head.norm (k' := 13) (es' := [.det 3 _, .det 4 _, .det 5 _, .det 6 _, .det 7 _, .det 8 _, .det 9 _, .det 10 _, .det 11 _, .det 12 _, .det 13 _, .det 14 _, .det 15 _]) rfl rfl ?_
    refine Head.yes rfl rfl (fun _ _ => rfl) (fun β hβ => Det.norm (F' := [(3, _), (4, _), (5, _), (6, _), (7, _), (8, _), (9, _), (10, _), (11, _), (12, _), (13, _), (14, _), (15, _), (1, _)]) (H' := [(_, _)]) rfl rfl (det_call en58 rfl (fun w hb ho => four_ok ho.blocks))) ?_
    refine Head.norm (k' := 14) (es' := [.det 3 _, .det 4 _, .det 5 _, .det 6 _, .det 7 _, .det 8 _, .det 9 _, .det 10 _, .det 11 _, .det 12 _, .det 13 _, .det 14 _, .det 15 _, .det 16 _]) rfl rfl ?_
    refine Head.yes rfl rfl (fun _ _ => rfl) (fun β hβ => Det.norm (F' := [(3, _), (4, _), (5, _), (6, _), (7, _), (8, _), (9, _), (10, _), (11, _), (12, _), (13, _), (14, _), (15, _), (16, _), (1, _)]) (H' := [(_, _)]) rfl rfl (det_call en33 rfl (fun w hb ho => Add_ok ho.blocks))) ?_
    refine Head.norm (k' := 15) (es' := [.det 3 _, .det 4 _, .det 5 _, .det 6 _, .det 7 _, .det 8 _, .det 9 _, .det 10 _, .det 11 _, .det 12 _, .det 13 _, .det 14 _, .det 15 _, .det 16 _, .det 17 _]) rfl rfl ?_
    refine Head.yes rfl rfl (fun _ _ => rfl) (fun β hβ => Det.norm (F' := [(3, _), (4, _), (5, _), (6, _), (7, _), (8, _), (9, _), (10, _), (11, _), (12, _), (13, _), (14, _), (15, _), (16, _), (17, _), (1, _)]) (H' := [(_, _)]) rfl rfl (det_eql28 rfl rfl)) ?_
    refine Head.norm (k' := 16) (es' := [.det 3 _, .det 4 _, .det 5 _, .det 6 _, .det 7 _, .det 8 _, .det 9 _, .det 10 _, .det 11 _, .det 12 _, .det 13 _, .det 14 _, .det 15 _, .det 16 _, .det 17 _, .det 18 _]) rfl rfl ?_
    refine Head.det rfl (fun β hβ => Det.norm (F' := [(3, _), (4, _), (5, _), (6, _), (7, _), (8, _), (9, _), (10, _), (11, _), (12, _), (13, _), (14, _), (15, _), (16, _), (17, _), (18, _), (1, _)]) (H' := [(_, _)]) rfl rfl (det_pick rfl rfl)) ?_
    refine Head.norm (k' := 17) (es' := [.det 3 _, .det 4 _, .det 5 _, .det 6 _, .det 7 _, .det 8 _, .det 9 _, .det 10 _, .det 11 _, .det 12 _, .det 13 _, .det 14 _, .det 15 _, .det 16 _, .det 17 _, .det 18 _, .det 19 _]) rfl rfl ?_
    refine Head.det rfl (fun β hβ => Det.norm (F' := [(3, _), (4, _), (5, _), (6, _), (7, _), (8, _), (9, _), (10, _), (11, _), (12, _), (13, _), (14, _), (15, _), (16, _), (17, _), (18, _), (19, _), (1, _)]) (H' := [(_, _)]) rfl rfl (det_assign rfl)) ?_
    refine Head.norm (k' := 18) (es' := [.det 3 _, .det 4 _, .det 5 _, .det 6 _, .det 7 _, .det 8 _, .det 9 _, .det 10 _, .det 11 _, .det 12 _, .det 13 _, .det 14 _, .det 15 _, .det 16 _, .det 17 _, .det 18 _, .det 19 _, .det 2 _]) rfl rfl ?_
    refine Head.done ⟨by kernel_rfl, fun β hβ => ?_⟩
    refine OpsW.norm (F' := [(3, _), (4, _), (5, _), (6, _), (7, _), (8, _), (9, _), (10, _), (11, _), (12, _), (13, _), (14, _), (15, _), (16, _), (17, _), (18, _), (19, _), (2, _), (1, _)]) (H' := [(_, _)]) rfl rfl ?_
    refine sNext ?_
    refine W.keep (F' := [(2, _)]) ⟨rfl, trivial⟩ ?_
    refine sRet ?_
    exact done1 Tryd.results23 (rv_tmp rfl) (by rw [onB, hp]; rfl)
  · skip
    refine W.draw mixed 18 [[], [], [0, 1], [0, 1, 2], [0, 1, 2, 3], [0, 1, 2, 3, 4], [0, 1, 2, 3, 4, 5], [0, 1, 2, 3], [0, 1, 2, 3, 7], [0, 1, 2, 3, 4, 5, 6, 7, 8], [0, 1, 2, 3], [0, 1, 2, 3, 10], [0, 1, 2, 3, 4, 5, 6, 7, 8, 9, 10, 11], [0, 1, 2, 3, 4, 5, 6, 7, 8, 9, 10, 11, 12], [0, 1, 2, 3, 4, 5, 6, 7, 8, 9, 10, 11, 12, 13], [0, 1, 2, 3, 4, 5, 6, 7, 8, 9, 10, 11, 12, 13, 14], [0, 1, 2, 3, 4, 5, 6, 7, 8, 9, 10, 11, 12, 13, 14, 15], [0, 1, 2, 3, 4, 5, 6, 7, 8, 9, 10, 11, 12, 13, 14, 15, 16]] (cl_lt (by decide)) ?_
    refine Head.det rfl (fun β hβ => Det.norm (F' := [(1, _)]) (H' := [(_, _)]) rfl rfl (det_loadA ty30 rfl (List.Mem.head _) rfl)) ?_
    refine Head.norm (k' := 1) (es' := [.det 3 _]) rfl rfl ?_
    refine Head.det rfl (fun β hβ => Det.norm (F' := [(1, _)]) (H' := [(_, _)]) rfl rfl (det_zero bz30)) ?_
    refine Head.norm (k' := 2) (es' := [.det 3 _, .det 4 _]) rfl rfl ?_
    refine Head.det rfl (fun β hβ => Det.norm (F' := [(3, _), (4, _), (1, _)]) (H' := [(_, _)]) rfl rfl ((det_eql30 (a := p) rfl rfl).to (congrArg Value.bool hp))) ?_
    refine Head.norm (k' := 3) (es' := [.det 3 _, .det 4 _, .det 5 _]) rfl rfl ?_
    refine Head.det rfl (fun β hβ => Det.norm (F' := [(3, _), (4, _), (5, _), (1, _)]) (H' := [(_, _)]) rfl rfl (det_move rfl)) ?_
    refine Head.norm (k' := 4) (es' := [.det 3 _, .det 4 _, .det 5 _, .det 6 _]) rfl rfl ?_
    refine Head.no rfl rfl (fun _ _ => rfl) ?_
    refine Head.norm (k' := 5) (es' := [.det 3 _, .det 4 _, .det 5 _, .det 6 _, .det 7 _]) rfl rfl ?_
    refine Head.no rfl rfl (fun _ _ => rfl) ?_
    refine Head.norm (k' := 6) (es' := [.det 3 _, .det 4 _, .det 5 _, .det 6 _, .det 7 _, .det 8 _]) rfl rfl ?_
    refine Head.no rfl rfl (fun _ _ => rfl) ?_
    refine Head.norm (k' := 7) (es' := [.det 3 _, .det 4 _, .det 5 _, .det 6 _, .det 7 _, .det 8 _, .det 9 _]) rfl rfl ?_
    refine Head.no rfl rfl (fun _ _ => rfl) ?_
    refine Head.norm (k' := 8) (es' := [.det 3 _, .det 4 _, .det 5 _, .det 6 _, .det 7 _, .det 8 _, .det 9 _, .det 10 _]) rfl rfl ?_
    refine Head.no rfl rfl (fun _ _ => rfl) ?_
    refine Head.norm (k' := 9) (es' := [.det 3 _, .det 4 _, .det 5 _, .det 6 _, .det 7 _, .det 8 _, .det 9 _, .det 10 _, .det 11 _]) rfl rfl ?_
    refine Head.no rfl rfl (fun _ _ => rfl) ?_
    refine Head.norm (k' := 10) (es' := [.det 3 _, .det 4 _, .det 5 _, .det 6 _, .det 7 _, .det 8 _, .det 9 _, .det 10 _, .det 11 _, .det 12 _]) rfl rfl ?_
    refine Head.no rfl rfl (fun _ _ => rfl) ?_
    refine Head.norm (k' := 11) (es' := [.det 3 _, .det 4 _, .det 5 _, .det 6 _, .det 7 _, .det 8 _, .det 9 _, .det 10 _, .det 11 _, .det 12 _, .det 13 _]) rfl rfl ?_
    refine Head.no rfl rfl (fun _ _ => rfl) ?_
    refine Head.norm (k' := 12) (es' := [.det 3 _, .det 4 _, .det 5 _, .det 6 _, .det 7 _, .det 8 _, .det 9 _, .det 10 _, .det 11 _, .det 12 _, .det 13 _, .det 14 _]) rfl rfl ?_
    refine Head.no rfl rfl (fun _ _ => rfl) ?_
    refine Head.norm (k' := 13) (es' := [.det 3 _, .det 4 _, .det 5 _, .det 6 _, .det 7 _, .det 8 _, .det 9 _, .det 10 _, .det 11 _, .det 12 _, .det 13 _, .det 14 _, .det 15 _]) rfl rfl ?_
    refine Head.no rfl rfl (fun _ _ => rfl) ?_
    refine Head.norm (k' := 14) (es' := [.det 3 _, .det 4 _, .det 5 _, .det 6 _, .det 7 _, .det 8 _, .det 9 _, .det 10 _, .det 11 _, .det 12 _, .det 13 _, .det 14 _, .det 15 _, .det 16 _]) rfl rfl ?_
    refine Head.no rfl rfl (fun _ _ => rfl) ?_
    refine Head.norm (k' := 15) (es' := [.det 3 _, .det 4 _, .det 5 _, .det 6 _, .det 7 _, .det 8 _, .det 9 _, .det 10 _, .det 11 _, .det 12 _, .det 13 _, .det 14 _, .det 15 _, .det 16 _, .det 17 _]) rfl rfl ?_
    refine Head.no rfl rfl (fun _ _ => rfl) ?_
    refine Head.norm (k' := 16) (es' := [.det 3 _, .det 4 _, .det 5 _, .det 6 _, .det 7 _, .det 8 _, .det 9 _, .det 10 _, .det 11 _, .det 12 _, .det 13 _, .det 14 _, .det 15 _, .det 16 _, .det 17 _, .det 18 _]) rfl rfl ?_
    refine Head.det rfl (fun β hβ => Det.norm (F' := [(3, _), (4, _), (5, _), (6, _), (7, _), (8, _), (9, _), (10, _), (11, _), (12, _), (13, _), (14, _), (15, _), (16, _), (17, _), (18, _), (1, _)]) (H' := [(_, _)]) rfl rfl (det_pick rfl rfl)) ?_
    refine Head.norm (k' := 17) (es' := [.det 3 _, .det 4 _, .det 5 _, .det 6 _, .det 7 _, .det 8 _, .det 9 _, .det 10 _, .det 11 _, .det 12 _, .det 13 _, .det 14 _, .det 15 _, .det 16 _, .det 17 _, .det 18 _, .det 19 _]) rfl rfl ?_
    refine Head.det rfl (fun β hβ => Det.norm (F' := [(3, _), (4, _), (5, _), (6, _), (7, _), (8, _), (9, _), (10, _), (11, _), (12, _), (13, _), (14, _), (15, _), (16, _), (17, _), (18, _), (19, _), (1, _)]) (H' := [(_, _)]) rfl rfl (det_assign rfl)) ?_
    refine Head.norm (k' := 18) (es' := [.det 3 _, .det 4 _, .det 5 _, .det 6 _, .det 7 _, .det 8 _, .det 9 _, .det 10 _, .det 11 _, .det 12 _, .det 13 _, .det 14 _, .det 15 _, .det 16 _, .det 17 _, .det 18 _, .det 19 _, .det 2 _]) rfl rfl ?_
    refine Head.done ⟨by kernel_rfl, fun β hβ => ?_⟩
    refine OpsW.norm (F' := [(3, _), (4, _), (5, _), (6, _), (7, _), (8, _), (9, _), (10, _), (11, _), (12, _), (13, _), (14, _), (15, _), (16, _), (17, _), (18, _), (19, _), (2, _), (1, _)]) (H' := [(_, _)]) rfl rfl ?_
    refine sNext ?_
    refine W.keep (F' := [(2, _)]) ⟨rfl, trivial⟩ ?_
    refine sRet ?_
    exact done1 Tryd.results23 (rv_tmp rfl) (by rw [onB, hp]; rfl)
theorem tojac_ok {p : Pt} {w : World} (hG : Blocks (GH T) w)  : Vm.Pure Tryd.prog 52 #[encP p] w (encJ (tojac p)) := by
  refine pure_of_W (n := 13) (args := [encP p]) Tryd.func52 rfl Tryd.ntmps52 (Nat.le_of_ble_eq_true rfl) hG ?_
  refine sStart ?_
  refine sSeq ?_
  refine W.region ?_
  refine OpsW.fresh (fr_box rfl rfl) rfl fun b1 => ?_
  refine OpsW.fresh (fr_alloc z74) rfl fun b2 => ?_
  refine sNext ?_
  refine W.keep (F' := [(2, _), (1, _)]) ⟨rfl, rfl, trivial⟩ ?_
  refine sSeq ?_
  refine sSeq ?_
  refine W.region ?_
  refine OpsW.det (det_loadA ty30 rfl (List.Mem.tail _ (List.Mem.head _)) rfl) rfl ?_
  refine OpsW.det (det_zero bz30) rfl ?_
  refine OpsW.det (det_eql30 rfl rfl) rfl ?_
  refine sNext ?_
  refine W.keep (F' := [(5, _), (2, _), (1, _)]) ⟨rfl, rfl, rfl, trivial⟩ ?_
  refine W.cond rfl (fun hc5 => ?_) (fun hc5 => ?_)
  · skip
    refine sSeq ?_
    refine W.region ?_
    refine OpsW.det (det_zero bz74) rfl ?_
    refine OpsW.store sz74 rfl rfl rfl rfl rfl (Upd.here) rfl ?_
    refine sNext ?_
    refine W.keep (F' := [(2, _)]) ⟨rfl, trivial⟩ ?_
    refine sRet ?_
    exact done1 Tryd.results52 (rv_cellA ty74 rfl (List.Mem.head _) rfl) (congrArg encJ (tojac_yes hc5).symm)
  · skip
    refine sSkip ?_
    refine sSeq ?_
    refine W.draw mixed 6 [[], [0], [], [2], [], [0, 1, 2, 3, 4], [0, 1, 2, 3, 4, 5]] (cl_lt (by decide)) ?_
    refine Head.det rfl (fun β hβ => Det.norm (F' := [(5, _), (2, _), (1, _)]) (H' := [(_, _), (_, _)]) rfl rfl (det_fieldAddr fl30_0 rfl)) ?_
    refine Head.norm (k' := 1) (es' := [.det 7 _]) rfl rfl ?_
    refine Head.det rfl (fun β hβ => Det.norm (F' := [(7, _), (5, _), (2, _), (1, _)]) (H' := [(_, _), (_, _)]) rfl rfl (det_loadA ty28 rfl (List.Mem.tail _ (List.Mem.head _)) rfl)) ?_
    refine Head.norm (k' := 2) (es' := [.det 7 _, .det 8 _]) rfl rfl ?_
    refine Head.det rfl (fun β hβ => Det.norm (F' := [(5, _), (2, _), (1, _)]) (H' := [(_, _), (_, _)]) rfl rfl (det_fieldAddr fl30_1 rfl)) ?_
    refine Head.norm (k' := 3) (es' := [.det 7 _, .det 8 _, .det 9 _]) rfl rfl ?_
    refine Head.det rfl (fun β hβ => Det.norm (F' := [(9, _), (5, _), (2, _), (1, _)]) (H' := [(_, _), (_, _)]) rfl rfl (det_loadA ty28 rfl (List.Mem.tail _ (List.Mem.head _)) rfl)) ?_
    refine Head.norm (k' := 4) (es' := [.det 7 _, .det 8 _, .det 9 _, .det 10 _]) rfl rfl ?_
    refine Head.det rfl (fun β hβ => Det.norm (F' := [(5, _), (2, _), (1, _)]) (H' := [(_, _), (_, _)]) rfl rfl (det_call en95 rfl (fun w hb ho => one_ok ho.blocks))) ?_
    refine Head.norm (k' := 5) (es' := [.det 7 _, .det 8 _, .det 9 _, .det 10 _, .det 11 _]) rfl rfl ?_
    refine Head.det rfl (fun β hβ => Det.norm (F' := [(7, _), (8, _), (9, _), (10, _), (11, _), (5, _), (2, _), (1, _)]) (H' := [(_, _), (_, _)]) rfl rfl (det_build rfl bld74)) ?_
    refine Head.norm (k' := 6) (es' := [.det 7 _, .det 8 _, .det 9 _, .det 10 _, .det 11 _, .det 12 _]) rfl rfl ?_
    refine Head.done ⟨by kernel_rfl, fun β hβ => ?_⟩
    refine OpsW.norm (F' := [(7, _), (8, _), (9, _), (10, _), (11, _), (12, _), (5, _), (2, _), (1, _)]) (H' := [(_, _), (_, _)]) rfl rfl ?_
    refine OpsW.store sz74 rfl rfl rfl rfl rfl (Upd.here) rfl ?_
    refine sNext ?_
    refine W.keep (F' := [(2, _)]) ⟨rfl, trivial⟩ ?_
    refine sRet ?_
    exact done1 Tryd.results52 (rv_cellA ty74 rfl (List.Mem.head _) rfl) (congrArg encJ (tojac_no hc5).symm)
theorem jdbl_ok {p : Jac} {w : World} (hG : Blocks (GH T) w)  : Vm.Pure Tryd.prog 63 #[encJ p] w (encJ (jdbl p)) := by
  refine pure_of_W (n := 75) (args := [encJ p]) Tryd.func63 rfl Tryd.ntmps63 (Nat.le_of_ble_eq_true rfl) hG ?_
  refine sStart ?_
  refine sSeq ?_
  refine W.region ?_
  refine OpsW.fresh (fr_box rfl rfl) rfl fun b1 => ?_
  refine OpsW.fresh (fr_alloc z74) rfl fun b2 => ?_
  refine sNext ?_
  refine W.keep (F' := [(2, _), (1, _)]) ⟨rfl, rfl, trivial⟩ ?_
  refine sSeq ?_
  refine sSeq ?_
  refine W.region ?_
  refine OpsW.det (det_fieldAddr fl74_2 rfl) rfl ?_
  refine OpsW.det (det_loadA ty28 rfl (List.Mem.tail _ (List.Mem.head _)) rfl) rfl ?_
  refine OpsW.test (det_call en61 rfl (fun w hb ho => Zero_ok ho.blocks)) rfl (fun hc12 => ?_) (fun hc12 => ?_)
  · skip
    refine OpsW.det (det_move rfl) rfl ?_
    refine OpsW.guard_no rfl rfl rfl ?_
    refine OpsW.guard_no rfl rfl rfl ?_
    refine OpsW.guard_no rfl rfl rfl ?_
    refine OpsW.det (det_pick rfl rfl) rfl ?_
    refine sNext ?_
    refine W.keep (F' := [(17, _), (2, _), (1, _)]) ⟨rfl, rfl, rfl, trivial⟩ ?_
    refine W.cond_true rfl ?_
    refine sSeq ?_
    refine W.region ?_
    refine OpsW.det (det_zero bz74) rfl ?_
    refine OpsW.store sz74 rfl rfl rfl rfl rfl (Upd.here) rfl ?_
    refine sNext ?_
    refine W.keep (F' := [(2, _)]) ⟨rfl, trivial⟩ ?_
    refine sRet ?_
    exact done1 Tryd.results63 (rv_cellA ty74 rfl (List.Mem.head _) rfl) (congrArg encJ (jdbl_z hc12).symm)
  · skip
    refine OpsW.det (det_move rfl) rfl ?_
    refine OpsW.guard_yes rfl rfl ?_
    refine OpsW.det (det_fieldAddr fl74_1 rfl) rfl ?_
    refine OpsW.guard_yes rfl rfl ?_
    refine OpsW.det (det_loadA ty28 rfl (List.Mem.tail _ (List.Mem.head _)) rfl) rfl ?_
    refine OpsW.guard_yes rfl rfl ?_
    refine OpsW.det (det_call en61 rfl (fun w hb ho => Zero_ok ho.blocks)) rfl ?_
    refine OpsW.det (det_pick rfl rfl) rfl ?_
    refine sNext ?_
    refine W.keep (F' := [(17, _), (2, _), (1, _)]) ⟨rfl, rfl, rfl, trivial⟩ ?_
    refine W.cond rfl (fun hc17 => ?_) (fun hc17 => ?_)
    · skip
      refine sSeq ?_
      refine W.region ?_
      refine OpsW.det (det_zero bz74) rfl ?_
      refine OpsW.store sz74 rfl rfl rfl rfl rfl (Upd.here) rfl ?_
      refine sNext ?_
      refine W.keep (F' := [(2, _)]) ⟨rfl, trivial⟩ ?_
      refine sRet ?_
      exact done1 Tryd.results63 (rv_cellA ty74 rfl (List.Mem.head _) rfl) (congrArg encJ (jdbl_y hc12 hc17).symm)
    · skip
      refine sSkip ?_
      refine sSeq ?_
      refine W.draw mixed 8 [[], [0], [0, 1], [], [3], [0, 1, 2, 3, 4], [], [], [0, 1, 2, 3, 4, 5, 6, 7], [0, 1, 2, 3, 4, 5, 6, 7, 8]] (cl_lt (by decide)) ?_
      refine Head.det rfl (fun β hβ => Det.norm (F' := [(17, _), (2, _), (1, _)]) (H' := [(_, _), (_, _)]) rfl rfl (det_fieldAddr fl74_0 rfl)) ?_
      refine Head.norm (k' := 1) (es' := [.det 19 _]) rfl rfl ?_
      refine Head.det rfl (fun β hβ => Det.norm (F' := [(19, _), (17, _), (2, _), (1, _)]) (H' := [(_, _), (_, _)]) rfl rfl (det_loadA ty28 rfl (List.Mem.tail _ (List.Mem.head _)) rfl)) ?_
      refine Head.norm (k' := 2) (es' := [.det 19 _, .det 20 _]) rfl rfl ?_
      refine Head.det rfl (fun β hβ => Det.norm (F' := [(19, _), (20, _), (17, _), (2, _), (1, _)]) (H' := [(_, _), (_, _)]) rfl rfl (det_call en56 rfl (fun w hb ho => Square_ok ho.blocks))) ?_
      refine Head.norm (k' := 3) (es' := [.det 19 _, .det 20 _, .det 21 _]) rfl rfl ?_
      refine Head.det rfl (fun β hβ => Det.norm (F' := [(17, _), (2, _), (1, _)]) (H' := [(_, _), (_, _)]) rfl rfl (det_fieldAddr fl74_1 rfl)) ?_
      refine Head.norm (k' := 4) (es' := [.det 19 _, .det 20 _, .det 21 _, .det 22 _]) rfl rfl ?_
      refine Head.det rfl (fun β hβ => Det.norm (F' := [(22, _), (17, _), (2, _), (1, _)]) (H' := [(_, _), (_, _)]) rfl rfl (det_loadA ty28 rfl (List.Mem.tail _ (List.Mem.head _)) rfl)) ?_
      refine Head.norm (k' := 5) (es' := [.det 19 _, .det 20 _, .det 21 _, .det 22 _, .det 23 _]) rfl rfl ?_
      refine Head.det rfl (fun β hβ => Det.norm (F' := [(19, _), (20, _), (21, _), (22, _), (23, _), (17, _), (2, _), (1, _)]) (H' := [(_, _), (_, _)]) rfl rfl (det_call en56 rfl (fun w hb ho => Square_ok ho.blocks))) ?_
      refine Head.norm (k' := 6) (es' := [.det 19 _, .det 20 _, .det 21 _, .det 22 _, .det 23 _, .det 24 _]) rfl rfl ?_
      refine Head.fresh rfl (fun β hβ => New.norm (F' := [(17, _), (2, _), (1, _)]) (H' := [(_, _), (_, _)]) rfl rfl (fr_alloc z28).new) ?_
      refine Head.norm (k' := 7) (es' := [.det 19 _, .det 20 _, .det 21 _, .det 22 _, .det 23 _, .det 24 _, .fresh 3 _ _ _]) rfl rfl ?_
      refine Head.fresh rfl (fun β hβ => New.norm (F' := [(17, _), (2, _), (1, _)]) (H' := [(_, _), (_, _)]) rfl rfl (fr_alloc z28).new) ?_
      refine Head.norm (k' := 8) (es' := [.det 19 _, .det 20 _, .det 21 _, .det 22 _, .det 23 _, .det 24 _, .fresh 3 _ _ _, .fresh 4 _ _ _]) rfl rfl ?_
      refine Head.done ⟨by kernel_rfl, fun β hβ => ?_⟩
      refine OpsW.norm (F' := [(19, _), (20, _), (21, _), (22, _), (23, _), (24, _), (3, .pointer (some ⟨(β 3).1, 0, none⟩)), (4, .pointer (some ⟨(β 4).1, 0, none⟩)), (17, _), (2, _), (1, _)]) (H' := [(_, _), (_, _), (_, _), (_, _)]) rfl rfl ?_
      generalize (β 3).1 = b3
      generalize (β 4).1 = b4
      refine OpsW.store sz28 rfl rfl rfl rfl rfl (Upd.here) rfl ?_
      refine OpsW.store sz28 rfl rfl rfl rfl rfl (Upd.there (Upd.here)) rfl ?_
      refine sNext ?_
      refine W.keep (F' := [(3, _), (4, _), (2, _), (1, _)]) ⟨rfl, rfl, rfl, rfl, trivial⟩ ?_
      refine sSeq ?_
      refine W.region ?_
      refine OpsW.det (det_loadA ty28 rfl (List.Mem.tail _ (List.Mem.head _)) rfl) rfl ?_
      refine OpsW.det (det_call en56 rfl (fun w hb ho => Square_ok ho.blocks)) rfl ?_
      refine OpsW.fresh (fr_alloc z28) rfl fun b5 => ?_
      refine OpsW.store sz28 rfl rfl rfl rfl rfl (Upd.here) rfl ?_
      refine sNext ?_
      refine W.keep (F' := [(5, _), (3, _), (4, _), (2, _), (1, _)]) ⟨rfl, rfl, rfl, rfl, rfl, trivial⟩ ?_
      refine sSeq ?_
      refine W.draw mixed 10 [[], [0], [], [0, 1, 2], [0, 1, 2, 3], [], [0, 1, 2, 3, 4, 5], [], [0, 1, 2, 3, 4, 5, 6, 7], [], [0, 1, 2, 3, 4, 5, 6, 7, 8, 9]] (cl_lt (by decide)) ?_
      refine Head.det rfl (fun β hβ => Det.norm (F' := [(5, _), (3, _), (4, _), (2, _), (1, _)]) (H' := [(_, _), (_, _), (_, _), (_, _), (_, _)]) rfl rfl (det_fieldAddr fl74_0 rfl)) ?_
      refine Head.norm (k' := 1) (es' := [.det 27 _]) rfl rfl ?_
      refine Head.det rfl (fun β hβ => Det.norm (F' := [(27, _), (5, _), (3, _), (4, _), (2, _), (1, _)]) (H' := [(_, _), (_, _), (_, _), (_, _), (_, _)]) rfl rfl (det_loadA ty28 rfl (List.Mem.tail _ (List.Mem.tail _ (List.Mem.tail _ (List.Mem.tail _ (List.Mem.head _))))) rfl)) ?_
      refine Head.norm (k' := 2) (es' := [.det 27 _, .det 28 _]) rfl rfl ?_
      refine Head.det rfl (fun β hβ => Det.norm (F' := [(5, _), (3, _), (4, _), (2, _), (1, _)]) (H' := [(_, _), (_, _), (_, _), (_, _), (_, _)]) rfl rfl (det_loadA ty28 rfl (List.Mem.tail _ (List.Mem.tail _ (List.Mem.head _))) rfl)) ?_
      refine Head.norm (k' := 3) (es' := [.det 27 _, .det 28 _, .det 29 _]) rfl rfl ?_
      refine Head.det rfl (fun β hβ => Det.norm (F' := [(27, _), (28, _), (29, _), (5, _), (3, _), (4, _), (2, _), (1, _)]) (H' := [(_, _), (_, _), (_, _), (_, _), (_, _)]) rfl rfl (det_call en33 rfl (fun w hb ho => Add_ok ho.blocks))) ?_
      refine Head.norm (k' := 4) (es' := [.det 27 _, .det 28 _, .det 29 _, .det 30 _]) rfl rfl ?_
      refine Head.det rfl (fun β hβ => Det.norm (F' := [(27, _), (28, _), (29, _), (30, _), (5, _), (3, _), (4, _), (2, _), (1, _)]) (H' := [(_, _), (_, _), (_, _), (_, _), (_, _)]) rfl rfl (det_call en56 rfl (fun w hb ho => Square_ok ho.blocks))) ?_
      refine Head.norm (k' := 5) (es' := [.det 27 _, .det 28 _, .det 29 _, .det 30 _, .det 31 _]) rfl rfl ?_
      refine Head.det rfl (fun β hβ => Det.norm (F' := [(5, _), (3, _), (4, _), (2, _), (1, _)]) (H' := [(_, _), (_, _), (_, _), (_, _), (_, _)]) rfl rfl (det_loadA ty28 rfl (List.Mem.tail _ (List.Mem.head _)) rfl)) ?_
      refine Head.norm (k' := 6) (es' := [.det 27 _, .det 28 _, .det 29 _, .det 30 _, .det 31 _, .det 32 _]) rfl rfl ?_
      refine Head.det rfl (fun β hβ => Det.norm (F' := [(27, _), (28, _), (29, _), (30, _), (31, _), (32, _), (5, _), (3, _), (4, _), (2, _), (1, _)]) (H' := [(_, _), (_, _), (_, _), (_, _), (_, _)]) rfl rfl (det_call en67 rfl (fun w hb ho => Sub_ok ho.blocks))) ?_
      refine Head.norm (k' := 7) (es' := [.det 27 _, .det 28 _, .det 29 _, .det 30 _, .det 31 _, .det 32 _, .det 33 _]) rfl rfl ?_
      refine Head.det rfl (fun β hβ => Det.norm (F' := [(5, _), (3, _), (4, _), (2, _), (1, _)]) (H' := [(_, _), (_, _), (_, _), (_, _), (_, _)]) rfl rfl (det_loadA ty28 rfl (List.Mem.head _) rfl)) ?_
      refine Head.norm (k' := 8) (es' := [.det 27 _, .det 28 _, .det 29 _, .det 30 _, .det 31 _, .det 32 _, .det 33 _, .det 34 _]) rfl rfl ?_
      refine Head.det rfl (fun β hβ => Det.norm (F' := [(27, _), (28, _), (29, _), (30, _), (31, _), (32, _), (33, _), (34, _), (5, _), (3, _), (4, _), (2, _), (1, _)]) (H' := [(_, _), (_, _), (_, _), (_, _), (_, _)]) rfl rfl (det_call en67 rfl (fun w hb ho => Sub_ok ho.blocks))) ?_
      refine Head.norm (k' := 9) (es' := [.det 27 _, .det 28 _, .det 29 _, .det 30 _, .det 31 _, .det 32 _, .det 33 _, .det 34 _, .det 35 _]) rfl rfl ?_
      refine Head.fresh rfl (fun β hβ => New.norm (F' := [(5, _), (3, _), (4, _), (2, _), (1, _)]) (H' := [(_, _), (_, _), (_, _), (_, _), (_, _)]) rfl rfl (fr_alloc z28).new) ?_
      refine Head.norm (k' := 10) (es' := [.det 27 _, .det 28 _, .det 29 _, .det 30 _, .det 31 _, .det 32 _, .det 33 _, .det 34 _, .det 35 _, .fresh 6 _ _ _]) rfl rfl ?_
      refine Head.done ⟨by kernel_rfl, fun β hβ => ?_⟩
      refine OpsW.norm (F' := [(27, _), (28, _), (29, _), (30, _), (31, _), (32, _), (33, _), (34, _), (35, _), (6, .pointer (some ⟨(β 6).1, 0, none⟩)), (5, _), (3, _), (4, _), (2, _), (1, _)]) (H' := [(_, _), (_, _), (_, _), (_, _), (_, _), (_, _)]) rfl rfl ?_
      generalize (β 6).1 = b6
      refine OpsW.store sz28 rfl rfl rfl rfl rfl (Upd.here) rfl ?_
      refine sNext ?_
      refine W.keep (F' := [(6, _), (5, _), (3, _), (2, _), (1, _)]) ⟨rfl, rfl, rfl, rfl, rfl, trivial⟩ ?_
      refine sSeq ?_
      refine W.region ?_
      refine OpsW.det (det_loadA ty28 rfl (List.Mem.head _) rfl) rfl ?_
      refine OpsW.det (det_loadA ty28 rfl (List.Mem.head _) rfl) rfl ?_
      refine OpsW.det (det_call en33 rfl (fun w hb ho => Add_ok ho.blocks)) rfl ?_
      refine OpsW.store sz28 rfl rfl rfl rfl rfl (Upd.here) rfl ?_
      refine sNext ?_
      refine W.keep (F' := [(6, _), (5, _), (3, _), (2, _), (1, _)]) ⟨rfl, rfl, rfl, rfl, rfl, trivial⟩ ?_
      refine sSeq ?_
      refine W.draw mixed 6 [[], [], [0, 1], [], [0, 1, 2, 3], [], [0, 1, 2, 3, 4, 5]] (cl_lt (by decide)) ?_
      refine Head.det rfl (fun β hβ => Det.norm (F' := [(6, _), (5, _), (3, _), (2, _), (1, _)]) (H' := [(_, _), (_, _), (_, _), (_, _), (_, _), (_, _)]) rfl rfl (det_loadA ty28 rfl (List.Mem.tail _ (List.Mem.tail _ (List.Mem.head _))) rfl)) ?_
      refine Head.norm (k' := 1) (es' := [.det 39 _]) rfl rfl ?_
      refine Head.det rfl (fun β hβ => Det.norm (F' := [(6, _), (5, _), (3, _), (2, _), (1, _)]) (H' := [(_, _), (_, _), (_, _), (_, _), (_, _), (_, _)]) rfl rfl (det_loadA ty28 rfl (List.Mem.tail _ (List.Mem.tail _ (List.Mem.head _))) rfl)) ?_
      refine Head.norm (k' := 2) (es' := [.det 39 _, .det 40 _]) rfl rfl ?_
      refine Head.det rfl (fun β hβ => Det.norm (F' := [(39, _), (40, _), (6, _), (5, _), (3, _), (2, _), (1, _)]) (H' := [(_, _), (_, _), (_, _), (_, _), (_, _), (_, _)]) rfl rfl (det_call en33 rfl (fun w hb ho => Add_ok ho.blocks))) ?_
      refine Head.norm (k' := 3) (es' := [.det 39 _, .det 40 _, .det 41 _]) rfl rfl ?_
      refine Head.det rfl (fun β hβ => Det.norm (F' := [(6, _), (5, _), (3, _), (2, _), (1, _)]) (H' := [(_, _), (_, _), (_, _), (_, _), (_, _), (_, _)]) rfl rfl (det_loadA ty28 rfl (List.Mem.tail _ (List.Mem.tail _ (List.Mem.head _))) rfl)) ?_
      refine Head.norm (k' := 4) (es' := [.det 39 _, .det 40 _, .det 41 _, .det 42 _]) rfl rfl ?_
      refine Head.det rfl (fun β hβ => Det.norm (F' := [(39, _), (40, _), (41, _), (42, _), (6, _), (5, _), (3, _), (2, _), (1, _)]) (H' := [(_, _), (_, _), (_, _), (_, _), (_, _), (_, _)]) rfl rfl (det_call en33 rfl (fun w hb ho => Add_ok ho.blocks))) ?_
      refine Head.norm (k' := 5) (es' := [.det 39 _, .det 40 _, .det 41 _, .det 42 _, .det 43 _]) rfl rfl ?_
      refine Head.fresh rfl (fun β hβ => New.norm (F' := [(6, _), (5, _), (3, _), (2, _), (1, _)]) (H' := [(_, _), (_, _), (_, _), (_, _), (_, _), (_, _)]) rfl rfl (fr_alloc z28).new) ?_
      refine Head.norm (k' := 6) (es' := [.det 39 _, .det 40 _, .det 41 _, .det 42 _, .det 43 _, .fresh 7 _ _ _]) rfl rfl ?_
      refine Head.done ⟨by kernel_rfl, fun β hβ => ?_⟩
      refine OpsW.norm (F' := [(39, _), (40, _), (41, _), (42, _), (43, _), (7, .pointer (some ⟨(β 7).1, 0, none⟩)), (6, _), (5, _), (3, _), (2, _), (1, _)]) (H' := [(_, _), (_, _), (_, _), (_, _), (_, _), (_, _), (_, _)]) rfl rfl ?_
      generalize (β 7).1 = b7
      refine OpsW.store sz28 rfl rfl rfl rfl rfl (Upd.here) rfl ?_
      refine sNext ?_
      refine W.keep (F' := [(7, _), (6, _), (5, _), (2, _), (1, _)]) ⟨rfl, rfl, rfl, rfl, rfl, trivial⟩ ?_
      refine sSeq ?_
      refine W.draw mixed 7 [[], [0], [], [0, 1, 2], [], [0, 1, 2, 3, 4], [], [0, 1, 2, 3, 4, 5, 6]] (cl_lt (by decide)) ?_
      refine Head.det rfl (fun β hβ => Det.norm (F' := [(7, _), (6, _), (5, _), (2, _), (1, _)]) (H' := [(_, _), (_, _), (_, _), (_, _), (_, _), (_, _), (_, _)]) rfl rfl (det_loadA ty28 rfl (List.Mem.head _) rfl)) ?_
      refine Head.norm (k' := 1) (es' := [.det 44 _]) rfl rfl ?_
      refine Head.det rfl (fun β hβ => Det.norm (F' := [(44, _), (7, _), (6, _), (5, _), (2, _), (1, _)]) (H' := [(_, _), (_, _), (_, _), (_, _), (_, _), (_, _), (_, _)]) rfl rfl (det_call en56 rfl (fun w hb ho => Square_ok ho.blocks))) ?_
      refine Head.norm (k' := 2) (es' := [.det 44 _, .det 45 _]) rfl rfl ?_
      refine Head.det rfl (fun β hβ => Det.norm (F' := [(7, _), (6, _), (5, _), (2, _), (1, _)]) (H' := [(_, _), (_, _), (_, _), (_, _), (_, _), (_, _), (_, _)]) rfl rfl (det_loadA ty28 rfl (List.Mem.tail _ (List.Mem.head _)) rfl)) ?_
      refine Head.norm (k' := 3) (es' := [.det 44 _, .det 45 _, .det 46 _]) rfl rfl ?_
      refine Head.det rfl (fun β hβ => Det.norm (F' := [(44, _), (45, _), (46, _), (7, _), (6, _), (5, _), (2, _), (1, _)]) (H' := [(_, _), (_, _), (_, _), (_, _), (_, _), (_, _), (_, _)]) rfl rfl (det_call en67 rfl (fun w hb ho => Sub_ok ho.blocks))) ?_
      refine Head.norm (k' := 4) (es' := [.det 44 _, .det 45 _, .det 46 _, .det 47 _]) rfl rfl ?_
      refine Head.det rfl (fun β hβ => Det.norm (F' := [(7, _), (6, _), (5, _), (2, _), (1, _)]) (H' := [(_, _), (_, _), (_, _), (_, _), (_, _), (_, _), (_, _)]) rfl rfl (det_loadA ty28 rfl (List.Mem.tail _ (List.Mem.head _)) rfl)) ?_
      refine Head.norm (k' := 5) (es' := [.det 44 _, .det 45 _, .det 46 _, .det 47 _, .det 48 _]) rfl rfl ?_
      refine Head.det rfl (fun β hβ => Det.norm (F' := [(44, _), (45, _), (46, _), (47, _), (48, _), (7, _), (6, _), (5, _), (2, _), (1, _)]) (H' := [(_, _), (_, _), (_, _), (_, _), (_, _), (_, _), (_, _)]) rfl rfl (det_call en67 rfl (fun w hb ho => Sub_ok ho.blocks))) ?_
      refine Head.norm (k' := 6) (es' := [.det 44 _, .det 45 _, .det 46 _, .det 47 _, .det 48 _, .det 49 _]) rfl rfl ?_
      refine Head.fresh rfl (fun β hβ => New.norm (F' := [(7, _), (6, _), (5, _), (2, _), (1, _)]) (H' := [(_, _), (_, _), (_, _), (_, _), (_, _), (_, _), (_, _)]) rfl rfl (fr_alloc z28).new) ?_
      refine Head.norm (k' := 7) (es' := [.det 44 _, .det 45 _, .det 46 _, .det 47 _, .det 48 _, .det 49 _, .fresh 8 _ _ _]) rfl rfl ?_
      refine Head.done ⟨by kernel_rfl, fun β hβ => ?_⟩
      refine OpsW.norm (F' := [(44, _), (45, _), (46, _), (47, _), (48, _), (49, _), (8, .pointer (some ⟨(β 8).1, 0, none⟩)), (7, _), (6, _), (5, _), (2, _), (1, _)]) (H' := [(_, _), (_, _), (_, _), (_, _), (_, _), (_, _), (_, _), (_, _)]) rfl rfl ?_
      generalize (β 8).1 = b8
      refine OpsW.store sz28 rfl rfl rfl rfl rfl (Upd.here) rfl ?_
      refine sNext ?_
      refine W.keep (F' := [(8, _), (7, _), (6, _), (5, _), (2, _), (1, _)]) ⟨rfl, rfl, rfl, rfl, rfl, rfl, trivial⟩ ?_
      refine sSeq ?_
      refine W.region ?_
      refine OpsW.det (det_loadA ty28 rfl (List.Mem.tail _ (List.Mem.tail _ (List.Mem.tail _ (List.Mem.head _)))) rfl) rfl ?_
      refine OpsW.det (det_loadA ty28 rfl (List.Mem.tail _ (List.Mem.tail _ (List.Mem.tail _ (List.Mem.head _)))) rfl) rfl ?_
      refine OpsW.det (det_call en33 rfl (fun w hb ho => Add_ok ho.blocks)) rfl ?_
      refine OpsW.store sz28 rfl rfl rfl rfl rfl (Upd.there (Upd.there (Upd.there (Upd.here)))) rfl ?_
      refine sNext ?_
      refine W.keep (F' := [(8, _), (7, _), (6, _), (5, _), (2, _), (1, _)]) ⟨rfl, rfl, rfl, rfl, rfl, rfl, trivial⟩ ?_
      refine sSeq ?_
      refine W.region ?_
      refine OpsW.det (det_loadA ty28 rfl (List.Mem.tail _ (List.Mem.tail _ (List.Mem.tail _ (List.Mem.head _)))) rfl) rfl ?_
      refine OpsW.det (det_loadA ty28 rfl (List.Mem.tail _ (List.Mem.tail _ (List.Mem.tail _ (List.Mem.head _)))) rfl) rfl ?_
      refine OpsW.det (det_call en33 rfl (fun w hb ho => Add_ok ho.blocks)) rfl ?_
      refine OpsW.store sz28 rfl rfl rfl rfl rfl (Upd.there (Upd.there (Upd.there (Upd.here)))) rfl ?_
      refine sNext ?_
      refine W.keep (F' := [(8, _), (7, _), (6, _), (5, _), (2, _), (1, _)]) ⟨rfl, rfl, rfl, rfl, rfl, rfl, trivial⟩ ?_
      refine sSeq ?_
      refine W.region ?_
      refine OpsW.det (det_fieldAddr fl74_1 rfl) rfl ?_
      refine OpsW.det (det_loadA ty28 rfl (List.Mem.tail _ (List.Mem.tail _ (List.Mem.tail _ (List.Mem.tail _ (List.Mem.tail _ (List.Mem.tail _ (List.Mem.tail _ (List.Mem.head _)))))))) rfl) rfl ?_
      refine OpsW.det (det_fieldAddr fl74_2 rfl) rfl ?_
      refine OpsW.det (det_loadA ty28 rfl (List.Mem.tail _ (List.Mem.tail _ (List.Mem.tail _ (List.Mem.tail _ (List.Mem.tail _ (List.Mem.tail _ (List.Mem.tail _ (List.Mem.head _)))))))) rfl) rfl ?_
      refine OpsW.det (det_call en57 rfl (fun w hb ho => Mul_ok ho.blocks)) rfl ?_
      refine OpsW.fresh (fr_alloc z28) rfl fun b9 => ?_
      refine OpsW.store sz28 rfl rfl rfl rfl rfl (Upd.here) rfl ?_
      refine sNext ?_
      refine W.keep (F' := [(9, _), (8, _), (7, _), (6, _), (5, _), (2, _)]) ⟨rfl, rfl, rfl, rfl, rfl, rfl, trivial⟩ ?_
      refine sSeq ?_
      refine W.draw mixed 14 [[], [], [], [], [2, 3], [1, 2, 3, 4], [], [1, 2, 3, 4, 5, 6], [], [1, 2, 3, 4, 5, 6, 7, 8], [], [], [1, 2, 3, 4, 5, 6, 7, 8, 9, 10, 11], [0, 1, 2, 3, 4, 5, 6, 7, 8, 9, 10, 11, 12], [0, 1, 2, 3, 4, 5, 6, 7, 8, 9, 10, 11, 12, 13]] (cl_lt (by decide)) ?_
      refine Head.det rfl (fun β hβ => Det.norm (F' := [(9, _), (8, _), (7, _), (6, _), (5, _), (2, _)]) (H' := [(_, _), (_, _), (_, _), (_, _), (_, _), (_, _), (_, _), (_, _), (_, _)]) rfl rfl (det_loadA ty28 rfl (List.Mem.tail _ (List.Mem.head _)) rfl)) ?_
      refine Head.norm (k' := 1) (es' := [.det 61 _]) rfl rfl ?_
      refine Head.det rfl (fun β hβ => Det.norm (F' := [(9, _), (8, _), (7, _), (6, _), (5, _), (2, _)]) (H' := [(_, _), (_, _), (_, _), (_, _), (_, _), (_, _), (_, _), (_, _), (_, _)]) rfl rfl (det_loadA ty28 rfl (List.Mem.tail _ (List.Mem.tail _ (List.Mem.head _))) rfl)) ?_
      refine Head.norm (k' := 2) (es' := [.det 61 _, .det 62 _]) rfl rfl ?_
      refine Head.det rfl (fun β hβ => Det.norm (F' := [(9, _), (8, _), (7, _), (6, _), (5, _), (2, _)]) (H' := [(_, _), (_, _), (_, _), (_, _), (_, _), (_, _), (_, _), (_, _), (_, _)]) rfl rfl (det_loadA ty28 rfl (List.Mem.tail _ (List.Mem.tail _ (List.Mem.tail _ (List.Mem.head _)))) rfl)) ?_
      refine Head.norm (k' := 3) (es' := [.det 61 _, .det 62 _, .det 63 _]) rfl rfl ?_
      refine Head.det rfl (fun β hβ => Det.norm (F' := [(9, _), (8, _), (7, _), (6, _), (5, _), (2, _)]) (H' := [(_, _), (_, _), (_, _), (_, _), (_, _), (_, _), (_, _), (_, _), (_, _)]) rfl rfl (det_loadA ty28 rfl (List.Mem.tail _ (List.Mem.head _)) rfl)) ?_
      refine Head.norm (k' := 4) (es' := [.det 61 _, .det 62 _, .det 63 _, .det 64 _]) rfl rfl ?_
      refine Head.det rfl (fun β hβ => Det.norm (F' := [(63, _), (64, _), (9, _), (8, _), (7, _), (6, _), (5, _), (2, _)]) (H' := [(_, _), (_, _), (_, _), (_, _), (_, _), (_, _), (_, _), (_, _), (_, _)]) rfl rfl (det_call en67 rfl (fun w hb ho => Sub_ok ho.blocks))) ?_
      refine Head.norm (k' := 5) (es' := [.det 61 _, .det 62 _, .det 63 _, .det 64 _, .det 65 _]) rfl rfl ?_
      refine Head.det rfl (fun β hβ => Det.norm (F' := [(62, _), (63, _), (64, _), (65, _), (9, _), (8, _), (7, _), (6, _), (5, _), (2, _)]) (H' := [(_, _), (_, _), (_, _), (_, _), (_, _), (_, _), (_, _), (_, _), (_, _)]) rfl rfl (det_call en57 rfl (fun w hb ho => Mul_ok ho.blocks))) ?_
      refine Head.norm (k' := 6) (es' := [.det 61 _, .det 62 _, .det 63 _, .det 64 _, .det 65 _, .det 66 _]) rfl rfl ?_
      refine Head.det rfl (fun β hβ => Det.norm (F' := [(9, _), (8, _), (7, _), (6, _), (5, _), (2, _)]) (H' := [(_, _), (_, _), (_, _), (_, _), (_, _), (_, _), (_, _), (_, _), (_, _)]) rfl rfl (det_loadA ty28 rfl (List.Mem.tail _ (List.Mem.tail _ (List.Mem.tail _ (List.Mem.tail _ (List.Mem.head _))))) rfl)) ?_
      refine Head.norm (k' := 7) (es' := [.det 61 _, .det 62 _, .det 63 _, .det 64 _, .det 65 _, .det 66 _, .det 67 _]) rfl rfl ?_
      refine Head.det rfl (fun β hβ => Det.norm (F' := [(62, _), (63, _), (64, _), (65, _), (66, _), (67, _), (9, _), (8, _), (7, _), (6, _), (5, _), (2, _)]) (H' := [(_, _), (_, _), (_, _), (_, _), (_, _), (_, _), (_, _), (_, _), (_, _)]) rfl rfl (det_call en67 rfl (fun w hb ho => Sub_ok ho.blocks))) ?_
      refine Head.norm (k' := 8) (es' := [.det 61 _, .det 62 _, .det 63 _, .det 64 _, .det 65 _, .det 66 _, .det 67 _, .det 68 _]) rfl rfl ?_
      refine Head.det rfl (fun β hβ => Det.norm (F' := [(9, _), (8, _), (7, _), (6, _), (5, _), (2, _)]) (H' := [(_, _), (_, _), (_, _), (_, _), (_, _), (_, _), (_, _), (_, _), (_, _)]) rfl rfl (det_loadA ty28 rfl (List.Mem.tail _ (List.Mem.tail _ (List.Mem.tail _ (List.Mem.tail _ (List.Mem.head _))))) rfl)) ?_
      refine Head.norm (k' := 9) (es' := [.det 61 _, .det 62 _, .det 63 _, .det 64 _, .det 65 _, .det 66 _, .det 67 _, .det 68 _, .det 69 _]) rfl rfl ?_
      refine Head.det rfl (fun β hβ => Det.norm (F' := [(62, _), (63, _), (64, _), (65, _), (66, _), (67, _), (68, _), (69, _), (9, _), (8, _), (7, _), (6, _), (5, _), (2, _)]) (H' := [(_, _), (_, _), (_, _), (_, _), (_, _), (_, _), (_, _), (_, _), (_, _)]) rfl rfl (det_call en67 rfl (fun w hb ho => Sub_ok ho.blocks))) ?_
      refine Head.norm (k' := 10) (es' := [.det 61 _, .det 62 _, .det 63 _, .det 64 _, .det 65 _, .det 66 _, .det 67 _, .det 68 _, .det 69 _, .det 70 _]) rfl rfl ?_
      refine Head.det rfl (fun β hβ => Det.norm (F' := [(9, _), (8, _), (7, _), (6, _), (5, _), (2, _)]) (H' := [(_, _), (_, _), (_, _), (_, _), (_, _), (_, _), (_, _), (_, _), (_, _)]) rfl rfl (det_loadA ty28 rfl (List.Mem.head _) rfl)) ?_
      refine Head.norm (k' := 11) (es' := [.det 61 _, .det 62 _, .det 63 _, .det 64 _, .det 65 _, .det 66 _, .det 67 _, .det 68 _, .det 69 _, .det 70 _, .det 71 _]) rfl rfl ?_
      refine Head.det rfl (fun β hβ => Det.norm (F' := [(9, _), (8, _), (7, _), (6, _), (5, _), (2, _)]) (H' := [(_, _), (_, _), (_, _), (_, _), (_, _), (_, _), (_, _), (_, _), (_, _)]) rfl rfl (det_loadA ty28 rfl (List.Mem.head _) rfl)) ?_
      refine Head.norm (k' := 12) (es' := [.det 61 _, .det 62 _, .det 63 _, .det 64 _, .det 65 _, .det 66 _, .det 67 _, .det 68 _, .det 69 _, .det 70 _, .det 71 _, .det 72 _]) rfl rfl ?_
      refine Head.det rfl (fun β hβ => Det.norm (F' := [(62, _), (63, _), (64, _), (65, _), (66, _), (67, _), (68, _), (69, _), (70, _), (71, _), (72, _), (9, _), (8, _), (7, _), (6, _), (5, _), (2, _)]) (H' := [(_, _), (_, _), (_, _), (_, _), (_, _), (_, _), (_, _), (_, _), (_, _)]) rfl rfl (det_call en33 rfl (fun w hb ho => Add_ok ho.blocks))) ?_
      refine Head.norm (k' := 13) (es' := [.det 61 _, .det 62 _, .det 63 _, .det 64 _, .det 65 _, .det 66 _, .det 67 _, .det 68 _, .det 69 _, .det 70 _, .det 71 _, .det 72 _, .det 73 _]) rfl rfl ?_
      refine Head.det rfl (fun β hβ => Det.norm (F' := [(61, _), (62, _), (63, _), (64, _), (65, _), (66, _), (67, _), (68, _), (69, _), (70, _), (71, _), (72, _), (73, _), (9, _), (8, _), (7, _), (6, _), (5, _), (2, _)]) (H' := [(_, _), (_, _), (_, _), (_, _), (_, _), (_, _), (_, _), (_, _), (_, _)]) rfl rfl (det_build rfl bld74)) ?_
      refine Head.norm (k' := 14) (es' := [.det 61 _, .det 62 _, .det 63 _, .det 64 _, .det 65 _, .det 66 _, .det 67 _, .det 68 _, .det 69 _, .det 70 _, .det 71 _, .det 72 _, .det 73 _, .det 74 _]) rfl rfl ?_
      refine Head.done ⟨by kernel_rfl, fun β hβ => ?_⟩
      refine OpsW.norm (F' := [(61, _), (62, _), (63, _), (64, _), (65, _), (66, _), (67, _), (68, _), (69, _), (70, _), (71, _), (72, _), (73, _), (74, _), (9, _), (8, _), (7, _), (6, _), (5, _), (2, _)]) (H' := [(_, _), (_, _), (_, _), (_, _), (_, _), (_, _), (_, _), (_, _), (_, _)]) rfl rfl ?_
      refine OpsW.store sz74 rfl rfl rfl rfl rfl (Upd.there (Upd.there (Upd.there (Upd.there (Upd.there (Upd.there (Upd.there (Upd.here)))))))) rfl ?_
      refine sNext ?_
      refine W.keep (F' := [(2, _)]) ⟨rfl, trivial⟩ ?_
      refine sRet ?_
      exact done1 Tryd.results63 (rv_cellA ty74 rfl (List.Mem.tail _ (List.Mem.tail _ (List.Mem.tail _ (List.Mem.tail _ (List.Mem.tail _ (List.Mem.tail _ (List.Mem.tail _ (List.Mem.head _)))))))) rfl) (congrArg encJ (jdbl_no hc12 hc17).symm)
theorem point_ok {p : Jac} {w : World} (hG : Blocks (GH T) w)  : Vm.Pure Tryd.prog 54 #[encJ p] w (encP (point p)) := by
  refine pure_of_W (n := 25) (args := [encJ p]) Tryd.func54 rfl Tryd.ntmps54 (Nat.le_of_ble_eq_true rfl) hG ?_
  refine sStart ?_
  refine sSeq ?_
  refine W.region ?_
  refine OpsW.fresh (fr_box rfl rfl) rfl fun b1 => ?_
  refine OpsW.fresh (fr_alloc z30) rfl fun b2 => ?_
  refine sNext ?_
  refine W.keep (F' := [(2, _), (1, _)]) ⟨rfl, rfl, trivial⟩ ?_
  refine sSeq ?_
  refine sSeq ?_
  refine W.region ?_
  refine OpsW.det (det_fieldAddr fl74_2 rfl) rfl ?_
  refine OpsW.det (det_loadA ty28 rfl (List.Mem.tail _ (List.Mem.head _)) rfl) rfl ?_
  refine OpsW.det (det_call en61 rfl (fun w hb ho => Zero_ok ho.blocks)) rfl ?_
  refine sNext ?_
  refine W.keep (F' := [(7, _), (2, _), (1, _)]) ⟨rfl, rfl, rfl, trivial⟩ ?_
  refine W.cond rfl (fun hc7 => ?_) (fun hc7 => ?_)
  · skip
    refine sSeq ?_
    refine W.region ?_
    refine OpsW.det (det_zero bz30) rfl ?_
    refine OpsW.store sz30 rfl rfl rfl rfl rfl (Upd.here) rfl ?_
    refine sNext ?_
    refine W.keep (F' := [(2, _)]) ⟨rfl, trivial⟩ ?_
    refine sRet ?_
    exact done1 Tryd.results54 (rv_cellA ty30 rfl (List.Mem.head _) rfl) (congrArg encP (point_yes hc7).symm)
  · skip
    refine sSkip ?_
    refine sSeq ?_
    refine W.region ?_
    refine OpsW.det (det_fieldAddr fl74_2 rfl) rfl ?_
    refine OpsW.det (det_loadA ty28 rfl (List.Mem.tail _ (List.Mem.head _)) rfl) rfl ?_
    refine OpsW.det (det_call en96 rfl (fun w hb ho => Inv_ok ho.blocks)) rfl ?_
    refine OpsW.fresh (fr_alloc z28) rfl fun b3 => ?_
    refine OpsW.store sz28 rfl rfl rfl rfl rfl (Upd.here) rfl ?_
    refine sNext ?_
    refine W.keep (F' := [(3, _), (2, _), (1, _)]) ⟨rfl, rfl, rfl, trivial⟩ ?_
    refine sSeq ?_
    refine W.region ?_
    refine OpsW.det (det_loadA ty28 rfl (List.Mem.head _) rfl) rfl ?_
    refine OpsW.det (det_call en56 rfl (fun w hb ho => Square_ok ho.blocks)) rfl ?_
    refine OpsW.fresh (fr_alloc z28) rfl fun b4 => ?_
    refine OpsW.store sz28 rfl rfl rfl rfl rfl (Upd.here) rfl ?_
    refine sNext ?_
    refine W.keep (F' := [(4, _), (3, _), (2, _), (1, _)]) ⟨rfl, rfl, rfl, rfl, trivial⟩ ?_
    refine sSeq ?_
    refine W.draw mixed 11 [[], [0], [], [0, 1, 2], [], [4], [], [0, 1, 2, 3, 4, 5, 6], [], [0, 1, 2, 3, 4, 5, 6, 7, 8], [0, 1, 2, 3, 4, 5, 6, 7, 8, 9], [0, 1, 2, 3, 4, 5, 6, 7, 8, 9, 10]] (cl_lt (by decide)) ?_
    refine Head.det rfl (fun β hβ => Det.norm (F' := [(4, _), (3, _), (2, _), (1, _)]) (H' := [(_, _), (_, _), (_, _), (_, _)]) rfl rfl (det_fieldAddr fl74_0 rfl)) ?_
    refine Head.norm (k' := 1) (es' := [.det 14 _]) rfl rfl ?_
    refine Head.det rfl (fun β hβ => Det.norm (F' := [(14, _), (4, _), (3, _), (2, _), (1, _)]) (H' := [(_, _), (_, _), (_, _), (_, _)]) rfl rfl (det_loadA ty28 rfl (List.Mem.tail _ (List.Mem.tail _ (List.Mem.tail _ (List.Mem.head _)))) rfl)) ?_
    refine Head.norm (k' := 2) (es' := [.det 14 _, .det 15 _]) rfl rfl ?_
    refine Head.det rfl (fun β hβ => Det.norm (F' := [(4, _), (3, _), (2, _), (1, _)]) (H' := [(_, _), (_, _), (_, _), (_, _)]) rfl rfl (det_loadA ty28 rfl (List.Mem.head _) rfl)) ?_
    refine Head.norm (k' := 3) (es' := [.det 14 _, .det 15 _, .det 16 _]) rfl rfl ?_
    refine Head.det rfl (fun β hβ => Det.norm (F' := [(14, _), (15, _), (16, _), (4, _), (3, _), (2, _), (1, _)]) (H' := [(_, _), (_, _), (_, _), (_, _)]) rfl rfl (det_call en57 rfl (fun w hb ho => Mul_ok ho.blocks))) ?_
    refine Head.norm (k' := 4) (es' := [.det 14 _, .det 15 _, .det 16 _, .det 17 _]) rfl rfl ?_
    refine Head.det rfl (fun β hβ => Det.norm (F' := [(4, _), (3, _), (2, _), (1, _)]) (H' := [(_, _), (_, _), (_, _), (_, _)]) rfl rfl (det_fieldAddr fl74_1 rfl)) ?_
    refine Head.norm (k' := 5) (es' := [.det 14 _, .det 15 _, .det 16 _, .det 17 _, .det 18 _]) rfl rfl ?_
    refine Head.det rfl (fun β hβ => Det.norm (F' := [(18, _), (4, _), (3, _), (2, _), (1, _)]) (H' := [(_, _), (_, _), (_, _), (_, _)]) rfl rfl (det_loadA ty28 rfl (List.Mem.tail _ (List.Mem.tail _ (List.Mem.tail _ (List.Mem.head _)))) rfl)) ?_
    refine Head.norm (k' := 6) (es' := [.det 14 _, .det 15 _, .det 16 _, .det 17 _, .det 18 _, .det 19 _]) rfl rfl ?_
    refine Head.det rfl (fun β hβ => Det.norm (F' := [(4, _), (3, _), (2, _), (1, _)]) (H' := [(_, _), (_, _), (_, _), (_, _)]) rfl rfl (det_loadA ty28 rfl (List.Mem.head _) rfl)) ?_
    refine Head.norm (k' := 7) (es' := [.det 14 _, .det 15 _, .det 16 _, .det 17 _, .det 18 _, .det 19 _, .det 20 _]) rfl rfl ?_
    refine Head.det rfl (fun β hβ => Det.norm (F' := [(14, _), (15, _), (16, _), (17, _), (18, _), (19, _), (20, _), (4, _), (3, _), (2, _), (1, _)]) (H' := [(_, _), (_, _), (_, _), (_, _)]) rfl rfl (det_call en57 rfl (fun w hb ho => Mul_ok ho.blocks))) ?_
    refine Head.norm (k' := 8) (es' := [.det 14 _, .det 15 _, .det 16 _, .det 17 _, .det 18 _, .det 19 _, .det 20 _, .det 21 _]) rfl rfl ?_
    refine Head.det rfl (fun β hβ => Det.norm (F' := [(4, _), (3, _), (2, _), (1, _)]) (H' := [(_, _), (_, _), (_, _), (_, _)]) rfl rfl (det_loadA ty28 rfl (List.Mem.tail _ (List.Mem.head _)) rfl)) ?_
    refine Head.norm (k' := 9) (es' := [.det 14 _, .det 15 _, .det 16 _, .det 17 _, .det 18 _, .det 19 _, .det 20 _, .det 21 _, .det 22 _]) rfl rfl ?_
    refine Head.det rfl (fun β hβ => Det.norm (F' := [(14, _), (15, _), (16, _), (17, _), (18, _), (19, _), (20, _), (21, _), (22, _), (4, _), (3, _), (2, _), (1, _)]) (H' := [(_, _), (_, _), (_, _), (_, _)]) rfl rfl (det_call en57 rfl (fun w hb ho => Mul_ok ho.blocks))) ?_
    refine Head.norm (k' := 10) (es' := [.det 14 _, .det 15 _, .det 16 _, .det 17 _, .det 18 _, .det 19 _, .det 20 _, .det 21 _, .det 22 _, .det 23 _]) rfl rfl ?_
    refine Head.det rfl (fun β hβ => Det.norm (F' := [(14, _), (15, _), (16, _), (17, _), (18, _), (19, _), (20, _), (21, _), (22, _), (23, _), (4, _), (3, _), (2, _), (1, _)]) (H' := [(_, _), (_, _), (_, _), (_, _)]) rfl rfl (det_build rfl bld30)) ?_
    refine Head.norm (k' := 11) (es' := [.det 14 _, .det 15 _, .det 16 _, .det 17 _, .det 18 _, .det 19 _, .det 20 _, .det 21 _, .det 22 _, .det 23 _, .det 24 _]) rfl rfl ?_
    refine Head.done ⟨by kernel_rfl, fun β hβ => ?_⟩
    refine OpsW.norm (F' := [(14, _), (15, _), (16, _), (17, _), (18, _), (19, _), (20, _), (21, _), (22, _), (23, _), (24, _), (4, _), (3, _), (2, _), (1, _)]) (H' := [(_, _), (_, _), (_, _), (_, _)]) rfl rfl ?_
    refine OpsW.store sz30 rfl rfl rfl rfl rfl (Upd.there (Upd.there (Upd.here))) rfl ?_
    refine sNext ?_
    refine W.keep (F' := [(2, _)]) ⟨rfl, trivial⟩ ?_
    refine sRet ?_
    exact done1 Tryd.results54 (rv_cellA ty30 rfl (List.Mem.tail _ (List.Mem.tail _ (List.Mem.head _))) rfl) (congrArg encP (point_no hc7).symm)
theorem jadd_ok {p : Jac} {q : Pt} {w : World} (hG : Blocks (GH T) w)  : Vm.Pure Tryd.prog 53 #[encJ p, encP q] w (encJ (jadd p q)) := by
  refine pure_of_W (n := 100) (args := [encJ p, encP q]) Tryd.func53 rfl Tryd.ntmps53 (Nat.le_of_ble_eq_true rfl) hG ?_
  refine sStart ?_
  refine sSeq ?_
  refine W.region ?_
  refine OpsW.fresh (fr_box rfl rfl) rfl fun b2 => ?_
  refine OpsW.fresh (fr_box rfl rfl) rfl fun b3 => ?_
  refine OpsW.fresh (fr_alloc z74) rfl fun b4 => ?_
  refine sNext ?_
  refine W.keep (F' := [(4, _), (3, _), (2, _)]) ⟨rfl, rfl, rfl, trivial⟩ ?_
  refine sSeq ?_
  refine sSeq ?_
  refine W.region ?_
  refine OpsW.det (det_loadA ty30 rfl (List.Mem.tail _ (List.Mem.head _)) rfl) rfl ?_
  refine OpsW.det (det_zero bz30) rfl ?_
  refine OpsW.det (det_eql30 rfl rfl) rfl ?_
  refine sNext ?_
  refine W.keep (F' := [(16, _), (4, _), (3, _), (2, _)]) ⟨rfl, rfl, rfl, rfl, trivial⟩ ?_
  refine W.cond rfl (fun hc16 => ?_) (fun hc16 => ?_)
  · skip
    refine sSeq ?_
    refine W.region ?_
    refine OpsW.det (det_loadA ty74 rfl (List.Mem.tail _ (List.Mem.tail _ (List.Mem.head _))) rfl) rfl ?_
    refine OpsW.store sz74 rfl rfl rfl rfl rfl (Upd.here) rfl ?_
    refine sNext ?_
    refine W.keep (F' := [(4, _)]) ⟨rfl, trivial⟩ ?_
    refine sRet ?_
    exact done1 Tryd.results53 (rv_cellA ty74 rfl (List.Mem.head _) rfl) (congrArg encJ (jadd_q hc16).symm)
  · skip
    refine sSkip ?_
    refine sSeq ?_
    refine sSeq ?_
    refine W.region ?_
    refine OpsW.det (det_fieldAddr fl74_2 rfl) rfl ?_
    refine OpsW.det (det_loadA ty28 rfl (List.Mem.tail _ (List.Mem.tail _ (List.Mem.head _))) rfl) rfl ?_
    refine OpsW.det (det_call en61 rfl (fun w hb ho => Zero_ok ho.blocks)) rfl ?_
    refine sNext ?_
    refine W.keep (F' := [(20, _), (4, _), (3, _), (2, _)]) ⟨rfl, rfl, rfl, rfl, trivial⟩ ?_
    refine W.cond rfl (fun hc20 => ?_) (fun hc20 => ?_)
    · skip
      refine sSeq ?_
      refine W.region ?_
      refine OpsW.det (det_loadA ty30 rfl (List.Mem.tail _ (List.Mem.head _)) rfl) rfl ?_
      refine OpsW.det (det_call en52 rfl (fun w hb ho => tojac_ok ho.blocks)) rfl ?_
      refine OpsW.store sz74 rfl rfl rfl rfl rfl (Upd.here) rfl ?_
      refine sNext ?_
      refine W.keep (F' := [(4, _)]) ⟨rfl, trivial⟩ ?_
      refine sRet ?_
      exact done1 Tryd.results53 (rv_cellA ty74 rfl (List.Mem.head _) rfl) (congrArg encJ (jadd_p hc16 hc20).symm)
    · skip
      refine sSkip ?_
      refine sSeq ?_
      refine W.region ?_
      refine OpsW.det (det_fieldAddr fl74_2 rfl) rfl ?_
      refine OpsW.det (det_loadA ty28 rfl (List.Mem.tail _ (List.Mem.tail _ (List.Mem.head _))) rfl) rfl ?_
      refine OpsW.det (det_call en56 rfl (fun w hb ho => Square_ok ho.blocks)) rfl ?_
      refine OpsW.fresh (fr_alloc z28) rfl fun b5 => ?_
      refine OpsW.store sz28 rfl rfl rfl rfl rfl (Upd.here) rfl ?_
      refine sNext ?_
      refine W.keep (F' := [(5, _), (4, _), (3, _), (2, _)]) ⟨rfl, rfl, rfl, rfl, trivial⟩ ?_
      refine sSeq ?_
      refine W.draw mixed 8 [[], [0], [], [0, 1, 2], [], [4], [0, 1, 2, 3, 4, 5], [], [0, 1, 2, 3, 4, 5, 6, 7]] (cl_lt (by decide)) ?_
      refine Head.det rfl (fun β hβ => Det.norm (F' := [(5, _), (4, _), (3, _), (2, _)]) (H' := [(_, _), (_, _), (_, _), (_, _)]) rfl rfl (det_fieldAddr fl30_0 rfl)) ?_
      refine Head.norm (k' := 1) (es' := [.det 26 _]) rfl rfl ?_
      refine Head.det rfl (fun β hβ => Det.norm (F' := [(26, _), (5, _), (4, _), (3, _), (2, _)]) (H' := [(_, _), (_, _), (_, _), (_, _)]) rfl rfl (det_loadA ty28 rfl (List.Mem.tail _ (List.Mem.tail _ (List.Mem.head _))) rfl)) ?_
      refine Head.norm (k' := 2) (es' := [.det 26 _, .det 27 _]) rfl rfl ?_
      refine Head.det rfl (fun β hβ => Det.norm (F' := [(5, _), (4, _), (3, _), (2, _)]) (H' := [(_, _), (_, _), (_, _), (_, _)]) rfl rfl (det_loadA ty28 rfl (List.Mem.head _) rfl)) ?_
      refine Head.norm (k' := 3) (es' := [.det 26 _, .det 27 _, .det 28 _]) rfl rfl ?_
      refine Head.det rfl (fun β hβ => Det.norm (F' := [(26, _), (27, _), (28, _), (5, _), (4, _), (3, _), (2, _)]) (H' := [(_, _), (_, _), (_, _), (_, _)]) rfl rfl (det_call en57 rfl (fun w hb ho => Mul_ok ho.blocks))) ?_
      refine Head.norm (k' := 4) (es' := [.det 26 _, .det 27 _, .det 28 _, .det 29 _]) rfl rfl ?_
      refine Head.det rfl (fun β hβ => Det.norm (F' := [(5, _), (4, _), (3, _), (2, _)]) (H' := [(_, _), (_, _), (_, _), (_, _)]) rfl rfl (det_fieldAddr fl74_0 rfl)) ?_
      refine Head.norm (k' := 5) (es' := [.det 26 _, .det 27 _, .det 28 _, .det 29 _, .det 30 _]) rfl rfl ?_
      refine Head.det rfl (fun β hβ => Det.norm (F' := [(30, _), (5, _), (4, _), (3, _), (2, _)]) (H' := [(_, _), (_, _), (_, _), (_, _)]) rfl rfl (det_loadA ty28 rfl (List.Mem.tail _ (List.Mem.tail _ (List.Mem.tail _ (List.Mem.head _)))) rfl)) ?_
      refine Head.norm (k' := 6) (es' := [.det 26 _, .det 27 _, .det 28 _, .det 29 _, .det 30 _, .det 31 _]) rfl rfl ?_
      refine Head.det rfl (fun β hβ => Det.norm (F' := [(26, _), (27, _), (28, _), (29, _), (30, _), (31, _), (5, _), (4, _), (3, _), (2, _)]) (H' := [(_, _), (_, _), (_, _), (_, _)]) rfl rfl (det_call en67 rfl (fun w hb ho => Sub_ok ho.blocks))) ?_
      refine Head.norm (k' := 7) (es' := [.det 26 _, .det 27 _, .det 28 _, .det 29 _, .det 30 _, .det 31 _, .det 32 _]) rfl rfl ?_
      refine Head.fresh rfl (fun β hβ => New.norm (F' := [(5, _), (4, _), (3, _), (2, _)]) (H' := [(_, _), (_, _), (_, _), (_, _)]) rfl rfl (fr_alloc z28).new) ?_
      refine Head.norm (k' := 8) (es' := [.det 26 _, .det 27 _, .det 28 _, .det 29 _, .det 30 _, .det 31 _, .det 32 _, .fresh 6 _ _ _]) rfl rfl ?_
      refine Head.done ⟨by kernel_rfl, fun β hβ => ?_⟩
      refine OpsW.norm (F' := [(26, _), (27, _), (28, _), (29, _), (30, _), (31, _), (32, _), (6, .pointer (some ⟨(β 6).1, 0, none⟩)), (5, _), (4, _), (3, _), (2, _)]) (H' := [(_, _), (_, _), (_, _), (_, _), (_, _)]) rfl rfl ?_
      generalize (β 6).1 = b6
      refine OpsW.store sz28 rfl rfl rfl rfl rfl (Upd.here) rfl ?_
      refine sNext ?_
      refine W.keep (F' := [(6, _), (5, _), (4, _), (3, _), (2, _)]) ⟨rfl, rfl, rfl, rfl, rfl, trivial⟩ ?_
      refine sSeq ?_
      refine W.draw mixed 11 [[], [0], [], [2], [0, 1, 2, 3], [], [0, 1, 2, 3, 4, 5], [], [7], [0, 1, 2, 3, 4, 5, 6, 7, 8], [], [0, 1, 2, 3, 4, 5, 6, 7, 8, 9, 10]] (cl_lt (by decide)) ?_
      refine Head.det rfl (fun β hβ => Det.norm (F' := [(6, _), (5, _), (4, _), (3, _), (2, _)]) (H' := [(_, _), (_, _), (_, _), (_, _), (_, _)]) rfl rfl (det_fieldAddr fl30_1 rfl)) ?_
      refine Head.norm (k' := 1) (es' := [.det 33 _]) rfl rfl ?_
      refine Head.det rfl (fun β hβ => Det.norm (F' := [(33, _), (6, _), (5, _), (4, _), (3, _), (2, _)]) (H' := [(_, _), (_, _), (_, _), (_, _), (_, _)]) rfl rfl (det_loadA ty28 rfl (List.Mem.tail _ (List.Mem.tail _ (List.Mem.tail _ (List.Mem.head _)))) rfl)) ?_
      refine Head.norm (k' := 2) (es' := [.det 33 _, .det 34 _]) rfl rfl ?_
      refine Head.det rfl (fun β hβ => Det.norm (F' := [(6, _), (5, _), (4, _), (3, _), (2, _)]) (H' := [(_, _), (_, _), (_, _), (_, _), (_, _)]) rfl rfl (det_fieldAddr fl74_2 rfl)) ?_
      refine Head.norm (k' := 3) (es' := [.det 33 _, .det 34 _, .det 35 _]) rfl rfl ?_
      refine Head.det rfl (fun β hβ => Det.norm (F' := [(35, _), (6, _), (5, _), (4, _), (3, _), (2, _)]) (H' := [(_, _), (_, _), (_, _), (_, _), (_, _)]) rfl rfl (det_loadA ty28 rfl (List.Mem.tail _ (List.Mem.tail _ (List.Mem.tail _ (List.Mem.tail _ (List.Mem.head _))))) rfl)) ?_
      refine Head.norm (k' := 4) (es' := [.det 33 _, .det 34 _, .det 35 _, .det 36 _]) rfl rfl ?_
      refine Head.det rfl (fun β hβ => Det.norm (F' := [(33, _), (34, _), (35, _), (36, _), (6, _), (5, _), (4, _), (3, _), (2, _)]) (H' := [(_, _), (_, _), (_, _), (_, _), (_, _)]) rfl rfl (det_call en57 rfl (fun w hb ho => Mul_ok ho.blocks))) ?_
      refine Head.norm (k' := 5) (es' := [.det 33 _, .det 34 _, .det 35 _, .det 36 _, .det 37 _]) rfl rfl ?_
      refine Head.det rfl (fun β hβ => Det.norm (F' := [(6, _), (5, _), (4, _), (3, _), (2, _)]) (H' := [(_, _), (_, _), (_, _), (_, _), (_, _)]) rfl rfl (det_loadA ty28 rfl (List.Mem.tail _ (List.Mem.head _)) rfl)) ?_
      refine Head.norm (k' := 6) (es' := [.det 33 _, .det 34 _, .det 35 _, .det 36 _, .det 37 _, .det 38 _]) rfl rfl ?_
      refine Head.det rfl (fun β hβ => Det.norm (F' := [(33, _), (34, _), (35, _), (36, _), (37, _), (38, _), (6, _), (5, _), (4, _), (3, _), (2, _)]) (H' := [(_, _), (_, _), (_, _), (_, _), (_, _)]) rfl rfl (det_call en57 rfl (fun w hb ho => Mul_ok ho.blocks))) ?_
      refine Head.norm (k' := 7) (es' := [.det 33 _, .det 34 _, .det 35 _, .det 36 _, .det 37 _, .det 38 _, .det 39 _]) rfl rfl ?_
      refine Head.det rfl (fun β hβ => Det.norm (F' := [(6, _), (5, _), (4, _), (3, _), (2, _)]) (H' := [(_, _), (_, _), (_, _), (_, _), (_, _)]) rfl rfl (det_fieldAddr fl74_1 rfl)) ?_
      refine Head.norm (k' := 8) (es' := [.det 33 _, .det 34 _, .det 35 _, .det 36 _, .det 37 _, .det 38 _, .det 39 _, .det 40 _]) rfl rfl ?_
      refine Head.det rfl (fun β hβ => Det.norm (F' := [(40, _), (6, _), (5, _), (4, _), (3, _), (2, _)]) (H' := [(_, _), (_, _), (_, _), (_, _), (_, _)]) rfl rfl (det_loadA ty28 rfl (List.Mem.tail _ (List.Mem.tail _ (List.Mem.tail _ (List.Mem.tail _ (List.Mem.head _))))) rfl)) ?_
      refine Head.norm (k' := 9) (es' := [.det 33 _, .det 34 _, .det 35 _, .det 36 _, .det 37 _, .det 38 _, .det 39 _, .det 40 _, .det 41 _]) rfl rfl ?_
      refine Head.det rfl (fun β hβ => Det.norm (F' := [(33, _), (34, _), (35, _), (36, _), (37, _), (38, _), (39, _), (40, _), (41, _), (6, _), (5, _), (4, _), (3, _), (2, _)]) (H' := [(_, _), (_, _), (_, _), (_, _), (_, _)]) rfl rfl (det_call en67 rfl (fun w hb ho => Sub_ok ho.blocks))) ?_
      refine Head.norm (k' := 10) (es' := [.det 33 _, .det 34 _, .det 35 _, .det 36 _, .det 37 _, .det 38 _, .det 39 _, .det 40 _, .det 41 _, .det 42 _]) rfl rfl ?_
      refine Head.fresh rfl (fun β hβ => New.norm (F' := [(6, _), (5, _), (4, _), (3, _), (2, _)]) (H' := [(_, _), (_, _), (_, _), (_, _), (_, _)]) rfl rfl (fr_alloc z28).new) ?_
      refine Head.norm (k' := 11) (es' := [.det 33 _, .det 34 _, .det 35 _, .det 36 _, .det 37 _, .det 38 _, .det 39 _, .det 40 _, .det 41 _, .det 42 _, .fresh 7 _ _ _]) rfl rfl ?_
      refine Head.done ⟨by kernel_rfl, fun β hβ => ?_⟩
      refine OpsW.norm (F' := [(33, _), (34, _), (35, _), (36, _), (37, _), (38, _), (39, _), (40, _), (41, _), (42, _), (7, .pointer (some ⟨(β 7).1, 0, none⟩)), (6, _), (5, _), (4, _), (3, _), (2, _)]) (H' := [(_, _), (_, _), (_, _), (_, _), (_, _), (_, _)]) rfl rfl ?_
      generalize (β 7).1 = b7
      refine OpsW.store sz28 rfl rfl rfl rfl rfl (Upd.here) rfl ?_
      refine sNext ?_
      refine W.keep (F' := [(7, _), (6, _), (5, _), (4, _), (2, _)]) ⟨rfl, rfl, rfl, rfl, rfl, trivial⟩ ?_
      refine sSeq ?_
      refine sSeq ?_
      refine W.region ?_
      refine OpsW.det (det_loadA ty28 rfl (List.Mem.tail _ (List.Mem.head _)) rfl) rfl ?_
      refine OpsW.det (det_call en61 rfl (fun w hb ho => Zero_ok ho.blocks)) rfl ?_
      refine sNext ?_
      refine W.keep (F' := [(44, _), (7, _), (6, _), (5, _), (4, _), (2, _)]) ⟨rfl, rfl, rfl, rfl, rfl, rfl, trivial⟩ ?_
      refine W.cond rfl (fun hc44 => ?_) (fun hc44 => ?_)
      · skip
        refine sSeq ?_
        refine sSeq ?_
        refine W.region ?_
        refine OpsW.det (det_loadA ty28 rfl (List.Mem.head _) rfl) rfl ?_
        refine OpsW.det (det_call en61 rfl (fun w hb ho => Zero_ok ho.blocks)) rfl ?_
        refine sNext ?_
        refine W.keep (F' := [(46, _), (4, _), (2, _)]) ⟨rfl, rfl, rfl, trivial⟩ ?_
        refine W.cond rfl (fun hc46 => ?_) (fun hc46 => ?_)
        · skip
          refine sSeq ?_
          refine W.region ?_
          refine OpsW.det (det_loadA ty74 rfl (List.Mem.tail _ (List.Mem.tail _ (List.Mem.tail _ (List.Mem.tail _ (List.Mem.tail _ (List.Mem.head _)))))) rfl) rfl ?_
          refine OpsW.det (det_call en63 rfl (fun w hb ho => jdbl_ok ho.blocks)) rfl ?_
          refine OpsW.store sz74 rfl rfl rfl rfl rfl (Upd.there (Upd.there (Upd.there (Upd.here)))) rfl ?_
          refine sNext ?_
          refine W.keep (F' := [(4, _)]) ⟨rfl, trivial⟩ ?_
          refine sRet ?_
          exact done1 Tryd.results53 (rv_cellA ty74 rfl (List.Mem.tail _ (List.Mem.tail _ (List.Mem.tail _ (List.Mem.head _)))) rfl) (congrArg encJ (jadd_d hc16 hc20 hc44 hc46).symm)
        · skip
          refine sSkip ?_
          refine sSeq ?_
          refine W.region ?_
          refine OpsW.det (det_zero bz74) rfl ?_
          refine OpsW.store sz74 rfl rfl rfl rfl rfl (Upd.there (Upd.there (Upd.there (Upd.here)))) rfl ?_
          refine sNext ?_
          refine W.keep (F' := [(4, _)]) ⟨rfl, trivial⟩ ?_
          refine sRet ?_
          exact done1 Tryd.results53 (rv_cellA ty74 rfl (List.Mem.tail _ (List.Mem.tail _ (List.Mem.tail _ (List.Mem.head _)))) rfl) (congrArg encJ (jadd_o hc16 hc20 hc44 hc46).symm)
      · skip
        refine sSkip ?_
        refine sSeq ?_
        refine W.region ?_
        refine OpsW.det (det_loadA ty28 rfl (List.Mem.head _) rfl) rfl ?_
        refine OpsW.det (det_loadA ty28 rfl (List.Mem.head _) rfl) rfl ?_
        refine OpsW.det (det_call en33 rfl (fun w hb ho => Add_ok ho.blocks)) rfl ?_
        refine OpsW.store sz28 rfl rfl rfl rfl rfl (Upd.here) rfl ?_
        refine sNext ?_
        refine W.keep (F' := [(7, _), (6, _), (5, _), (4, _), (2, _)]) ⟨rfl, rfl, rfl, rfl, rfl, trivial⟩ ?_
        refine sSeq ?_
        refine W.region ?_
        refine OpsW.det (det_loadA ty28 rfl (List.Mem.tail _ (List.Mem.head _)) rfl) rfl ?_
        refine OpsW.det (det_call en56 rfl (fun w hb ho => Square_ok ho.blocks)) rfl ?_
        refine OpsW.fresh (fr_alloc z28) rfl fun b8 => ?_
        refine OpsW.store sz28 rfl rfl rfl rfl rfl (Upd.here) rfl ?_
        refine sNext ?_
        refine W.keep (F' := [(8, _), (7, _), (6, _), (5, _), (4, _), (2, _)]) ⟨rfl, rfl, rfl, rfl, rfl, rfl, trivial⟩ ?_
        refine sSeq ?_
        refine W.region ?_
        refine OpsW.det (det_loadA ty28 rfl (List.Mem.head _) rfl) rfl ?_
        refine OpsW.det (det_loadA ty28 rfl (List.Mem.head _) rfl) rfl ?_
        refine OpsW.det (det_call en33 rfl (fun w hb ho => Add_ok ho.blocks)) rfl ?_
        refine OpsW.fresh (fr_alloc z28) rfl fun b9 => ?_
        refine OpsW.store sz28 rfl rfl rfl rfl rfl (Upd.here) rfl ?_
        refine sNext ?_
        refine W.keep (F' := [(9, _), (8, _), (7, _), (6, _), (5, _), (4, _), (2, _)]) ⟨rfl, rfl, rfl, rfl, rfl, rfl, rfl, trivial⟩ ?_
        refine sSeq ?_
        refine W.region ?_
        refine OpsW.det (det_loadA ty28 rfl (List.Mem.head _) rfl) rfl ?_
        refine OpsW.det (det_loadA ty28 rfl (List.Mem.head _) rfl) rfl ?_
        refine OpsW.det (det_call en33 rfl (fun w hb ho => Add_ok ho.blocks)) rfl ?_
        refine OpsW.store sz28 rfl rfl rfl rfl rfl (Upd.here) rfl ?_
        refine sNext ?_
        refine W.keep (F' := [(9, _), (8, _), (7, _), (6, _), (5, _), (4, _), (2, _)]) ⟨rfl, rfl, rfl, rfl, rfl, rfl, rfl, trivial⟩ ?_
        refine sSeq ?_
        refine W.draw mixed 9 [[], [], [0, 1], [], [3], [], [0, 1, 2, 3, 4, 5], [], [], [0, 1, 2, 3, 4, 5, 6, 7, 8], [0, 1, 2, 3, 4, 5, 6, 7, 8, 9]] (cl_lt (by decide)) ?_
        refine Head.det rfl (fun β hβ => Det.norm (F' := [(9, _), (8, _), (7, _), (6, _), (5, _), (4, _), (2, _)]) (H' := [(_, _), (_, _), (_, _), (_, _), (_, _), (_, _), (_, _), (_, _)]) rfl rfl (det_loadA ty28 rfl (List.Mem.tail _ (List.Mem.tail _ (List.Mem.tail _ (List.Mem.head _)))) rfl)) ?_
        refine Head.norm (k' := 1) (es' := [.det 61 _]) rfl rfl ?_
        refine Head.det rfl (fun β hβ => Det.norm (F' := [(9, _), (8, _), (7, _), (6, _), (5, _), (4, _), (2, _)]) (H' := [(_, _), (_, _), (_, _), (_, _), (_, _), (_, _), (_, _), (_, _)]) rfl rfl (det_loadA ty28 rfl (List.Mem.head _) rfl)) ?_
        refine Head.norm (k' := 2) (es' := [.det 61 _, .det 62 _]) rfl rfl ?_
        refine Head.det rfl (fun β hβ => Det.norm (F' := [(61, _), (62, _), (9, _), (8, _), (7, _), (6, _), (5, _), (4, _), (2, _)]) (H' := [(_, _), (_, _), (_, _), (_, _), (_, _), (_, _), (_, _), (_, _)]) rfl rfl (det_call en57 rfl (fun w hb ho => Mul_ok ho.blocks))) ?_
        refine Head.norm (k' := 3) (es' := [.det 61 _, .det 62 _, .det 63 _]) rfl rfl ?_
        refine Head.det rfl (fun β hβ => Det.norm (F' := [(9, _), (8, _), (7, _), (6, _), (5, _), (4, _), (2, _)]) (H' := [(_, _), (_, _), (_, _), (_, _), (_, _), (_, _), (_, _), (_, _)]) rfl rfl (det_fieldAddr fl74_0 rfl)) ?_
        refine Head.norm (k' := 4) (es' := [.det 61 _, .det 62 _, .det 63 _, .det 64 _]) rfl rfl ?_
        refine Head.det rfl (fun β hβ => Det.norm (F' := [(64, _), (9, _), (8, _), (7, _), (6, _), (5, _), (4, _), (2, _)]) (H' := [(_, _), (_, _), (_, _), (_, _), (_, _), (_, _), (_, _), (_, _)]) rfl rfl (det_loadA ty28 rfl (List.Mem.tail _ (List.Mem.tail _ (List.Mem.tail _ (List.Mem.tail _ (List.Mem.tail _ (List.Mem.tail _ (List.Mem.tail _ (List.Mem.head _)))))))) rfl)) ?_
        refine Head.norm (k' := 5) (es' := [.det 61 _, .det 62 _, .det 63 _, .det 64 _, .det 65 _]) rfl rfl ?_
        refine Head.det rfl (fun β hβ => Det.norm (F' := [(9, _), (8, _), (7, _), (6, _), (5, _), (4, _), (2, _)]) (H' := [(_, _), (_, _), (_, _), (_, _), (_, _), (_, _), (_, _), (_, _)]) rfl rfl (det_loadA ty28 rfl (List.Mem.head _) rfl)) ?_
        refine Head.norm (k' := 6) (es' := [.det 61 _, .det 62 _, .det 63 _, .det 64 _, .det 65 _, .det 66 _]) rfl rfl ?_
        refine Head.det rfl (fun β hβ => Det.norm (F' := [(61, _), (62, _), (63, _), (64, _), (65, _), (66, _), (9, _), (8, _), (7, _), (6, _), (5, _), (4, _), (2, _)]) (H' := [(_, _), (_, _), (_, _), (_, _), (_, _), (_, _), (_, _), (_, _)]) rfl rfl (det_call en57 rfl (fun w hb ho => Mul_ok ho.blocks))) ?_
        refine Head.norm (k' := 7) (es' := [.det 61 _, .det 62 _, .det 63 _, .det 64 _, .det 65 _, .det 66 _, .det 67 _]) rfl rfl ?_
        refine Head.fresh rfl (fun β hβ => New.norm (F' := [(9, _), (8, _), (7, _), (6, _), (5, _), (4, _), (2, _)]) (H' := [(_, _), (_, _), (_, _), (_, _), (_, _), (_, _), (_, _), (_, _)]) rfl rfl (fr_alloc z28).new) ?_
        refine Head.norm (k' := 8) (es' := [.det 61 _, .det 62 _, .det 63 _, .det 64 _, .det 65 _, .det 66 _, .det 67 _, .fresh 10 _ _ _]) rfl rfl ?_
        refine Head.fresh rfl (fun β hβ => New.norm (F' := [(9, _), (8, _), (7, _), (6, _), (5, _), (4, _), (2, _)]) (H' := [(_, _), (_, _), (_, _), (_, _), (_, _), (_, _), (_, _), (_, _)]) rfl rfl (fr_alloc z28).new) ?_
        refine Head.norm (k' := 9) (es' := [.det 61 _, .det 62 _, .det 63 _, .det 64 _, .det 65 _, .det 66 _, .det 67 _, .fresh 10 _ _ _, .fresh 11 _ _ _]) rfl rfl ?_
        refine Head.done ⟨by kernel_rfl, fun β hβ => ?_⟩
        refine OpsW.norm (F' := [(61, _), (62, _), (63, _), (64, _), (65, _), (66, _), (67, _), (10, .pointer (some ⟨(β 10).1, 0, none⟩)), (11, .pointer (some ⟨(β 11).1, 0, none⟩)), (9, _), (8, _), (7, _), (6, _), (5, _), (4, _), (2, _)]) (H' := [(_, _), (_, _), (_, _), (_, _), (_, _), (_, _), (_, _), (_, _), (_, _), (_, _)]) rfl rfl ?_
        generalize (β 10).1 = b10
        generalize (β 11).1 = b11
        refine OpsW.store sz28 rfl rfl rfl rfl rfl (Upd.here) rfl ?_
        refine OpsW.store sz28 rfl rfl rfl rfl rfl (Upd.there (Upd.here)) rfl ?_
        refine sNext ?_
        refine W.keep (F' := [(10, _), (11, _), (8, _), (7, _), (6, _), (5, _), (4, _), (2, _)]) ⟨rfl, rfl, rfl, rfl, rfl, rfl, rfl, rfl, trivial⟩ ?_
        refine sSeq ?_
        refine W.draw mixed 9 [[], [0], [], [0, 1, 2], [], [0, 1, 2, 3, 4], [], [0, 1, 2, 3, 4, 5, 6], [], [0, 1, 2, 3, 4, 5, 6, 7, 8]] (cl_lt (by decide)) ?_
        refine Head.det rfl (fun β hβ => Det.norm (F' := [(10, _), (11, _), (8, _), (7, _), (6, _), (5, _), (4, _), (2, _)]) (H' := [(_, _), (_, _), (_, _), (_, _), (_, _), (_, _), (_, _), (_, _), (_, _), (_, _)]) rfl rfl (det_loadA ty28 rfl (List.Mem.tail _ (List.Mem.tail _ (List.Mem.tail _ (List.Mem.tail _ (List.Mem.head _))))) rfl)) ?_
        refine Head.norm (k' := 1) (es' := [.det 68 _]) rfl rfl ?_
        refine Head.det rfl (fun β hβ => Det.norm (F' := [(68, _), (10, _), (11, _), (8, _), (7, _), (6, _), (5, _), (4, _), (2, _)]) (H' := [(_, _), (_, _), (_, _), (_, _), (_, _), (_, _), (_, _), (_, _), (_, _), (_, _)]) rfl rfl (det_call en56 rfl (fun w hb ho => Square_ok ho.blocks))) ?_
        refine Head.norm (k' := 2) (es' := [.det 68 _, .det 69 _]) rfl rfl ?_
        refine Head.det rfl (fun β hβ => Det.norm (F' := [(10, _), (11, _), (8, _), (7, _), (6, _), (5, _), (4, _), (2, _)]) (H' := [(_, _), (_, _), (_, _), (_, _), (_, _), (_, _), (_, _), (_, _), (_, _), (_, _)]) rfl rfl (det_loadA ty28 rfl (List.Mem.head _) rfl)) ?_
        refine Head.norm (k' := 3) (es' := [.det 68 _, .det 69 _, .det 70 _]) rfl rfl ?_
        refine Head.det rfl (fun β hβ => Det.norm (F' := [(68, _), (69, _), (70, _), (10, _), (11, _), (8, _), (7, _), (6, _), (5, _), (4, _), (2, _)]) (H' := [(_, _), (_, _), (_, _), (_, _), (_, _), (_, _), (_, _), (_, _), (_, _), (_, _)]) rfl rfl (det_call en67 rfl (fun w hb ho => Sub_ok ho.blocks))) ?_
        refine Head.norm (k' := 4) (es' := [.det 68 _, .det 69 _, .det 70 _, .det 71 _]) rfl rfl ?_
        refine Head.det rfl (fun β hβ => Det.norm (F' := [(10, _), (11, _), (8, _), (7, _), (6, _), (5, _), (4, _), (2, _)]) (H' := [(_, _), (_, _), (_, _), (_, _), (_, _), (_, _), (_, _), (_, _), (_, _), (_, _)]) rfl rfl (det_loadA ty28 rfl (List.Mem.tail _ (List.Mem.head _)) rfl)) ?_
        refine Head.norm (k' := 5) (es' := [.det 68 _, .det 69 _, .det 70 _, .det 71 _, .det 72 _]) rfl rfl ?_
        refine Head.det rfl (fun β hβ => Det.norm (F' := [(68, _), (69, _), (70, _), (71, _), (72, _), (10, _), (11, _), (8, _), (7, _), (6, _), (5, _), (4, _), (2, _)]) (H' := [(_, _), (_, _), (_, _), (_, _), (_, _), (_, _), (_, _), (_, _), (_, _), (_, _)]) rfl rfl (det_call en67 rfl (fun w hb ho => Sub_ok ho.blocks))) ?_
        refine Head.norm (k' := 6) (es' := [.det 68 _, .det 69 _, .det 70 _, .det 71 _, .det 72 _, .det 73 _]) rfl rfl ?_
        refine Head.det rfl (fun β hβ => Det.norm (F' := [(10, _), (11, _), (8, _), (7, _), (6, _), (5, _), (4, _), (2, _)]) (H' := [(_, _), (_, _), (_, _), (_, _), (_, _), (_, _), (_, _), (_, _), (_, _), (_, _)]) rfl rfl (det_loadA ty28 rfl (List.Mem.tail _ (List.Mem.head _)) rfl)) ?_
        refine Head.norm (k' := 7) (es' := [.det 68 _, .det 69 _, .det 70 _, .det 71 _, .det 72 _, .det 73 _, .det 74 _]) rfl rfl ?_
        refine Head.det rfl (fun β hβ => Det.norm (F' := [(68, _), (69, _), (70, _), (71, _), (72, _), (73, _), (74, _), (10, _), (11, _), (8, _), (7, _), (6, _), (5, _), (4, _), (2, _)]) (H' := [(_, _), (_, _), (_, _), (_, _), (_, _), (_, _), (_, _), (_, _), (_, _), (_, _)]) rfl rfl (det_call en67 rfl (fun w hb ho => Sub_ok ho.blocks))) ?_
        refine Head.norm (k' := 8) (es' := [.det 68 _, .det 69 _, .det 70 _, .det 71 _, .det 72 _, .det 73 _, .det 74 _, .det 75 _]) rfl rfl ?_
        refine Head.fresh rfl (fun β hβ => New.norm (F' := [(10, _), (11, _), (8, _), (7, _), (6, _), (5, _), (4, _), (2, _)]) (H' := [(_, _), (_, _), (_, _), (_, _), (_, _), (_, _), (_, _), (_, _), (_, _), (_, _)]) rfl rfl (fr_alloc z28).new) ?_
        refine Head.norm (k' := 9) (es' := [.det 68 _, .det 69 _, .det 70 _, .det 71 _, .det 72 _, .det 73 _, .det 74 _, .det 75 _, .fresh 12 _ _ _]) rfl rfl ?_
        refine Head.done ⟨by kernel_rfl, fun β hβ => ?_⟩
        refine OpsW.norm (F' := [(68, _), (69, _), (70, _), (71, _), (72, _), (73, _), (74, _), (75, _), (12, .pointer (some ⟨(β 12).1, 0, none⟩)), (10, _), (11, _), (8, _), (7, _), (6, _), (5, _), (4, _), (2, _)]) (H' := [(_, _), (_, _), (_, _), (_, _), (_, _), (_, _), (_, _), (_, _), (_, _), (_, _), (_, _)]) rfl rfl ?_
        generalize (β 12).1 = b12
        refine OpsW.store sz28 rfl rfl rfl rfl rfl (Upd.here) rfl ?_
        refine sNext ?_
        refine W.keep (F' := [(12, _), (10, _), (11, _), (8, _), (7, _), (6, _), (5, _), (4, _), (2, _)]) ⟨rfl, rfl, rfl, rfl, rfl, rfl, rfl, rfl, rfl, trivial⟩ ?_
        refine sSeq ?_
        refine W.region ?_
        refine OpsW.det (det_fieldAddr fl74_1 rfl) rfl ?_
        refine OpsW.det (det_loadA ty28 rfl (List.Mem.tail _ (List.Mem.tail _ (List.Mem.tail _ (List.Mem.tail _ (List.Mem.tail _ (List.Mem.tail _ (List.Mem.tail _ (List.Mem.tail _ (List.Mem.tail _ (List.Mem.tail _ (List.Mem.head _))))))))))) rfl) rfl ?_
        refine OpsW.det (det_loadA ty28 rfl (List.Mem.tail _ (List.Mem.head _)) rfl) rfl ?_
        refine OpsW.det (det_call en57 rfl (fun w hb ho => Mul_ok ho.blocks)) rfl ?_
        refine OpsW.fresh (fr_alloc z28) rfl fun b13 => ?_
        refine OpsW.store sz28 rfl rfl rfl rfl rfl (Upd.here) rfl ?_
        refine sNext ?_
        refine W.keep (F' := [(13, _), (12, _), (11, _), (8, _), (7, _), (6, _), (5, _), (4, _), (2, _)]) ⟨rfl, rfl, rfl, rfl, rfl, rfl, rfl, rfl, rfl, trivial⟩ ?_
        refine sSeq ?_
        refine W.draw mixed 20 [[], [], [], [], [2, 3], [1, 2, 3, 4], [], [1, 2, 3, 4, 5, 6], [], [1, 2, 3, 4, 5, 6, 7, 8], [], [10], [], [1, 2, 3, 4, 5, 6, 7, 8, 9, 10, 11, 12], [1, 2, 3, 4, 5, 6, 7, 8, 9, 10, 11, 12, 13], [], [1, 2, 3, 4, 5, 6, 7, 8, 9, 10, 11, 12, 13, 14, 15], [], [1, 2, 3, 4, 5, 6, 7, 8, 9, 10, 11, 12, 13, 14, 15, 16, 17], [0, 1, 2, 3, 4, 5, 6, 7, 8, 9, 10, 11, 12, 13, 14, 15, 16, 17, 18], [0, 1, 2, 3, 4, 5, 6, 7, 8, 9, 10, 11, 12, 13, 14, 15, 16, 17, 18, 19]] (cl_lt (by decide)) ?_
        refine Head.det rfl (fun β hβ => Det.norm (F' := [(13, _), (12, _), (11, _), (8, _), (7, _), (6, _), (5, _), (4, _), (2, _)]) (H' := [(_, _), (_, _), (_, _), (_, _), (_, _), (_, _), (_, _), (_, _), (_, _), (_, _), (_, _), (_, _)]) rfl rfl (det_loadA ty28 rfl (List.Mem.tail _ (List.Mem.head _)) rfl)) ?_
        refine Head.norm (k' := 1) (es' := [.det 80 _]) rfl rfl ?_
        refine Head.det rfl (fun β hβ => Det.norm (F' := [(13, _), (12, _), (11, _), (8, _), (7, _), (6, _), (5, _), (4, _), (2, _)]) (H' := [(_, _), (_, _), (_, _), (_, _), (_, _), (_, _), (_, _), (_, _), (_, _), (_, _), (_, _), (_, _)]) rfl rfl (det_loadA ty28 rfl (List.Mem.tail _ (List.Mem.tail _ (List.Mem.tail _ (List.Mem.tail _ (List.Mem.tail _ (List.Mem.tail _ (List.Mem.head _))))))) rfl)) ?_
        refine Head.norm (k' := 2) (es' := [.det 80 _, .det 81 _]) rfl rfl ?_
        refine Head.det rfl (fun β hβ => Det.norm (F' := [(13, _), (12, _), (11, _), (8, _), (7, _), (6, _), (5, _), (4, _), (2, _)]) (H' := [(_, _), (_, _), (_, _), (_, _), (_, _), (_, _), (_, _), (_, _), (_, _), (_, _), (_, _), (_, _)]) rfl rfl (det_loadA ty28 rfl (List.Mem.tail _ (List.Mem.tail _ (List.Mem.tail _ (List.Mem.head _)))) rfl)) ?_
        refine Head.norm (k' := 3) (es' := [.det 80 _, .det 81 _, .det 82 _]) rfl rfl ?_
        refine Head.det rfl (fun β hβ => Det.norm (F' := [(13, _), (12, _), (11, _), (8, _), (7, _), (6, _), (5, _), (4, _), (2, _)]) (H' := [(_, _), (_, _), (_, _), (_, _), (_, _), (_, _), (_, _), (_, _), (_, _), (_, _), (_, _), (_, _)]) rfl rfl (det_loadA ty28 rfl (List.Mem.tail _ (List.Mem.head _)) rfl)) ?_
        refine Head.norm (k' := 4) (es' := [.det 80 _, .det 81 _, .det 82 _, .det 83 _]) rfl rfl ?_
        refine Head.det rfl (fun β hβ => Det.norm (F' := [(82, _), (83, _), (13, _), (12, _), (11, _), (8, _), (7, _), (6, _), (5, _), (4, _), (2, _)]) (H' := [(_, _), (_, _), (_, _), (_, _), (_, _), (_, _), (_, _), (_, _), (_, _), (_, _), (_, _), (_, _)]) rfl rfl (det_call en67 rfl (fun w hb ho => Sub_ok ho.blocks))) ?_
        refine Head.norm (k' := 5) (es' := [.det 80 _, .det 81 _, .det 82 _, .det 83 _, .det 84 _]) rfl rfl ?_
        refine Head.det rfl (fun β hβ => Det.norm (F' := [(81, _), (82, _), (83, _), (84, _), (13, _), (12, _), (11, _), (8, _), (7, _), (6, _), (5, _), (4, _), (2, _)]) (H' := [(_, _), (_, _), (_, _), (_, _), (_, _), (_, _), (_, _), (_, _), (_, _), (_, _), (_, _), (_, _)]) rfl rfl (det_call en57 rfl (fun w hb ho => Mul_ok ho.blocks))) ?_
        refine Head.norm (k' := 6) (es' := [.det 80 _, .det 81 _, .det 82 _, .det 83 _, .det 84 _, .det 85 _]) rfl rfl ?_
        refine Head.det rfl (fun β hβ => Det.norm (F' := [(13, _), (12, _), (11, _), (8, _), (7, _), (6, _), (5, _), (4, _), (2, _)]) (H' := [(_, _), (_, _), (_, _), (_, _), (_, _), (_, _), (_, _), (_, _), (_, _), (_, _), (_, _), (_, _)]) rfl rfl (det_loadA ty28 rfl (List.Mem.head _) rfl)) ?_
        refine Head.norm (k' := 7) (es' := [.det 80 _, .det 81 _, .det 82 _, .det 83 _, .det 84 _, .det 85 _, .det 86 _]) rfl rfl ?_
        refine Head.det rfl (fun β hβ => Det.norm (F' := [(81, _), (82, _), (83, _), (84, _), (85, _), (86, _), (13, _), (12, _), (11, _), (8, _), (7, _), (6, _), (5, _), (4, _), (2, _)]) (H' := [(_, _), (_, _), (_, _), (_, _), (_, _), (_, _), (_, _), (_, _), (_, _), (_, _), (_, _), (_, _)]) rfl rfl (det_call en67 rfl (fun w hb ho => Sub_ok ho.blocks))) ?_
        refine Head.norm (k' := 8) (es' := [.det 80 _, .det 81 _, .det 82 _, .det 83 _, .det 84 _, .det 85 _, .det 86 _, .det 87 _]) rfl rfl ?_
        refine Head.det rfl (fun β hβ => Det.norm (F' := [(13, _), (12, _), (11, _), (8, _), (7, _), (6, _), (5, _), (4, _), (2, _)]) (H' := [(_, _), (_, _), (_, _), (_, _), (_, _), (_, _), (_, _), (_, _), (_, _), (_, _), (_, _), (_, _)]) rfl rfl (det_loadA ty28 rfl (List.Mem.head _) rfl)) ?_
        refine Head.norm (k' := 9) (es' := [.det 80 _, .det 81 _, .det 82 _, .det 83 _, .det 84 _, .det 85 _, .det 86 _, .det 87 _, .det 88 _]) rfl rfl ?_
        refine Head.det rfl (fun β hβ => Det.norm (F' := [(81, _), (82, _), (83, _), (84, _), (85, _), (86, _), (87, _), (88, _), (13, _), (12, _), (11, _), (8, _), (7, _), (6, _), (5, _), (4, _), (2, _)]) (H' := [(_, _), (_, _), (_, _), (_, _), (_, _), (_, _), (_, _), (_, _), (_, _), (_, _), (_, _), (_, _)]) rfl rfl (det_call en67 rfl (fun w hb ho => Sub_ok ho.blocks))) ?_
        refine Head.norm (k' := 10) (es' := [.det 80 _, .det 81 _, .det 82 _, .det 83 _, .det 84 _, .det 85 _, .det 86 _, .det 87 _, .det 88 _, .det 89 _]) rfl rfl ?_
        refine Head.det rfl (fun β hβ => Det.norm (F' := [(13, _), (12, _), (11, _), (8, _), (7, _), (6, _), (5, _), (4, _), (2, _)]) (H' := [(_, _), (_, _), (_, _), (_, _), (_, _), (_, _), (_, _), (_, _), (_, _), (_, _), (_, _), (_, _)]) rfl rfl (det_fieldAddr fl74_2 rfl)) ?_
        refine Head.norm (k' := 11) (es' := [.det 80 _, .det 81 _, .det 82 _, .det 83 _, .det 84 _, .det 85 _, .det 86 _, .det 87 _, .det 88 _, .det 89 _, .det 90 _]) rfl rfl ?_
        refine Head.det rfl (fun β hβ => Det.norm (F' := [(90, _), (13, _), (12, _), (11, _), (8, _), (7, _), (6, _), (5, _), (4, _), (2, _)]) (H' := [(_, _), (_, _), (_, _), (_, _), (_, _), (_, _), (_, _), (_, _), (_, _), (_, _), (_, _), (_, _)]) rfl rfl (det_loadA ty28 rfl (List.Mem.tail _ (List.Mem.tail _ (List.Mem.tail _ (List.Mem.tail _ (List.Mem.tail _ (List.Mem.tail _ (List.Mem.tail _ (List.Mem.tail _ (List.Mem.tail _ (List.Mem.tail _ (List.Mem.tail _ (List.Mem.head _)))))))))))) rfl)) ?_
        refine Head.norm (k' := 12) (es' := [.det 80 _, .det 81 _, .det 82 _, .det 83 _, .det 84 _, .det 85 _, .det 86 _, .det 87 _, .det 88 _, .det 89 _, .det 90 _, .det 91 _]) rfl rfl ?_
        refine Head.det rfl (fun β hβ => Det.norm (F' := [(13, _), (12, _), (11, _), (8, _), (7, _), (6, _), (5, _), (4, _), (2, _)]) (H' := [(_, _), (_, _), (_, _), (_, _), (_, _), (_, _), (_, _), (_, _), (_, _), (_, _), (_, _), (_, _)]) rfl rfl (det_loadA ty28 rfl (List.Mem.tail _ (List.Mem.tail _ (List.Mem.tail _ (List.Mem.tail _ (List.Mem.tail _ (List.Mem.tail _ (List.Mem.tail _ (List.Mem.head _)))))))) rfl)) ?_
        refine Head.norm (k' := 13) (es' := [.det 80 _, .det 81 _, .det 82 _, .det 83 _, .det 84 _, .det 85 _, .det 86 _, .det 87 _, .det 88 _, .det 89 _, .det 90 _, .det 91 _, .det 92 _]) rfl rfl ?_
        refine Head.det rfl (fun β hβ => Det.norm (F' := [(81, _), (82, _), (83, _), (84, _), (85, _), (86, _), (87, _), (88, _), (89, _), (90, _), (91, _), (92, _), (13, _), (12, _), (11, _), (8, _), (7, _), (6, _), (5, _), (4, _), (2, _)]) (H' := [(_, _), (_, _), (_, _), (_, _), (_, _), (_, _), (_, _), (_, _), (_, _), (_, _), (_, _), (_, _)]) rfl rfl (det_call en33 rfl (fun w hb ho => Add_ok ho.blocks))) ?_
        refine Head.norm (k' := 14) (es' := [.det 80 _, .det 81 _, .det 82 _, .det 83 _, .det 84 _, .det 85 _, .det 86 _, .det 87 _, .det 88 _, .det 89 _, .det 90 _, .det 91 _, .det 92 _, .det 93 _]) rfl rfl ?_
        refine Head.det rfl (fun β hβ => Det.norm (F' := [(81, _), (82, _), (83, _), (84, _), (85, _), (86, _), (87, _), (88, _), (89, _), (90, _), (91, _), (92, _), (93, _), (13, _), (12, _), (11, _), (8, _), (7, _), (6, _), (5, _), (4, _), (2, _)]) (H' := [(_, _), (_, _), (_, _), (_, _), (_, _), (_, _), (_, _), (_, _), (_, _), (_, _), (_, _), (_, _)]) rfl rfl (det_call en56 rfl (fun w hb ho => Square_ok ho.blocks))) ?_
        refine Head.norm (k' := 15) (es' := [.det 80 _, .det 81 _, .det 82 _, .det 83 _, .det 84 _, .det 85 _, .det 86 _, .det 87 _, .det 88 _, .det 89 _, .det 90 _, .det 91 _, .det 92 _, .det 93 _, .det 94 _]) rfl rfl ?_
        refine Head.det rfl (fun β hβ => Det.norm (F' := [(13, _), (12, _), (11, _), (8, _), (7, _), (6, _), (5, _), (4, _), (2, _)]) (H' := [(_, _), (_, _), (_, _), (_, _), (_, _), (_, _), (_, _), (_, _), (_, _), (_, _), (_, _), (_, _)]) rfl rfl (det_loadA ty28 rfl (List.Mem.tail _ (List.Mem.tail _ (List.Mem.tail _ (List.Mem.tail _ (List.Mem.tail _ (List.Mem.tail _ (List.Mem.tail _ (List.Mem.tail _ (List.Mem.head _))))))))) rfl)) ?_
        refine Head.norm (k' := 16) (es' := [.det 80 _, .det 81 _, .det 82 _, .det 83 _, .det 84 _, .det 85 _, .det 86 _, .det 87 _, .det 88 _, .det 89 _, .det 90 _, .det 91 _, .det 92 _, .det 93 _, .det 94 _, .det 95 _]) rfl rfl ?_
        refine Head.det rfl (fun β hβ => Det.norm (F' := [(81, _), (82, _), (83, _), (84, _), (85, _), (86, _), (87, _), (88, _), (89, _), (90, _), (91, _), (92, _), (93, _), (94, _), (95, _), (13, _), (12, _), (11, _), (8, _), (7, _), (6, _), (5, _), (4, _), (2, _)]) (H' := [(_, _), (_, _), (_, _), (_, _), (_, _), (_, _), (_, _), (_, _), (_, _), (_, _), (_, _), (_, _)]) rfl rfl (det_call en67 rfl (fun w hb ho => Sub_ok ho.blocks))) ?_
        refine Head.norm (k' := 17) (es' := [.det 80 _, .det 81 _, .det 82 _, .det 83 _, .det 84 _, .det 85 _, .det 86 _, .det 87 _, .det 88 _, .det 89 _, .det 90 _, .det 91 _, .det 92 _, .det 93 _, .det 94 _, .det 95 _, .det 96 _]) rfl rfl ?_
        refine Head.det rfl (fun β hβ => Det.norm (F' := [(13, _), (12, _), (11, _), (8, _), (7, _), (6, _), (5, _), (4, _), (2, _)]) (H' := [(_, _), (_, _), (_, _), (_, _), (_, _), (_, _), (_, _), (_, _), (_, _), (_, _), (_, _), (_, _)]) rfl rfl (det_loadA ty28 rfl (List.Mem.tail _ (List.Mem.tail _ (List.Mem.tail _ (List.Mem.tail _ (List.Mem.tail _ (List.Mem.head _)))))) rfl)) ?_
        refine Head.norm (k' := 18) (es' := [.det 80 _, .det 81 _, .det 82 _, .det 83 _, .det 84 _, .det 85 _, .det 86 _, .det 87 _, .det 88 _, .det 89 _, .det 90 _, .det 91 _, .det 92 _, .det 93 _, .det 94 _, .det 95 _, .det 96 _, .det 97 _]) rfl rfl ?_
        refine Head.det rfl (fun β hβ => Det.norm (F' := [(81, _), (82, _), (83, _), (84, _), (85, _), (86, _), (87, _), (88, _), (89, _), (90, _), (91, _), (92, _), (93, _), (94, _), (95, _), (96, _), (97, _), (13, _), (12, _), (11, _), (8, _), (7, _), (6, _), (5, _), (4, _), (2, _)]) (H' := [(_, _), (_, _), (_, _), (_, _), (_, _), (_, _), (_, _), (_, _), (_, _), (_, _), (_, _), (_, _)]) rfl rfl (det_call en67 rfl (fun w hb ho => Sub_ok ho.blocks))) ?_
        refine Head.norm (k' := 19) (es' := [.det 80 _, .det 81 _, .det 82 _, .det 83 _, .det 84 _, .det 85 _, .det 86 _, .det 87 _, .det 88 _, .det 89 _, .det 90 _, .det 91 _, .det 92 _, .det 93 _, .det 94 _, .det 95 _, .det 96 _, .det 97 _, .det 98 _]) rfl rfl ?_
        refine Head.det rfl (fun β hβ => Det.norm (F' := [(80, _), (81, _), (82, _), (83, _), (84, _), (85, _), (86, _), (87, _), (88, _), (89, _), (90, _), (91, _), (92, _), (93, _), (94, _), (95, _), (96, _), (97, _), (98, _), (13, _), (12, _), (11, _), (8, _), (7, _), (6, _), (5, _), (4, _), (2, _)]) (H' := [(_, _), (_, _), (_, _), (_, _), (_, _), (_, _), (_, _), (_, _), (_, _), (_, _), (_, _), (_, _)]) rfl rfl (det_build rfl bld74)) ?_
        refine Head.norm (k' := 20) (es' := [.det 80 _, .det 81 _, .det 82 _, .det 83 _, .det 84 _, .det 85 _, .det 86 _, .det 87 _, .det 88 _, .det 89 _, .det 90 _, .det 91 _, .det 92 _, .det 93 _, .det 94 _, .det 95 _, .det 96 _, .det 97 _, .det 98 _, .det 99 _]) rfl rfl ?_
        refine Head.done ⟨by kernel_rfl, fun β hβ => ?_⟩
        refine OpsW.norm (F' := [(80, _), (81, _), (82, _), (83, _), (84, _), (85, _), (86, _), (87, _), (88, _), (89, _), (90, _), (91, _), (92, _), (93, _), (94, _), (95, _), (96, _), (97, _), (98, _), (99, _), (13, _), (12, _), (11, _), (8, _), (7, _), (6, _), (5, _), (4, _), (2, _)]) (H' := [(_, _), (_, _), (_, _), (_, _), (_, _), (_, _), (_, _), (_, _), (_, _), (_, _), (_, _), (_, _)]) rfl rfl ?_
        refine OpsW.store sz74 rfl rfl rfl rfl rfl (Upd.there (Upd.there (Upd.there (Upd.there (Upd.there (Upd.there (Upd.there (Upd.there (Upd.there (Upd.here)))))))))) rfl ?_
        refine sNext ?_
        refine W.keep (F' := [(4, _)]) ⟨rfl, trivial⟩ ?_
        refine sRet ?_
        exact done1 Tryd.results53 (rv_cellA ty74 rfl (List.Mem.tail _ (List.Mem.tail _ (List.Mem.tail _ (List.Mem.tail _ (List.Mem.tail _ (List.Mem.tail _ (List.Mem.tail _ (List.Mem.tail _ (List.Mem.tail _ (List.Mem.head _)))))))))) rfl) (congrArg encJ (jadd_n hc16 hc20 hc44).symm)
theorem PAdd_ok {p q : Pt} {w : World} (hG : Blocks (GH T) w)  : Vm.Pure Tryd.prog 20 #[encP p, encP q] w (encP (padd p q)) := by
  refine pure_of_W (n := 10) (args := [encP p, encP q]) Tryd.func20 rfl Tryd.ntmps20 (Nat.le_of_ble_eq_true rfl) hG ?_
  refine sStart ?_
  refine sSeq ?_
  refine W.region ?_
  refine OpsW.fresh (fr_box rfl rfl) rfl fun b2 => ?_
  refine OpsW.fresh (fr_box rfl rfl) rfl fun b3 => ?_
  refine OpsW.fresh (fr_alloc z30) rfl fun b4 => ?_
  refine sNext ?_
  refine W.keep (F' := [(4, _), (3, _), (2, _)]) ⟨rfl, rfl, rfl, trivial⟩ ?_
  refine sSeq ?_
  refine W.draw mixed 5 [[], [0], [], [0, 1, 2], [0, 1, 2, 3], [0, 1, 2, 3, 4]] (cl_lt (by decide)) ?_
  refine Head.det rfl (fun β hβ => Det.norm (F' := [(4, _), (3, _), (2, _)]) (H' := [(_, _), (_, _), (_, _)]) rfl rfl (det_loadA ty30 rfl (List.Mem.tail _ (List.Mem.tail _ (List.Mem.head _))) rfl)) ?_
  refine Head.norm (k' := 1) (es' := [.det 5 _]) rfl rfl ?_
  refine Head.det rfl (fun β hβ => Det.norm (F' := [(5, _), (4, _), (3, _), (2, _)]) (H' := [(_, _), (_, _), (_, _)]) rfl rfl (det_call en52 rfl (fun w hb ho => tojac_ok ho.blocks))) ?_
  refine Head.norm (k' := 2) (es' := [.det 5 _, .det 6 _]) rfl rfl ?_
  refine Head.det rfl (fun β hβ => Det.norm (F' := [(4, _), (3, _), (2, _)]) (H' := [(_, _), (_, _), (_, _)]) rfl rfl (det_loadA ty30 rfl (List.Mem.tail _ (List.Mem.head _)) rfl)) ?_
  refine Head.norm (k' := 3) (es' := [.det 5 _, .det 6 _, .det 7 _]) rfl rfl ?_
  refine Head.det rfl (fun β hβ => Det.norm (F' := [(5, _), (6, _), (7, _), (4, _), (3, _), (2, _)]) (H' := [(_, _), (_, _), (_, _)]) rfl rfl (det_call en53 rfl (fun w hb ho => jadd_ok ho.blocks))) ?_
  refine Head.norm (k' := 4) (es' := [.det 5 _, .det 6 _, .det 7 _, .det 8 _]) rfl rfl ?_
  refine Head.det rfl (fun β hβ => Det.norm (F' := [(5, _), (6, _), (7, _), (8, _), (4, _), (3, _), (2, _)]) (H' := [(_, _), (_, _), (_, _)]) rfl rfl (det_call en54 rfl (fun w hb ho => point_ok ho.blocks))) ?_
  refine Head.norm (k' := 5) (es' := [.det 5 _, .det 6 _, .det 7 _, .det 8 _, .det 9 _]) rfl rfl ?_
  refine Head.done ⟨by kernel_rfl, fun β hβ => ?_⟩
  refine OpsW.norm (F' := [(5, _), (6, _), (7, _), (8, _), (9, _), (4, _), (3, _), (2, _)]) (H' := [(_, _), (_, _), (_, _)]) rfl rfl ?_
  refine OpsW.store sz30 rfl rfl rfl rfl rfl (Upd.here) rfl ?_
  refine sNext ?_
  refine W.keep (F' := [(4, _)]) ⟨rfl, trivial⟩ ?_
  refine sRet ?_
  exact done1 Tryd.results20 (rv_cellA ty30 rfl (List.Mem.head _) rfl) rfl

end Go.Cu
