/-
  The first group's points: what Neg, On, Add compute: the walks. Conditions: none.
-/
import Derived.Test.YtndonmbemehefaaDoorFp4
namespace Go.Cu
open Go Go.Vm Go.RowKit Go.Proofs 
attribute [local irreducible] W OpsW Det Fresh New Writes Vm.Pure Makes Changes ExternTo BuildTo ZeroTo FieldTo IndexTo BinTo SliceTo Vm.Enters
set_option linter.unusedVariables false
set_option linter.unusedSimpArgs false
variable {T : Nat → TypeId × Nat × Nat}

def inv (x : Fq) : Fq := pw x (pp - 2)
def four : Fq := Zp.of 4
def pneg (p : Pt) : Pt := if p = (0, 0) then p else (p.1, 0 - p.2)
def onB (p : Pt) : Bool := decide (p = (0, 0)) || decide (p.2 * p.2 = p.1 * p.1 * p.1 + four)
def tojac (p : Pt) : Jac := if p = (0, 0) then (0, 0, 0) else (p.1, p.2, Zp.of 1)
def jdbl (p : Jac) : Jac :=
  if p.2.2 = 0 then (0, 0, 0) else if p.2.1 = 0 then (0, 0, 0) else
    let a := p.1 * p.1
    let b := p.2.1 * p.2.1
    let c := b * b
    let d0 := (p.1 + b) * (p.1 + b) - a - c
    let d := d0 + d0
    let e := a + a + a
    let f := e * e - d - d
    let c4 := (c + c) + (c + c)
    (f, e * (d - f) - c4 - c4, p.2.1 * p.2.2 + p.2.1 * p.2.2)
def jaddH (p : Jac) (q : Pt) : Fq := q.1 * (p.2.2 * p.2.2) - p.1
def jaddR (p : Jac) (q : Pt) : Fq := q.2 * p.2.2 * (p.2.2 * p.2.2) - p.2.1
def jaddN (p : Jac) (q : Pt) : Jac :=
  let zz := p.2.2 * p.2.2
  let h := jaddH p q
  let r := jaddR p q + jaddR p q
  let hh := h * h
  let i := (hh + hh) + (hh + hh)
  let j := h * i
  let v := p.1 * i
  let x := r * r - j - v - v
  let yj := p.2.1 * j
  (x, r * (v - x) - yj - yj, (p.2.2 + h) * (p.2.2 + h) - zz - hh)
def jadd (p : Jac) (q : Pt) : Jac :=
  if q = (0, 0) then p else if p.2.2 = 0 then tojac q else if jaddH p q = 0 then (if jaddR p q = 0 then jdbl p else (0, 0, 0)) else jaddN p q
def point (p : Jac) : Pt := if p.2.2 = 0 then (0, 0) else
  let i := inv p.2.2
  let i2 := i * i
  (p.1 * i2, p.2.1 * i2 * i)
def padd (p q : Pt) : Pt := point (jadd (tojac p) q)
theorem Inv_call {x : Fq} {w : World} (hG : Blocks (GH T) w) : Vm.Pure Tryd.prog 60 #[encF x, .agg #[u64 13402431016077863593, u64 2210141511517208575, u64 7435674573564081700, u64 7239337960414712511, u64 5412103778470702295, u64 1873798617647539866]] w (encF (inv x)) := by
  have h := power_ok (x := x) (E := pp - 2) (by decide) hG
  have e : Value.agg #[u64 (lim (pp - 2) 0), u64 (lim (pp - 2) 1), u64 (lim (pp - 2) 2), u64 (lim (pp - 2) 3), u64 (lim (pp - 2) 4), u64 (lim (pp - 2) 5)] = .agg #[u64 13402431016077863593, u64 2210141511517208575, u64 7435674573564081700, u64 7239337960414712511, u64 5412103778470702295, u64 1873798617647539866] := by kernel_rfl
  rw [e] at h
  exact h
theorem dt {p : Prop} [Decidable p] (h : decide p = true) : p := of_decide_eq_true h
theorem df {p : Prop} [Decidable p] (h : decide p = false) : ¬ p := of_decide_eq_false h
theorem pneg_yes {p : Pt} (h : decide (p = (0, 0)) = true) : pneg p = p := if_pos (dt h)
theorem pneg_no {p : Pt} (h : decide (p = (0, 0)) = false) : pneg p = (p.1, 0 - p.2) := if_neg (df h)
theorem tojac_yes {p : Pt} (h : decide (p = (0, 0)) = true) : tojac p = (0, 0, 0) := if_pos (dt h)
theorem tojac_no {p : Pt} (h : decide (p = (0, 0)) = false) : tojac p = (p.1, p.2, Zp.of 1) := if_neg (df h)
theorem point_yes {p : Jac} (h : decide (p.2.2 = 0) = true) : point p = (0, 0) := if_pos (dt h)
theorem point_no {p : Jac} (h : decide (p.2.2 = 0) = false) : point p = (p.1 * (inv p.2.2 * inv p.2.2), p.2.1 * (inv p.2.2 * inv p.2.2) * inv p.2.2) := if_neg (df h)
theorem jdbl_z {p : Jac} (h : decide (p.2.2 = 0) = true) : jdbl p = (0, 0, 0) := if_pos (dt h)
theorem jdbl_y {p : Jac} (h : decide (p.2.2 = 0) = false) (h2 : decide (p.2.1 = 0) = true) : jdbl p = (0, 0, 0) := (if_neg (df h)).trans (if_pos (dt h2))
theorem jdbl_no {p : Jac} (h : decide (p.2.2 = 0) = false) (h2 : decide (p.2.1 = 0) = false) : jdbl p = (
    let a := p.1 * p.1
    let b := p.2.1 * p.2.1
    let c := b * b
    let d0 := (p.1 + b) * (p.1 + b) - a - c
    let d := d0 + d0
    let e := a + a + a
    let f := e * e - d - d
    let c4 := (c + c) + (c + c)
    (f, e * (d - f) - c4 - c4, p.2.1 * p.2.2 + p.2.1 * p.2.2)) := (if_neg (df h)).trans (if_neg (df h2))
theorem jadd_q {p : Jac} {q : Pt} (h : decide (q = (0, 0)) = true) : jadd p q = p := if_pos (dt h)
theorem jadd_p {p : Jac} {q : Pt} (h : decide (q = (0, 0)) = false) (h2 : decide (p.2.2 = 0) = true) : jadd p q = tojac q := (if_neg (df h)).trans (if_pos (dt h2))
theorem jadd_d {p : Jac} {q : Pt} (h : decide (q = (0, 0)) = false) (h2 : decide (p.2.2 = 0) = false) (h3 : decide (jaddH p q = 0) = true) (h4 : decide (jaddR p q = 0) = true) : jadd p q = jdbl p :=
  (if_neg (df h)).trans ((if_neg (df h2)).trans ((if_pos (dt h3)).trans (if_pos (dt h4))))
theorem jadd_o {p : Jac} {q : Pt} (h : decide (q = (0, 0)) = false) (h2 : decide (p.2.2 = 0) = false) (h3 : decide (jaddH p q = 0) = true) (h4 : decide (jaddR p q = 0) = false) : jadd p q = (0, 0, 0) :=
  (if_neg (df h)).trans ((if_neg (df h2)).trans ((if_pos (dt h3)).trans (if_neg (df h4))))
theorem jadd_n {p : Jac} {q : Pt} (h : decide (q = (0, 0)) = false) (h2 : decide (p.2.2 = 0) = false) (h3 : decide (jaddH p q = 0) = false) : jadd p q = jaddN p q :=
  (if_neg (df h)).trans ((if_neg (df h2)).trans (if_neg (df h3)))

theorem bld31 {x y : Fq} : BuildTo Tryd.prog 31 [(0, encF x), (1, encF y)] (encP (x, y)) := BuildTo.of fun _ => by kernel_rfl
theorem bld107 {x y z : Fq} : BuildTo Tryd.prog 107 [(0, encF x), (1, encF y), (2, encF z)] (encJ (x, y, z)) := BuildTo.of fun _ => by kernel_rfl
theorem bz31 : ZeroTo Tryd.prog 31 (encP (0, 0)) := ZeroTo.of fun _ => by kernel_rfl
theorem bz107 : ZeroTo Tryd.prog 107 (encJ (0, 0, 0)) := ZeroTo.of fun _ => by kernel_rfl
theorem en18 : Vm.Enters Tryd.prog 18 := Vm.Enters.of fun _ _ => by kernel_rfl
theorem en93 : Vm.Enters Tryd.prog 93 := Vm.Enters.of fun _ _ => by kernel_rfl
theorem en23 : Vm.Enters Tryd.prog 23 := Vm.Enters.of fun _ _ => by kernel_rfl
theorem en70 : Vm.Enters Tryd.prog 70 := Vm.Enters.of fun _ _ => by kernel_rfl
theorem en65 : Vm.Enters Tryd.prog 65 := Vm.Enters.of fun _ _ => by kernel_rfl
theorem en81 : Vm.Enters Tryd.prog 81 := Vm.Enters.of fun _ _ => by kernel_rfl
theorem en98 : Vm.Enters Tryd.prog 98 := Vm.Enters.of fun _ _ => by kernel_rfl
theorem en67 : Vm.Enters Tryd.prog 67 := Vm.Enters.of fun _ _ => by kernel_rfl
theorem en60 : Vm.Enters Tryd.prog 60 := Vm.Enters.of fun _ _ => by kernel_rfl
theorem fl31_0 : TyF Tryd.prog 31 0 0 6 := ⟨⟨29, by kernel_rfl, by kernel_rfl⟩, by decide⟩
theorem fl31_1 : TyF Tryd.prog 31 1 6 6 := ⟨⟨29, by kernel_rfl, by kernel_rfl⟩, by decide⟩
theorem fl107_0 : TyF Tryd.prog 107 0 0 6 := ⟨⟨29, by kernel_rfl, by kernel_rfl⟩, by decide⟩
theorem fl107_1 : TyF Tryd.prog 107 1 6 6 := ⟨⟨29, by kernel_rfl, by kernel_rfl⟩, by decide⟩
theorem fl107_2 : TyF Tryd.prog 107 2 12 6 := ⟨⟨29, by kernel_rfl, by kernel_rfl⟩, by decide⟩
theorem sz31 : sizeIn Tryd.prog 31 = some 12 := by kernel_rfl
theorem sz107 : sizeIn Tryd.prog 107 = some 18 := by kernel_rfl
theorem ty31 : TyA Tryd.prog 31 12 := ⟨by kernel_rfl, by kernel_rfl⟩
theorem ty107 : TyA Tryd.prog 107 18 := ⟨by kernel_rfl, by kernel_rfl⟩
theorem z31 : TyZ Tryd.prog 31 (.agg #[.int .u64 0, .int .u64 0, .int .u64 0, .int .u64 0, .int .u64 0, .int .u64 0, .int .u64 0, .int .u64 0, .int .u64 0, .int .u64 0, .int .u64 0, .int .u64 0]) [.int .u64 0, .int .u64 0, .int .u64 0, .int .u64 0, .int .u64 0, .int .u64 0, .int .u64 0, .int .u64 0, .int .u64 0, .int .u64 0, .int .u64 0, .int .u64 0] := ⟨fun _ => by kernel_rfl, by kernel_rfl⟩
theorem z107 : TyZ Tryd.prog 107 (.agg #[.int .u64 0, .int .u64 0, .int .u64 0, .int .u64 0, .int .u64 0, .int .u64 0, .int .u64 0, .int .u64 0, .int .u64 0, .int .u64 0, .int .u64 0, .int .u64 0, .int .u64 0, .int .u64 0, .int .u64 0, .int .u64 0, .int .u64 0, .int .u64 0]) [.int .u64 0, .int .u64 0, .int .u64 0, .int .u64 0, .int .u64 0, .int .u64 0, .int .u64 0, .int .u64 0, .int .u64 0, .int .u64 0, .int .u64 0, .int .u64 0, .int .u64 0, .int .u64 0, .int .u64 0, .int .u64 0, .int .u64 0, .int .u64 0] := ⟨fun _ => by kernel_rfl, by kernel_rfl⟩
theorem Inv_ok {x : Fq} {w : World} (hG : Blocks (GH T) w)  : Vm.Pure Tryd.prog 67 #[encF x] w (encF (inv x)) := by
  refine pure_of_W (n := 12) (args := [encF x]) Tryd.func67 rfl Tryd.ntmps67 (Nat.le_of_ble_eq_true rfl) hG ?_
  refine sStart ?_
  refine sSeq ?_
  refine W.region ?_
  refine OpsW.fresh (fr_box rfl rfl) rfl fun b1 => ?_
  refine OpsW.fresh (fr_alloc z29) rfl fun b2 => ?_
  refine sNext ?_
  refine W.keep (F' := [(2, _), (1, _)]) ⟨rfl, rfl, trivial⟩ ?_
  refine sSeq ?_
  refine W.region ?_
  refine OpsW.det (det_loadA_ro ty27 rfl (List.Mem.tail _ (List.Mem.head _)) rfl) rfl ?_
  refine OpsW.fresh (fr_alloc z27) rfl fun b3 => ?_
  refine OpsW.store sz27 rfl rfl rfl rfl rfl (Upd.here) rfl ?_
  refine sNext ?_
  refine W.keep (F' := [(3, _), (2, _), (1, _)]) ⟨rfl, rfl, rfl, trivial⟩ ?_
  refine sSeq ?_
  refine W.region ?_
  refine OpsW.det (det_indexAddr_arr u27 sz26 rfl rfl ⟨by decide, by decide⟩) rfl ?_
  refine OpsW.det (det_loadC ty26 rfl (List.Mem.head _) rfl) rfl ?_
  refine OpsW.det ((det_sub (a := 13402431016077863595) (b := 2) rfl rfl).to (v := u64 13402431016077863593) (by kernel_rfl)) rfl ?_
  refine OpsW.det (det_indexAddr_arr u27 sz26 rfl rfl ⟨by decide, by decide⟩) rfl ?_
  refine OpsW.store sz26 rfl rfl rfl rfl rfl (Upd.here) rfl ?_
  refine sNext ?_
  refine W.keep (F' := [(3, _), (2, _), (1, _)]) ⟨rfl, rfl, rfl, trivial⟩ ?_
  refine sSeq ?_
  refine W.region ?_
  refine OpsW.det (det_loadA ty29 rfl (List.Mem.tail _ (List.Mem.tail _ (List.Mem.head _))) rfl) rfl ?_
  refine OpsW.det (det_loadA ty27 rfl (List.Mem.head _) rfl) rfl ?_
  refine OpsW.det (det_call en60 rfl (fun w hb ho => Inv_call ho.blocks)) rfl ?_
  refine OpsW.store sz29 rfl rfl rfl rfl rfl (Upd.there (Upd.here)) rfl ?_
  refine sNext ?_
  refine W.keep (F' := [(2, _)]) ⟨rfl, trivial⟩ ?_
  refine sRet ?_
  exact done1 Tryd.results67 (rv_cellA ty29 rfl (List.Mem.tail _ (List.Mem.head _)) rfl) rfl
theorem PNeg_ok {p : Pt} {w : World} (hG : Blocks (GH T) w)  : Vm.Pure Tryd.prog 45 #[encP p] w (encP (pneg p)) := by
  refine pure_of_W (n := 13) (args := [encP p]) Tryd.func45 rfl Tryd.ntmps45 (Nat.le_of_ble_eq_true rfl) hG ?_
  refine sStart ?_
  refine sSeq ?_
  refine W.region ?_
  refine OpsW.fresh (fr_box rfl rfl) rfl fun b1 => ?_
  refine OpsW.fresh (fr_alloc z31) rfl fun b2 => ?_
  refine sNext ?_
  refine W.keep (F' := [(2, _), (1, _)]) ⟨rfl, rfl, trivial⟩ ?_
  refine sSeq ?_
  refine sSeq ?_
  refine W.region ?_
  refine OpsW.det (det_loadA ty31 rfl (List.Mem.tail _ (List.Mem.head _)) rfl) rfl ?_
  refine OpsW.det (det_zero bz31) rfl ?_
  refine OpsW.det (det_eql31 rfl rfl) rfl ?_
  refine sNext ?_
  refine W.keep (F' := [(5, _), (2, _), (1, _)]) ⟨rfl, rfl, rfl, trivial⟩ ?_
  refine W.cond rfl (fun hc5 => ?_) (fun hc5 => ?_)
  · skip
    refine sSeq ?_
    refine W.region ?_
    refine OpsW.det (det_loadA ty31 rfl (List.Mem.tail _ (List.Mem.head _)) rfl) rfl ?_
    refine OpsW.store sz31 rfl rfl rfl rfl rfl (Upd.here) rfl ?_
    refine sNext ?_
    refine W.keep (F' := [(2, _)]) ⟨rfl, trivial⟩ ?_
    refine sRet ?_
    exact done1 Tryd.results45 (rv_cellA ty31 rfl (List.Mem.head _) rfl) (congrArg encP (pneg_yes hc5).symm)
  · skip
    refine sSkip ?_
    refine sSeq ?_
    refine W.draw mixed 6 [[], [0], [], [2], [2, 3], [0, 1, 2, 3, 4], [0, 1, 2, 3, 4, 5]] (cl_lt (by decide)) ?_
    refine HeadR.start (cl_lt (by decide)) ?_
    refine HeadR.det rfl (fun β hβ => (det_fieldAddr fl31_0 rfl)) ?_
    refine HeadR.det rfl (fun β hβ => (det_loadA ty29 rfl (List.Mem.tail _ (List.Mem.head _)) rfl)) ?_
    refine HeadR.det rfl (fun β hβ => (det_fieldAddr fl31_1 rfl)) ?_
    refine HeadR.det rfl (fun β hβ => (det_loadA ty29 rfl (List.Mem.tail _ (List.Mem.head _)) rfl)) ?_
    refine HeadR.det rfl (fun β hβ => (det_call en23 rfl (fun w hb ho => Cu.Neg_ok ho.blocks))) ?_
    refine HeadR.det rfl (fun β hβ => (det_build rfl bld31)) ?_
    refine HeadR.done ⟨by kernel_rfl, fun β hβ => ?_⟩
    refine OpsW.norm (F' := [(7, _), (8, _), (9, _), (10, _), (11, _), (12, _), (5, _), (2, _), (1, _)]) (H' := [(_, _), (_, _)]) rfl rfl ?_
    refine OpsW.store sz31 rfl rfl rfl rfl rfl (Upd.here) rfl ?_
    refine sNext ?_
    refine W.keep (F' := [(2, _)]) ⟨rfl, trivial⟩ ?_
    refine sRet ?_
    exact done1 Tryd.results45 (rv_cellA ty31 rfl (List.Mem.head _) rfl) (congrArg encP (pneg_no hc5).symm)
theorem POn_ok {p : Pt} {w : World} (hG : Blocks (GH T) w)  : Vm.Pure Tryd.prog 36 #[encP p] w (.bool (onB p)) := by
  refine pure_of_W (n := 20) (args := [encP p]) Tryd.func36 rfl Tryd.ntmps36 (Nat.le_of_ble_eq_true rfl) hG ?_
  refine sStart ?_
  refine sSeq ?_
  refine W.region ?_
  refine OpsW.fresh (fr_box rfl rfl) rfl fun b1 => ?_
  refine OpsW.det (det_assign rfl) rfl ?_
  refine sNext ?_
  refine W.keep (F' := [(1, _)]) ⟨rfl, trivial⟩ ?_
  refine sSeq ?_
  cases hp : decide (p = (0, 0))
  · skip
    refine W.draw mixed 18 [[], [], [0, 1], [0, 1, 2], [0, 1, 2, 3], [0, 1, 2, 3, 4], [0, 1, 2, 3, 4, 5], [0, 1, 2, 3], [0, 1, 2, 3, 7], [0, 1, 2, 3, 4, 5, 6, 7, 8], [0, 1, 2, 3], [0, 1, 2, 3, 10], [0, 1, 2, 3, 4, 5, 6, 7, 8, 9, 10, 11], [0, 1, 2, 3, 4, 5, 6, 7, 8, 9, 10, 11, 12], [0, 1, 2, 3, 4, 5, 6, 7, 8, 9, 10, 11, 12, 13], [0, 1, 2, 3, 4, 5, 6, 7, 8, 9, 10, 11, 12, 13, 14], [0, 1, 2, 3, 4, 5, 6, 7, 8, 9, 10, 11, 12, 13, 14, 15], [0, 1, 2, 3, 4, 5, 6, 7, 8, 9, 10, 11, 12, 13, 14, 15, 16]] (cl_lt (by decide)) ?_
    refine HeadR.start (cl_lt (by decide)) ?_
    refine HeadR.det rfl (fun β hβ => (det_loadA ty31 rfl (List.Mem.head _) rfl)) ?_
    refine HeadR.det rfl (fun β hβ => (det_zero bz31)) ?_
    refine HeadR.det rfl (fun β hβ => ((det_eql31 (a := p) rfl rfl).to (congrArg Value.bool hp))) ?_
    refine HeadR.det rfl (fun β hβ => (det_move rfl)) ?_
    refine HeadR.yes rfl rfl (fun _ _ => rfl) (fun β hβ => (det_fieldAddr fl31_1 rfl)) ?_
    refine HeadR.yes rfl rfl (fun _ _ => rfl) (fun β hβ => (det_loadA ty29 rfl (List.Mem.head _) rfl)) ?_
    refine HeadR.yes rfl rfl (fun _ _ => rfl) (fun β hβ => (det_call en16 rfl (fun w hb ho => Cu.Square_ok ho.blocks))) ?_
    refine HeadR.yes rfl rfl (fun _ _ => rfl) (fun β hβ => (det_fieldAddr fl31_0 rfl)) ?_
    refine HeadR.yes rfl rfl (fun _ _ => rfl) (fun β hβ => (det_loadA ty29 rfl (List.Mem.head _) rfl)) ?_
    refine HeadR.yes rfl rfl (fun _ _ => rfl) (fun β hβ => (det_call en16 rfl (fun w hb ho => Cu.Square_ok ho.blocks))) ?_
    refine HeadR.yes rfl rfl (fun _ _ => rfl) (fun β hβ => (det_fieldAddr fl31_0 rfl)) ?_
    refine HeadR.yes rfl rfl (fun _ _ => rfl) (fun β hβ => (det_loadA ty29 rfl (List.Mem.head _) rfl)) ?_
    refine HeadR.yes rfl rfl (fun _ _ => rfl) (fun β hβ => (det_call en17 rfl (fun w hb ho => Cu.Mul_ok ho.blocks))) ?_
    refine HeadR.yes rfl rfl (fun _ _ => rfl) (fun β hβ => (det_call en70 rfl (fun w hb ho => four_ok ho.blocks))) ?_
    refine HeadR.yes rfl rfl (fun _ _ => rfl) (fun β hβ => (det_call en18 rfl (fun w hb ho => Cu.Add_ok ho.blocks))) ?_
    refine HeadR.yes rfl rfl (fun _ _ => rfl) (fun β hβ => (det_eql29 rfl rfl)) ?_
    refine HeadR.det rfl (fun β hβ => (det_pick rfl rfl)) ?_
    refine HeadR.det rfl (fun β hβ => (det_assign rfl)) ?_
    refine HeadR.done ⟨by kernel_rfl, fun β hβ => ?_⟩
    refine OpsW.norm (F' := [(3, _), (4, _), (5, _), (6, _), (7, _), (8, _), (9, _), (10, _), (11, _), (12, _), (13, _), (14, _), (15, _), (16, _), (17, _), (18, _), (19, _), (2, _), (1, _)]) (H' := [(_, _)]) rfl rfl ?_
    refine sNext ?_
    refine W.keep (F' := [(2, _)]) ⟨rfl, trivial⟩ ?_
    refine sRet ?_
    exact done1 Tryd.results36 (rv_tmp rfl) (by rw [onB, hp]; rfl)
  · skip
    refine W.draw mixed 18 [[], [], [0, 1], [0, 1, 2], [0, 1, 2, 3], [0, 1, 2, 3, 4], [0, 1, 2, 3, 4, 5], [0, 1, 2, 3], [0, 1, 2, 3, 7], [0, 1, 2, 3, 4, 5, 6, 7, 8], [0, 1, 2, 3], [0, 1, 2, 3, 10], [0, 1, 2, 3, 4, 5, 6, 7, 8, 9, 10, 11], [0, 1, 2, 3, 4, 5, 6, 7, 8, 9, 10, 11, 12], [0, 1, 2, 3, 4, 5, 6, 7, 8, 9, 10, 11, 12, 13], [0, 1, 2, 3, 4, 5, 6, 7, 8, 9, 10, 11, 12, 13, 14], [0, 1, 2, 3, 4, 5, 6, 7, 8, 9, 10, 11, 12, 13, 14, 15], [0, 1, 2, 3, 4, 5, 6, 7, 8, 9, 10, 11, 12, 13, 14, 15, 16]] (cl_lt (by decide)) ?_
    refine HeadR.start (cl_lt (by decide)) ?_
    refine HeadR.det rfl (fun β hβ => (det_loadA ty31 rfl (List.Mem.head _) rfl)) ?_
    refine HeadR.det rfl (fun β hβ => (det_zero bz31)) ?_
    refine HeadR.det rfl (fun β hβ => ((det_eql31 (a := p) rfl rfl).to (congrArg Value.bool hp))) ?_
    refine HeadR.det rfl (fun β hβ => (det_move rfl)) ?_
    refine HeadR.no rfl rfl (fun _ _ => rfl) ?_
    refine HeadR.no rfl rfl (fun _ _ => rfl) ?_
    refine HeadR.no rfl rfl (fun _ _ => rfl) ?_
    refine HeadR.no rfl rfl (fun _ _ => rfl) ?_
    refine HeadR.no rfl rfl (fun _ _ => rfl) ?_
    refine HeadR.no rfl rfl (fun _ _ => rfl) ?_
    refine HeadR.no rfl rfl (fun _ _ => rfl) ?_
    refine HeadR.no rfl rfl (fun _ _ => rfl) ?_
    refine HeadR.no rfl rfl (fun _ _ => rfl) ?_
    refine HeadR.no rfl rfl (fun _ _ => rfl) ?_
    refine HeadR.no rfl rfl (fun _ _ => rfl) ?_
    refine HeadR.no rfl rfl (fun _ _ => rfl) ?_
    refine HeadR.det rfl (fun β hβ => (det_pick rfl rfl)) ?_
    refine HeadR.det rfl (fun β hβ => (det_assign rfl)) ?_
    refine HeadR.done ⟨by kernel_rfl, fun β hβ => ?_⟩
    refine OpsW.norm (F' := [(3, _), (4, _), (5, _), (6, _), (7, _), (8, _), (9, _), (10, _), (11, _), (12, _), (13, _), (14, _), (15, _), (16, _), (17, _), (18, _), (19, _), (2, _), (1, _)]) (H' := [(_, _)]) rfl rfl ?_
    refine sNext ?_
    refine W.keep (F' := [(2, _)]) ⟨rfl, trivial⟩ ?_
    refine sRet ?_
    exact done1 Tryd.results36 (rv_tmp rfl) (by rw [onB, hp]; rfl)
theorem tojac_ok {p : Pt} {w : World} (hG : Blocks (GH T) w)  : Vm.Pure Tryd.prog 93 #[encP p] w (encJ (tojac p)) := by
  refine pure_of_W (n := 13) (args := [encP p]) Tryd.func93 rfl Tryd.ntmps93 (Nat.le_of_ble_eq_true rfl) hG ?_
  refine sStart ?_
  refine sSeq ?_
  refine W.region ?_
  refine OpsW.fresh (fr_box rfl rfl) rfl fun b1 => ?_
  refine OpsW.fresh (fr_alloc z107) rfl fun b2 => ?_
  refine sNext ?_
  refine W.keep (F' := [(2, _), (1, _)]) ⟨rfl, rfl, trivial⟩ ?_
  refine sSeq ?_
  refine sSeq ?_
  refine W.region ?_
  refine OpsW.det (det_loadA ty31 rfl (List.Mem.tail _ (List.Mem.head _)) rfl) rfl ?_
  refine OpsW.det (det_zero bz31) rfl ?_
  refine OpsW.det (det_eql31 rfl rfl) rfl ?_
  refine sNext ?_
  refine W.keep (F' := [(5, _), (2, _), (1, _)]) ⟨rfl, rfl, rfl, trivial⟩ ?_
  refine W.cond rfl (fun hc5 => ?_) (fun hc5 => ?_)
  · skip
    refine sSeq ?_
    refine W.region ?_
    refine OpsW.det (det_zero bz107) rfl ?_
    refine OpsW.store sz107 rfl rfl rfl rfl rfl (Upd.here) rfl ?_
    refine sNext ?_
    refine W.keep (F' := [(2, _)]) ⟨rfl, trivial⟩ ?_
    refine sRet ?_
    exact done1 Tryd.results93 (rv_cellA ty107 rfl (List.Mem.head _) rfl) (congrArg encJ (tojac_yes hc5).symm)
  · skip
    refine sSkip ?_
    refine sSeq ?_
    refine W.draw mixed 6 [[], [0], [], [2], [], [0, 1, 2, 3, 4], [0, 1, 2, 3, 4, 5]] (cl_lt (by decide)) ?_
    refine HeadR.start (cl_lt (by decide)) ?_
    refine HeadR.det rfl (fun β hβ => (det_fieldAddr fl31_0 rfl)) ?_
    refine HeadR.det rfl (fun β hβ => (det_loadA ty29 rfl (List.Mem.tail _ (List.Mem.head _)) rfl)) ?_
    refine HeadR.det rfl (fun β hβ => (det_fieldAddr fl31_1 rfl)) ?_
    refine HeadR.det rfl (fun β hβ => (det_loadA ty29 rfl (List.Mem.tail _ (List.Mem.head _)) rfl)) ?_
    refine HeadR.det rfl (fun β hβ => (det_call en98 rfl (fun w hb ho => one_ok ho.blocks))) ?_
    refine HeadR.det rfl (fun β hβ => (det_build rfl bld107)) ?_
    refine HeadR.done ⟨by kernel_rfl, fun β hβ => ?_⟩
    refine OpsW.norm (F' := [(7, _), (8, _), (9, _), (10, _), (11, _), (12, _), (5, _), (2, _), (1, _)]) (H' := [(_, _), (_, _)]) rfl rfl ?_
    refine OpsW.store sz107 rfl rfl rfl rfl rfl (Upd.here) rfl ?_
    refine sNext ?_
    refine W.keep (F' := [(2, _)]) ⟨rfl, trivial⟩ ?_
    refine sRet ?_
    exact done1 Tryd.results93 (rv_cellA ty107 rfl (List.Mem.head _) rfl) (congrArg encJ (tojac_no hc5).symm)
theorem jdbl_ok {p : Jac} {w : World} (hG : Blocks (GH T) w)  : Vm.Pure Tryd.prog 81 #[encJ p] w (encJ (jdbl p)) := by
  refine pure_of_W (n := 75) (args := [encJ p]) Tryd.func81 rfl Tryd.ntmps81 (Nat.le_of_ble_eq_true rfl) hG ?_
  refine sStart ?_
  refine sSeq ?_
  refine W.region ?_
  refine OpsW.fresh (fr_box rfl rfl) rfl fun b1 => ?_
  refine OpsW.fresh (fr_alloc z107) rfl fun b2 => ?_
  refine sNext ?_
  refine W.keep (F' := [(2, _), (1, _)]) ⟨rfl, rfl, trivial⟩ ?_
  refine sSeq ?_
  refine sSeq ?_
  refine W.region ?_
  refine OpsW.det (det_fieldAddr fl107_2 rfl) rfl ?_
  refine OpsW.det (det_loadA ty29 rfl (List.Mem.tail _ (List.Mem.head _)) rfl) rfl ?_
  refine OpsW.test (det_call en65 rfl (fun w hb ho => Cu.Zero_ok ho.blocks)) rfl (fun hc12 => ?_) (fun hc12 => ?_)
  · skip
    refine OpsW.det (det_move rfl) rfl ?_
    refine OpsW.guard_no rfl rfl rfl ?_
    refine OpsW.guard_no rfl rfl rfl ?_
    refine OpsW.guard_no rfl rfl rfl ?_
    refine OpsW.det (det_pick rfl rfl) rfl ?_
    refine sNext ?_
    refine W.keep (F' := [(17, _), (2, _), (1, _)]) ⟨rfl, rfl, rfl, trivial⟩ ?_
    refine W.cond_true rfl ?_
    refine sSeq ?_
    refine W.region ?_
    refine OpsW.det (det_zero bz107) rfl ?_
    refine OpsW.store sz107 rfl rfl rfl rfl rfl (Upd.here) rfl ?_
    refine sNext ?_
    refine W.keep (F' := [(2, _)]) ⟨rfl, trivial⟩ ?_
    refine sRet ?_
    exact done1 Tryd.results81 (rv_cellA ty107 rfl (List.Mem.head _) rfl) (congrArg encJ (jdbl_z hc12).symm)
  · skip
    refine OpsW.det (det_move rfl) rfl ?_
    refine OpsW.guard_yes rfl rfl ?_
    refine OpsW.det (det_fieldAddr fl107_1 rfl) rfl ?_
    refine OpsW.guard_yes rfl rfl ?_
    refine OpsW.det (det_loadA ty29 rfl (List.Mem.tail _ (List.Mem.head _)) rfl) rfl ?_
    refine OpsW.guard_yes rfl rfl ?_
    refine OpsW.det (det_call en65 rfl (fun w hb ho => Cu.Zero_ok ho.blocks)) rfl ?_
    refine OpsW.det (det_pick rfl rfl) rfl ?_
    refine sNext ?_
    refine W.keep (F' := [(17, _), (2, _), (1, _)]) ⟨rfl, rfl, rfl, trivial⟩ ?_
    refine W.cond rfl (fun hc17 => ?_) (fun hc17 => ?_)
    · skip
      refine sSeq ?_
      refine W.region ?_
      refine OpsW.det (det_zero bz107) rfl ?_
      refine OpsW.store sz107 rfl rfl rfl rfl rfl (Upd.here) rfl ?_
      refine sNext ?_
      refine W.keep (F' := [(2, _)]) ⟨rfl, trivial⟩ ?_
      refine sRet ?_
      exact done1 Tryd.results81 (rv_cellA ty107 rfl (List.Mem.head _) rfl) (congrArg encJ (jdbl_y hc12 hc17).symm)
    · skip
      refine sSkip ?_
      refine sSeq ?_
      refine W.draw mixed 8 [[], [0], [0, 1], [], [3], [0, 1, 2, 3, 4], [], [], [0, 1, 2, 3, 4, 5, 6, 7], [0, 1, 2, 3, 4, 5, 6, 7, 8]] (cl_lt (by decide)) ?_
      refine HeadR.start (cl_lt (by decide)) ?_
      refine HeadR.det rfl (fun β hβ => (det_fieldAddr fl107_0 rfl)) ?_
      refine HeadR.det rfl (fun β hβ => (det_loadA ty29 rfl (List.Mem.tail _ (List.Mem.head _)) rfl)) ?_
      refine HeadR.det rfl (fun β hβ => (det_call en16 rfl (fun w hb ho => Cu.Square_ok ho.blocks))) ?_
      refine HeadR.det rfl (fun β hβ => (det_fieldAddr fl107_1 rfl)) ?_
      refine HeadR.det rfl (fun β hβ => (det_loadA ty29 rfl (List.Mem.tail _ (List.Mem.head _)) rfl)) ?_
      refine HeadR.det rfl (fun β hβ => (det_call en16 rfl (fun w hb ho => Cu.Square_ok ho.blocks))) ?_
      refine HeadR.fresh rfl (fun β hβ => (fr_alloc z29).new) ?_
      refine HeadR.fresh rfl (fun β hβ => (fr_alloc z29).new) ?_
      refine HeadR.done ⟨by kernel_rfl, fun β hβ => ?_⟩
      refine OpsW.norm (F' := [(19, _), (20, _), (21, _), (22, _), (23, _), (24, _), (3, .pointer (some ⟨(β 3).1, 0, none⟩)), (4, .pointer (some ⟨(β 4).1, 0, none⟩)), (17, _), (2, _), (1, _)]) (H' := [(_, _), (_, _), (_, _), (_, _)]) rfl rfl ?_
      generalize (β 3).1 = b3
      generalize (β 4).1 = b4
      refine OpsW.store sz29 rfl rfl rfl rfl rfl (Upd.here) rfl ?_
      refine OpsW.store sz29 rfl rfl rfl rfl rfl (Upd.there (Upd.here)) rfl ?_
      refine sNext ?_
      refine W.keep (F' := [(3, _), (4, _), (2, _), (1, _)]) ⟨rfl, rfl, rfl, rfl, trivial⟩ ?_
      refine sSeq ?_
      refine W.region ?_
      refine OpsW.det (det_loadA ty29 rfl (List.Mem.tail _ (List.Mem.head _)) rfl) rfl ?_
      refine OpsW.det (det_call en16 rfl (fun w hb ho => Cu.Square_ok ho.blocks)) rfl ?_
      refine OpsW.fresh (fr_alloc z29) rfl fun b5 => ?_
      refine OpsW.store sz29 rfl rfl rfl rfl rfl (Upd.here) rfl ?_
      refine sNext ?_
      refine W.keep (F' := [(5, _), (3, _), (4, _), (2, _), (1, _)]) ⟨rfl, rfl, rfl, rfl, rfl, trivial⟩ ?_
      refine sSeq ?_
      refine W.draw mixed 10 [[], [0], [], [0, 1, 2], [0, 1, 2, 3], [], [0, 1, 2, 3, 4, 5], [], [0, 1, 2, 3, 4, 5, 6, 7], [], [0, 1, 2, 3, 4, 5, 6, 7, 8, 9]] (cl_lt (by decide)) ?_
      refine HeadR.start (cl_lt (by decide)) ?_
      refine HeadR.det rfl (fun β hβ => (det_fieldAddr fl107_0 rfl)) ?_
      refine HeadR.det rfl (fun β hβ => (det_loadA ty29 rfl (List.Mem.tail _ (List.Mem.tail _ (List.Mem.tail _ (List.Mem.tail _ (List.Mem.head _))))) rfl)) ?_
      refine HeadR.det rfl (fun β hβ => (det_loadA ty29 rfl (List.Mem.tail _ (List.Mem.tail _ (List.Mem.head _))) rfl)) ?_
      refine HeadR.det rfl (fun β hβ => (det_call en18 rfl (fun w hb ho => Cu.Add_ok ho.blocks))) ?_
      refine HeadR.det rfl (fun β hβ => (det_call en16 rfl (fun w hb ho => Cu.Square_ok ho.blocks))) ?_
      refine HeadR.det rfl (fun β hβ => (det_loadA ty29 rfl (List.Mem.tail _ (List.Mem.head _)) rfl)) ?_
      refine HeadR.det rfl (fun β hβ => (det_call en62 rfl (fun w hb ho => Cu.Sub_ok ho.blocks))) ?_
      refine HeadR.det rfl (fun β hβ => (det_loadA ty29 rfl (List.Mem.head _) rfl)) ?_
      refine HeadR.det rfl (fun β hβ => (det_call en62 rfl (fun w hb ho => Cu.Sub_ok ho.blocks))) ?_
      refine HeadR.fresh rfl (fun β hβ => (fr_alloc z29).new) ?_
      refine HeadR.done ⟨by kernel_rfl, fun β hβ => ?_⟩
      refine OpsW.norm (F' := [(27, _), (28, _), (29, _), (30, _), (31, _), (32, _), (33, _), (34, _), (35, _), (6, .pointer (some ⟨(β 6).1, 0, none⟩)), (5, _), (3, _), (4, _), (2, _), (1, _)]) (H' := [(_, _), (_, _), (_, _), (_, _), (_, _), (_, _)]) rfl rfl ?_
      generalize (β 6).1 = b6
      refine OpsW.store sz29 rfl rfl rfl rfl rfl (Upd.here) rfl ?_
      refine sNext ?_
      refine W.keep (F' := [(6, _), (5, _), (3, _), (2, _), (1, _)]) ⟨rfl, rfl, rfl, rfl, rfl, trivial⟩ ?_
      refine sSeq ?_
      refine W.region ?_
      refine OpsW.det (det_loadA ty29 rfl (List.Mem.head _) rfl) rfl ?_
      refine OpsW.det (det_loadA ty29 rfl (List.Mem.head _) rfl) rfl ?_
      refine OpsW.det (det_call en18 rfl (fun w hb ho => Cu.Add_ok ho.blocks)) rfl ?_
      refine OpsW.store sz29 rfl rfl rfl rfl rfl (Upd.here) rfl ?_
      refine sNext ?_
      refine W.keep (F' := [(6, _), (5, _), (3, _), (2, _), (1, _)]) ⟨rfl, rfl, rfl, rfl, rfl, trivial⟩ ?_
      refine sSeq ?_
      refine W.draw mixed 6 [[], [], [0, 1], [], [0, 1, 2, 3], [], [0, 1, 2, 3, 4, 5]] (cl_lt (by decide)) ?_
      refine HeadR.start (cl_lt (by decide)) ?_
      refine HeadR.det rfl (fun β hβ => (det_loadA ty29 rfl (List.Mem.tail _ (List.Mem.tail _ (List.Mem.head _))) rfl)) ?_
      refine HeadR.det rfl (fun β hβ => (det_loadA ty29 rfl (List.Mem.tail _ (List.Mem.tail _ (List.Mem.head _))) rfl)) ?_
      refine HeadR.det rfl (fun β hβ => (det_call en18 rfl (fun w hb ho => Cu.Add_ok ho.blocks))) ?_
      refine HeadR.det rfl (fun β hβ => (det_loadA ty29 rfl (List.Mem.tail _ (List.Mem.tail _ (List.Mem.head _))) rfl)) ?_
      refine HeadR.det rfl (fun β hβ => (det_call en18 rfl (fun w hb ho => Cu.Add_ok ho.blocks))) ?_
      refine HeadR.fresh rfl (fun β hβ => (fr_alloc z29).new) ?_
      refine HeadR.done ⟨by kernel_rfl, fun β hβ => ?_⟩
      refine OpsW.norm (F' := [(39, _), (40, _), (41, _), (42, _), (43, _), (7, .pointer (some ⟨(β 7).1, 0, none⟩)), (6, _), (5, _), (3, _), (2, _), (1, _)]) (H' := [(_, _), (_, _), (_, _), (_, _), (_, _), (_, _), (_, _)]) rfl rfl ?_
      generalize (β 7).1 = b7
      refine OpsW.store sz29 rfl rfl rfl rfl rfl (Upd.here) rfl ?_
      refine sNext ?_
      refine W.keep (F' := [(7, _), (6, _), (5, _), (2, _), (1, _)]) ⟨rfl, rfl, rfl, rfl, rfl, trivial⟩ ?_
      refine sSeq ?_
      refine W.draw mixed 7 [[], [0], [], [0, 1, 2], [], [0, 1, 2, 3, 4], [], [0, 1, 2, 3, 4, 5, 6]] (cl_lt (by decide)) ?_
      refine HeadR.start (cl_lt (by decide)) ?_
      refine HeadR.det rfl (fun β hβ => (det_loadA ty29 rfl (List.Mem.head _) rfl)) ?_
      refine HeadR.det rfl (fun β hβ => (det_call en16 rfl (fun w hb ho => Cu.Square_ok ho.blocks))) ?_
      refine HeadR.det rfl (fun β hβ => (det_loadA ty29 rfl (List.Mem.tail _ (List.Mem.head _)) rfl)) ?_
      refine HeadR.det rfl (fun β hβ => (det_call en62 rfl (fun w hb ho => Cu.Sub_ok ho.blocks))) ?_
      refine HeadR.det rfl (fun β hβ => (det_loadA ty29 rfl (List.Mem.tail _ (List.Mem.head _)) rfl)) ?_
      refine HeadR.det rfl (fun β hβ => (det_call en62 rfl (fun w hb ho => Cu.Sub_ok ho.blocks))) ?_
      refine HeadR.fresh rfl (fun β hβ => (fr_alloc z29).new) ?_
      refine HeadR.done ⟨by kernel_rfl, fun β hβ => ?_⟩
      refine OpsW.norm (F' := [(44, _), (45, _), (46, _), (47, _), (48, _), (49, _), (8, .pointer (some ⟨(β 8).1, 0, none⟩)), (7, _), (6, _), (5, _), (2, _), (1, _)]) (H' := [(_, _), (_, _), (_, _), (_, _), (_, _), (_, _), (_, _), (_, _)]) rfl rfl ?_
      generalize (β 8).1 = b8
      refine OpsW.store sz29 rfl rfl rfl rfl rfl (Upd.here) rfl ?_
      refine sNext ?_
      refine W.keep (F' := [(8, _), (7, _), (6, _), (5, _), (2, _), (1, _)]) ⟨rfl, rfl, rfl, rfl, rfl, rfl, trivial⟩ ?_
      refine sSeq ?_
      refine W.region ?_
      refine OpsW.det (det_loadA ty29 rfl (List.Mem.tail _ (List.Mem.tail _ (List.Mem.tail _ (List.Mem.head _)))) rfl) rfl ?_
      refine OpsW.det (det_loadA ty29 rfl (List.Mem.tail _ (List.Mem.tail _ (List.Mem.tail _ (List.Mem.head _)))) rfl) rfl ?_
      refine OpsW.det (det_call en18 rfl (fun w hb ho => Cu.Add_ok ho.blocks)) rfl ?_
      refine OpsW.store sz29 rfl rfl rfl rfl rfl (Upd.there (Upd.there (Upd.there (Upd.here)))) rfl ?_
      refine sNext ?_
      refine W.keep (F' := [(8, _), (7, _), (6, _), (5, _), (2, _), (1, _)]) ⟨rfl, rfl, rfl, rfl, rfl, rfl, trivial⟩ ?_
      refine sSeq ?_
      refine W.region ?_
      refine OpsW.det (det_loadA ty29 rfl (List.Mem.tail _ (List.Mem.tail _ (List.Mem.tail _ (List.Mem.head _)))) rfl) rfl ?_
      refine OpsW.det (det_loadA ty29 rfl (List.Mem.tail _ (List.Mem.tail _ (List.Mem.tail _ (List.Mem.head _)))) rfl) rfl ?_
      refine OpsW.det (det_call en18 rfl (fun w hb ho => Cu.Add_ok ho.blocks)) rfl ?_
      refine OpsW.store sz29 rfl rfl rfl rfl rfl (Upd.there (Upd.there (Upd.there (Upd.here)))) rfl ?_
      refine sNext ?_
      refine W.keep (F' := [(8, _), (7, _), (6, _), (5, _), (2, _), (1, _)]) ⟨rfl, rfl, rfl, rfl, rfl, rfl, trivial⟩ ?_
      refine sSeq ?_
      refine W.region ?_
      refine OpsW.det (det_fieldAddr fl107_1 rfl) rfl ?_
      refine OpsW.det (det_loadA ty29 rfl (List.Mem.tail _ (List.Mem.tail _ (List.Mem.tail _ (List.Mem.tail _ (List.Mem.tail _ (List.Mem.tail _ (List.Mem.tail _ (List.Mem.head _)))))))) rfl) rfl ?_
      refine OpsW.det (det_fieldAddr fl107_2 rfl) rfl ?_
      refine OpsW.det (det_loadA ty29 rfl (List.Mem.tail _ (List.Mem.tail _ (List.Mem.tail _ (List.Mem.tail _ (List.Mem.tail _ (List.Mem.tail _ (List.Mem.tail _ (List.Mem.head _)))))))) rfl) rfl ?_
      refine OpsW.det (det_call en17 rfl (fun w hb ho => Cu.Mul_ok ho.blocks)) rfl ?_
      refine OpsW.fresh (fr_alloc z29) rfl fun b9 => ?_
      refine OpsW.store sz29 rfl rfl rfl rfl rfl (Upd.here) rfl ?_
      refine sNext ?_
      refine W.keep (F' := [(9, _), (8, _), (7, _), (6, _), (5, _), (2, _)]) ⟨rfl, rfl, rfl, rfl, rfl, rfl, trivial⟩ ?_
      refine sSeq ?_
      refine W.draw mixed 14 [[], [], [], [], [2, 3], [1, 2, 3, 4], [], [1, 2, 3, 4, 5, 6], [], [1, 2, 3, 4, 5, 6, 7, 8], [], [], [1, 2, 3, 4, 5, 6, 7, 8, 9, 10, 11], [0, 1, 2, 3, 4, 5, 6, 7, 8, 9, 10, 11, 12], [0, 1, 2, 3, 4, 5, 6, 7, 8, 9, 10, 11, 12, 13]] (cl_lt (by decide)) ?_
      refine HeadR.start (cl_lt (by decide)) ?_
      refine HeadR.det rfl (fun β hβ => (det_loadA ty29 rfl (List.Mem.tail _ (List.Mem.head _)) rfl)) ?_
      refine HeadR.det rfl (fun β hβ => (det_loadA ty29 rfl (List.Mem.tail _ (List.Mem.tail _ (List.Mem.head _))) rfl)) ?_
      refine HeadR.det rfl (fun β hβ => (det_loadA ty29 rfl (List.Mem.tail _ (List.Mem.tail _ (List.Mem.tail _ (List.Mem.head _)))) rfl)) ?_
      refine HeadR.det rfl (fun β hβ => (det_loadA ty29 rfl (List.Mem.tail _ (List.Mem.head _)) rfl)) ?_
      refine HeadR.det rfl (fun β hβ => (det_call en62 rfl (fun w hb ho => Cu.Sub_ok ho.blocks))) ?_
      refine HeadR.det rfl (fun β hβ => (det_call en17 rfl (fun w hb ho => Cu.Mul_ok ho.blocks))) ?_
      refine HeadR.det rfl (fun β hβ => (det_loadA ty29 rfl (List.Mem.tail _ (List.Mem.tail _ (List.Mem.tail _ (List.Mem.tail _ (List.Mem.head _))))) rfl)) ?_
      refine HeadR.det rfl (fun β hβ => (det_call en62 rfl (fun w hb ho => Cu.Sub_ok ho.blocks))) ?_
      refine HeadR.det rfl (fun β hβ => (det_loadA ty29 rfl (List.Mem.tail _ (List.Mem.tail _ (List.Mem.tail _ (List.Mem.tail _ (List.Mem.head _))))) rfl)) ?_
      refine HeadR.det rfl (fun β hβ => (det_call en62 rfl (fun w hb ho => Cu.Sub_ok ho.blocks))) ?_
      refine HeadR.det rfl (fun β hβ => (det_loadA ty29 rfl (List.Mem.head _) rfl)) ?_
      refine HeadR.det rfl (fun β hβ => (det_loadA ty29 rfl (List.Mem.head _) rfl)) ?_
      refine HeadR.det rfl (fun β hβ => (det_call en18 rfl (fun w hb ho => Cu.Add_ok ho.blocks))) ?_
      refine HeadR.det rfl (fun β hβ => (det_build rfl bld107)) ?_
      refine HeadR.done ⟨by kernel_rfl, fun β hβ => ?_⟩
      refine OpsW.norm (F' := [(61, _), (62, _), (63, _), (64, _), (65, _), (66, _), (67, _), (68, _), (69, _), (70, _), (71, _), (72, _), (73, _), (74, _), (9, _), (8, _), (7, _), (6, _), (5, _), (2, _)]) (H' := [(_, _), (_, _), (_, _), (_, _), (_, _), (_, _), (_, _), (_, _), (_, _)]) rfl rfl ?_
      refine OpsW.store sz107 rfl rfl rfl rfl rfl (Upd.there (Upd.there (Upd.there (Upd.there (Upd.there (Upd.there (Upd.there (Upd.here)))))))) rfl ?_
      refine sNext ?_
      refine W.keep (F' := [(2, _)]) ⟨rfl, trivial⟩ ?_
      refine sRet ?_
      exact done1 Tryd.results81 (rv_cellA ty107 rfl (List.Mem.tail _ (List.Mem.tail _ (List.Mem.tail _ (List.Mem.tail _ (List.Mem.tail _ (List.Mem.tail _ (List.Mem.tail _ (List.Mem.head _)))))))) rfl) (congrArg encJ (jdbl_no hc12 hc17).symm)
theorem point_ok {p : Jac} {w : World} (hG : Blocks (GH T) w)  : Vm.Pure Tryd.prog 83 #[encJ p] w (encP (point p)) := by
  refine pure_of_W (n := 25) (args := [encJ p]) Tryd.func83 rfl Tryd.ntmps83 (Nat.le_of_ble_eq_true rfl) hG ?_
  refine sStart ?_
  refine sSeq ?_
  refine W.region ?_
  refine OpsW.fresh (fr_box rfl rfl) rfl fun b1 => ?_
  refine OpsW.fresh (fr_alloc z31) rfl fun b2 => ?_
  refine sNext ?_
  refine W.keep (F' := [(2, _), (1, _)]) ⟨rfl, rfl, trivial⟩ ?_
  refine sSeq ?_
  refine sSeq ?_
  refine W.region ?_
  refine OpsW.det (det_fieldAddr fl107_2 rfl) rfl ?_
  refine OpsW.det (det_loadA ty29 rfl (List.Mem.tail _ (List.Mem.head _)) rfl) rfl ?_
  refine OpsW.det (det_call en65 rfl (fun w hb ho => Cu.Zero_ok ho.blocks)) rfl ?_
  refine sNext ?_
  refine W.keep (F' := [(7, _), (2, _), (1, _)]) ⟨rfl, rfl, rfl, trivial⟩ ?_
  refine W.cond rfl (fun hc7 => ?_) (fun hc7 => ?_)
  · skip
    refine sSeq ?_
    refine W.region ?_
    refine OpsW.det (det_zero bz31) rfl ?_
    refine OpsW.store sz31 rfl rfl rfl rfl rfl (Upd.here) rfl ?_
    refine sNext ?_
    refine W.keep (F' := [(2, _)]) ⟨rfl, trivial⟩ ?_
    refine sRet ?_
    exact done1 Tryd.results83 (rv_cellA ty31 rfl (List.Mem.head _) rfl) (congrArg encP (point_yes hc7).symm)
  · skip
    refine sSkip ?_
    refine sSeq ?_
    refine W.region ?_
    refine OpsW.det (det_fieldAddr fl107_2 rfl) rfl ?_
    refine OpsW.det (det_loadA ty29 rfl (List.Mem.tail _ (List.Mem.head _)) rfl) rfl ?_
    refine OpsW.det (det_call en67 rfl (fun w hb ho => Cu.Inv_ok ho.blocks)) rfl ?_
    refine OpsW.fresh (fr_alloc z29) rfl fun b3 => ?_
    refine OpsW.store sz29 rfl rfl rfl rfl rfl (Upd.here) rfl ?_
    refine sNext ?_
    refine W.keep (F' := [(3, _), (2, _), (1, _)]) ⟨rfl, rfl, rfl, trivial⟩ ?_
    refine sSeq ?_
    refine W.region ?_
    refine OpsW.det (det_loadA ty29 rfl (List.Mem.head _) rfl) rfl ?_
    refine OpsW.det (det_call en16 rfl (fun w hb ho => Cu.Square_ok ho.blocks)) rfl ?_
    refine OpsW.fresh (fr_alloc z29) rfl fun b4 => ?_
    refine OpsW.store sz29 rfl rfl rfl rfl rfl (Upd.here) rfl ?_
    refine sNext ?_
    refine W.keep (F' := [(4, _), (3, _), (2, _), (1, _)]) ⟨rfl, rfl, rfl, rfl, trivial⟩ ?_
    refine sSeq ?_
    refine W.draw mixed 11 [[], [0], [], [0, 1, 2], [], [4], [], [0, 1, 2, 3, 4, 5, 6], [], [0, 1, 2, 3, 4, 5, 6, 7, 8], [0, 1, 2, 3, 4, 5, 6, 7, 8, 9], [0, 1, 2, 3, 4, 5, 6, 7, 8, 9, 10]] (cl_lt (by decide)) ?_
    refine HeadR.start (cl_lt (by decide)) ?_
    refine HeadR.det rfl (fun β hβ => (det_fieldAddr fl107_0 rfl)) ?_
    refine HeadR.det rfl (fun β hβ => (det_loadA ty29 rfl (List.Mem.tail _ (List.Mem.tail _ (List.Mem.tail _ (List.Mem.head _)))) rfl)) ?_
    refine HeadR.det rfl (fun β hβ => (det_loadA ty29 rfl (List.Mem.head _) rfl)) ?_
    refine HeadR.det rfl (fun β hβ => (det_call en17 rfl (fun w hb ho => Cu.Mul_ok ho.blocks))) ?_
    refine HeadR.det rfl (fun β hβ => (det_fieldAddr fl107_1 rfl)) ?_
    refine HeadR.det rfl (fun β hβ => (det_loadA ty29 rfl (List.Mem.tail _ (List.Mem.tail _ (List.Mem.tail _ (List.Mem.head _)))) rfl)) ?_
    refine HeadR.det rfl (fun β hβ => (det_loadA ty29 rfl (List.Mem.head _) rfl)) ?_
    refine HeadR.det rfl (fun β hβ => (det_call en17 rfl (fun w hb ho => Cu.Mul_ok ho.blocks))) ?_
    refine HeadR.det rfl (fun β hβ => (det_loadA ty29 rfl (List.Mem.tail _ (List.Mem.head _)) rfl)) ?_
    refine HeadR.det rfl (fun β hβ => (det_call en17 rfl (fun w hb ho => Cu.Mul_ok ho.blocks))) ?_
    refine HeadR.det rfl (fun β hβ => (det_build rfl bld31)) ?_
    refine HeadR.done ⟨by kernel_rfl, fun β hβ => ?_⟩
    refine OpsW.norm (F' := [(14, _), (15, _), (16, _), (17, _), (18, _), (19, _), (20, _), (21, _), (22, _), (23, _), (24, _), (4, _), (3, _), (2, _), (1, _)]) (H' := [(_, _), (_, _), (_, _), (_, _)]) rfl rfl ?_
    refine OpsW.store sz31 rfl rfl rfl rfl rfl (Upd.there (Upd.there (Upd.here))) rfl ?_
    refine sNext ?_
    refine W.keep (F' := [(2, _)]) ⟨rfl, trivial⟩ ?_
    refine sRet ?_
    exact done1 Tryd.results83 (rv_cellA ty31 rfl (List.Mem.tail _ (List.Mem.tail _ (List.Mem.head _))) rfl) (congrArg encP (point_no hc7).symm)
theorem jadd_ok {p : Jac} {q : Pt} {w : World} (hG : Blocks (GH T) w)  : Vm.Pure Tryd.prog 82 #[encJ p, encP q] w (encJ (jadd p q)) := by
  refine pure_of_W (n := 100) (args := [encJ p, encP q]) Tryd.func82 rfl Tryd.ntmps82 (Nat.le_of_ble_eq_true rfl) hG ?_
  refine sStart ?_
  refine sSeq ?_
  refine W.region ?_
  refine OpsW.fresh (fr_box rfl rfl) rfl fun b2 => ?_
  refine OpsW.fresh (fr_box rfl rfl) rfl fun b3 => ?_
  refine OpsW.fresh (fr_alloc z107) rfl fun b4 => ?_
  refine sNext ?_
  refine W.keep (F' := [(4, _), (3, _), (2, _)]) ⟨rfl, rfl, rfl, trivial⟩ ?_
  refine sSeq ?_
  refine sSeq ?_
  refine W.region ?_
  refine OpsW.det (det_loadA ty31 rfl (List.Mem.tail _ (List.Mem.head _)) rfl) rfl ?_
  refine OpsW.det (det_zero bz31) rfl ?_
  refine OpsW.det (det_eql31 rfl rfl) rfl ?_
  refine sNext ?_
  refine W.keep (F' := [(16, _), (4, _), (3, _), (2, _)]) ⟨rfl, rfl, rfl, rfl, trivial⟩ ?_
  refine W.cond rfl (fun hc16 => ?_) (fun hc16 => ?_)
  · skip
    refine sSeq ?_
    refine W.region ?_
    refine OpsW.det (det_loadA ty107 rfl (List.Mem.tail _ (List.Mem.tail _ (List.Mem.head _))) rfl) rfl ?_
    refine OpsW.store sz107 rfl rfl rfl rfl rfl (Upd.here) rfl ?_
    refine sNext ?_
    refine W.keep (F' := [(4, _)]) ⟨rfl, trivial⟩ ?_
    refine sRet ?_
    exact done1 Tryd.results82 (rv_cellA ty107 rfl (List.Mem.head _) rfl) (congrArg encJ (jadd_q hc16).symm)
  · skip
    refine sSkip ?_
    refine sSeq ?_
    refine sSeq ?_
    refine W.region ?_
    refine OpsW.det (det_fieldAddr fl107_2 rfl) rfl ?_
    refine OpsW.det (det_loadA ty29 rfl (List.Mem.tail _ (List.Mem.tail _ (List.Mem.head _))) rfl) rfl ?_
    refine OpsW.det (det_call en65 rfl (fun w hb ho => Cu.Zero_ok ho.blocks)) rfl ?_
    refine sNext ?_
    refine W.keep (F' := [(20, _), (4, _), (3, _), (2, _)]) ⟨rfl, rfl, rfl, rfl, trivial⟩ ?_
    refine W.cond rfl (fun hc20 => ?_) (fun hc20 => ?_)
    · skip
      refine sSeq ?_
      refine W.region ?_
      refine OpsW.det (det_loadA ty31 rfl (List.Mem.tail _ (List.Mem.head _)) rfl) rfl ?_
      refine OpsW.det (det_call en93 rfl (fun w hb ho => tojac_ok ho.blocks)) rfl ?_
      refine OpsW.store sz107 rfl rfl rfl rfl rfl (Upd.here) rfl ?_
      refine sNext ?_
      refine W.keep (F' := [(4, _)]) ⟨rfl, trivial⟩ ?_
      refine sRet ?_
      exact done1 Tryd.results82 (rv_cellA ty107 rfl (List.Mem.head _) rfl) (congrArg encJ (jadd_p hc16 hc20).symm)
    · skip
      refine sSkip ?_
      refine sSeq ?_
      refine W.region ?_
      refine OpsW.det (det_fieldAddr fl107_2 rfl) rfl ?_
      refine OpsW.det (det_loadA ty29 rfl (List.Mem.tail _ (List.Mem.tail _ (List.Mem.head _))) rfl) rfl ?_
      refine OpsW.det (det_call en16 rfl (fun w hb ho => Cu.Square_ok ho.blocks)) rfl ?_
      refine OpsW.fresh (fr_alloc z29) rfl fun b5 => ?_
      refine OpsW.store sz29 rfl rfl rfl rfl rfl (Upd.here) rfl ?_
      refine sNext ?_
      refine W.keep (F' := [(5, _), (4, _), (3, _), (2, _)]) ⟨rfl, rfl, rfl, rfl, trivial⟩ ?_
      refine sSeq ?_
      refine W.draw mixed 8 [[], [0], [], [0, 1, 2], [], [4], [0, 1, 2, 3, 4, 5], [], [0, 1, 2, 3, 4, 5, 6, 7]] (cl_lt (by decide)) ?_
      refine HeadR.start (cl_lt (by decide)) ?_
      refine HeadR.det rfl (fun β hβ => (det_fieldAddr fl31_0 rfl)) ?_
      refine HeadR.det rfl (fun β hβ => (det_loadA ty29 rfl (List.Mem.tail _ (List.Mem.tail _ (List.Mem.head _))) rfl)) ?_
      refine HeadR.det rfl (fun β hβ => (det_loadA ty29 rfl (List.Mem.head _) rfl)) ?_
      refine HeadR.det rfl (fun β hβ => (det_call en17 rfl (fun w hb ho => Cu.Mul_ok ho.blocks))) ?_
      refine HeadR.det rfl (fun β hβ => (det_fieldAddr fl107_0 rfl)) ?_
      refine HeadR.det rfl (fun β hβ => (det_loadA ty29 rfl (List.Mem.tail _ (List.Mem.tail _ (List.Mem.tail _ (List.Mem.head _)))) rfl)) ?_
      refine HeadR.det rfl (fun β hβ => (det_call en62 rfl (fun w hb ho => Cu.Sub_ok ho.blocks))) ?_
      refine HeadR.fresh rfl (fun β hβ => (fr_alloc z29).new) ?_
      refine HeadR.done ⟨by kernel_rfl, fun β hβ => ?_⟩
      refine OpsW.norm (F' := [(26, _), (27, _), (28, _), (29, _), (30, _), (31, _), (32, _), (6, .pointer (some ⟨(β 6).1, 0, none⟩)), (5, _), (4, _), (3, _), (2, _)]) (H' := [(_, _), (_, _), (_, _), (_, _), (_, _)]) rfl rfl ?_
      generalize (β 6).1 = b6
      refine OpsW.store sz29 rfl rfl rfl rfl rfl (Upd.here) rfl ?_
      refine sNext ?_
      refine W.keep (F' := [(6, _), (5, _), (4, _), (3, _), (2, _)]) ⟨rfl, rfl, rfl, rfl, rfl, trivial⟩ ?_
      refine sSeq ?_
      refine W.draw mixed 11 [[], [0], [], [2], [0, 1, 2, 3], [], [0, 1, 2, 3, 4, 5], [], [7], [0, 1, 2, 3, 4, 5, 6, 7, 8], [], [0, 1, 2, 3, 4, 5, 6, 7, 8, 9, 10]] (cl_lt (by decide)) ?_
      refine HeadR.start (cl_lt (by decide)) ?_
      refine HeadR.det rfl (fun β hβ => (det_fieldAddr fl31_1 rfl)) ?_
      refine HeadR.det rfl (fun β hβ => (det_loadA ty29 rfl (List.Mem.tail _ (List.Mem.tail _ (List.Mem.tail _ (List.Mem.head _)))) rfl)) ?_
      refine HeadR.det rfl (fun β hβ => (det_fieldAddr fl107_2 rfl)) ?_
      refine HeadR.det rfl (fun β hβ => (det_loadA ty29 rfl (List.Mem.tail _ (List.Mem.tail _ (List.Mem.tail _ (List.Mem.tail _ (List.Mem.head _))))) rfl)) ?_
      refine HeadR.det rfl (fun β hβ => (det_call en17 rfl (fun w hb ho => Cu.Mul_ok ho.blocks))) ?_
      refine HeadR.det rfl (fun β hβ => (det_loadA ty29 rfl (List.Mem.tail _ (List.Mem.head _)) rfl)) ?_
      refine HeadR.det rfl (fun β hβ => (det_call en17 rfl (fun w hb ho => Cu.Mul_ok ho.blocks))) ?_
      refine HeadR.det rfl (fun β hβ => (det_fieldAddr fl107_1 rfl)) ?_
      refine HeadR.det rfl (fun β hβ => (det_loadA ty29 rfl (List.Mem.tail _ (List.Mem.tail _ (List.Mem.tail _ (List.Mem.tail _ (List.Mem.head _))))) rfl)) ?_
      refine HeadR.det rfl (fun β hβ => (det_call en62 rfl (fun w hb ho => Cu.Sub_ok ho.blocks))) ?_
      refine HeadR.fresh rfl (fun β hβ => (fr_alloc z29).new) ?_
      refine HeadR.done ⟨by kernel_rfl, fun β hβ => ?_⟩
      refine OpsW.norm (F' := [(33, _), (34, _), (35, _), (36, _), (37, _), (38, _), (39, _), (40, _), (41, _), (42, _), (7, .pointer (some ⟨(β 7).1, 0, none⟩)), (6, _), (5, _), (4, _), (3, _), (2, _)]) (H' := [(_, _), (_, _), (_, _), (_, _), (_, _), (_, _)]) rfl rfl ?_
      generalize (β 7).1 = b7
      refine OpsW.store sz29 rfl rfl rfl rfl rfl (Upd.here) rfl ?_
      refine sNext ?_
      refine W.keep (F' := [(7, _), (6, _), (5, _), (4, _), (2, _)]) ⟨rfl, rfl, rfl, rfl, rfl, trivial⟩ ?_
      refine sSeq ?_
      refine sSeq ?_
      refine W.region ?_
      refine OpsW.det (det_loadA ty29 rfl (List.Mem.tail _ (List.Mem.head _)) rfl) rfl ?_
      refine OpsW.det (det_call en65 rfl (fun w hb ho => Cu.Zero_ok ho.blocks)) rfl ?_
      refine sNext ?_
      refine W.keep (F' := [(44, _), (7, _), (6, _), (5, _), (4, _), (2, _)]) ⟨rfl, rfl, rfl, rfl, rfl, rfl, trivial⟩ ?_
      refine W.cond rfl (fun hc44 => ?_) (fun hc44 => ?_)
      · skip
        refine sSeq ?_
        refine sSeq ?_
        refine W.region ?_
        refine OpsW.det (det_loadA ty29 rfl (List.Mem.head _) rfl) rfl ?_
        refine OpsW.det (det_call en65 rfl (fun w hb ho => Cu.Zero_ok ho.blocks)) rfl ?_
        refine sNext ?_
        refine W.keep (F' := [(46, _), (4, _), (2, _)]) ⟨rfl, rfl, rfl, trivial⟩ ?_
        refine W.cond rfl (fun hc46 => ?_) (fun hc46 => ?_)
        · skip
          refine sSeq ?_
          refine W.region ?_
          refine OpsW.det (det_loadA ty107 rfl (List.Mem.tail _ (List.Mem.tail _ (List.Mem.tail _ (List.Mem.tail _ (List.Mem.tail _ (List.Mem.head _)))))) rfl) rfl ?_
          refine OpsW.det (det_call en81 rfl (fun w hb ho => jdbl_ok ho.blocks)) rfl ?_
          refine OpsW.store sz107 rfl rfl rfl rfl rfl (Upd.there (Upd.there (Upd.there (Upd.here)))) rfl ?_
          refine sNext ?_
          refine W.keep (F' := [(4, _)]) ⟨rfl, trivial⟩ ?_
          refine sRet ?_
          exact done1 Tryd.results82 (rv_cellA ty107 rfl (List.Mem.tail _ (List.Mem.tail _ (List.Mem.tail _ (List.Mem.head _)))) rfl) (congrArg encJ (jadd_d hc16 hc20 hc44 hc46).symm)
        · skip
          refine sSkip ?_
          refine sSeq ?_
          refine W.region ?_
          refine OpsW.det (det_zero bz107) rfl ?_
          refine OpsW.store sz107 rfl rfl rfl rfl rfl (Upd.there (Upd.there (Upd.there (Upd.here)))) rfl ?_
          refine sNext ?_
          refine W.keep (F' := [(4, _)]) ⟨rfl, trivial⟩ ?_
          refine sRet ?_
          exact done1 Tryd.results82 (rv_cellA ty107 rfl (List.Mem.tail _ (List.Mem.tail _ (List.Mem.tail _ (List.Mem.head _)))) rfl) (congrArg encJ (jadd_o hc16 hc20 hc44 hc46).symm)
      · skip
        refine sSkip ?_
        refine sSeq ?_
        refine W.region ?_
        refine OpsW.det (det_loadA ty29 rfl (List.Mem.head _) rfl) rfl ?_
        refine OpsW.det (det_loadA ty29 rfl (List.Mem.head _) rfl) rfl ?_
        refine OpsW.det (det_call en18 rfl (fun w hb ho => Cu.Add_ok ho.blocks)) rfl ?_
        refine OpsW.store sz29 rfl rfl rfl rfl rfl (Upd.here) rfl ?_
        refine sNext ?_
        refine W.keep (F' := [(7, _), (6, _), (5, _), (4, _), (2, _)]) ⟨rfl, rfl, rfl, rfl, rfl, trivial⟩ ?_
        refine sSeq ?_
        refine W.region ?_
        refine OpsW.det (det_loadA ty29 rfl (List.Mem.tail _ (List.Mem.head _)) rfl) rfl ?_
        refine OpsW.det (det_call en16 rfl (fun w hb ho => Cu.Square_ok ho.blocks)) rfl ?_
        refine OpsW.fresh (fr_alloc z29) rfl fun b8 => ?_
        refine OpsW.store sz29 rfl rfl rfl rfl rfl (Upd.here) rfl ?_
        refine sNext ?_
        refine W.keep (F' := [(8, _), (7, _), (6, _), (5, _), (4, _), (2, _)]) ⟨rfl, rfl, rfl, rfl, rfl, rfl, trivial⟩ ?_
        refine sSeq ?_
        refine W.region ?_
        refine OpsW.det (det_loadA ty29 rfl (List.Mem.head _) rfl) rfl ?_
        refine OpsW.det (det_loadA ty29 rfl (List.Mem.head _) rfl) rfl ?_
        refine OpsW.det (det_call en18 rfl (fun w hb ho => Cu.Add_ok ho.blocks)) rfl ?_
        refine OpsW.fresh (fr_alloc z29) rfl fun b9 => ?_
        refine OpsW.store sz29 rfl rfl rfl rfl rfl (Upd.here) rfl ?_
        refine sNext ?_
        refine W.keep (F' := [(9, _), (8, _), (7, _), (6, _), (5, _), (4, _), (2, _)]) ⟨rfl, rfl, rfl, rfl, rfl, rfl, rfl, trivial⟩ ?_
        refine sSeq ?_
        refine W.region ?_
        refine OpsW.det (det_loadA ty29 rfl (List.Mem.head _) rfl) rfl ?_
        refine OpsW.det (det_loadA ty29 rfl (List.Mem.head _) rfl) rfl ?_
        refine OpsW.det (det_call en18 rfl (fun w hb ho => Cu.Add_ok ho.blocks)) rfl ?_
        refine OpsW.store sz29 rfl rfl rfl rfl rfl (Upd.here) rfl ?_
        refine sNext ?_
        refine W.keep (F' := [(9, _), (8, _), (7, _), (6, _), (5, _), (4, _), (2, _)]) ⟨rfl, rfl, rfl, rfl, rfl, rfl, rfl, trivial⟩ ?_
        refine sSeq ?_
        refine W.draw mixed 9 [[], [], [0, 1], [], [3], [], [0, 1, 2, 3, 4, 5], [], [], [0, 1, 2, 3, 4, 5, 6, 7, 8], [0, 1, 2, 3, 4, 5, 6, 7, 8, 9]] (cl_lt (by decide)) ?_
        refine HeadR.start (cl_lt (by decide)) ?_
        refine HeadR.det rfl (fun β hβ => (det_loadA ty29 rfl (List.Mem.tail _ (List.Mem.tail _ (List.Mem.tail _ (List.Mem.head _)))) rfl)) ?_
        refine HeadR.det rfl (fun β hβ => (det_loadA ty29 rfl (List.Mem.head _) rfl)) ?_
        refine HeadR.det rfl (fun β hβ => (det_call en17 rfl (fun w hb ho => Cu.Mul_ok ho.blocks))) ?_
        refine HeadR.det rfl (fun β hβ => (det_fieldAddr fl107_0 rfl)) ?_
        refine HeadR.det rfl (fun β hβ => (det_loadA ty29 rfl (List.Mem.tail _ (List.Mem.tail _ (List.Mem.tail _ (List.Mem.tail _ (List.Mem.tail _ (List.Mem.tail _ (List.Mem.tail _ (List.Mem.head _)))))))) rfl)) ?_
        refine HeadR.det rfl (fun β hβ => (det_loadA ty29 rfl (List.Mem.head _) rfl)) ?_
        refine HeadR.det rfl (fun β hβ => (det_call en17 rfl (fun w hb ho => Cu.Mul_ok ho.blocks))) ?_
        refine HeadR.fresh rfl (fun β hβ => (fr_alloc z29).new) ?_
        refine HeadR.fresh rfl (fun β hβ => (fr_alloc z29).new) ?_
        refine HeadR.done ⟨by kernel_rfl, fun β hβ => ?_⟩
        refine OpsW.norm (F' := [(61, _), (62, _), (63, _), (64, _), (65, _), (66, _), (67, _), (10, .pointer (some ⟨(β 10).1, 0, none⟩)), (11, .pointer (some ⟨(β 11).1, 0, none⟩)), (9, _), (8, _), (7, _), (6, _), (5, _), (4, _), (2, _)]) (H' := [(_, _), (_, _), (_, _), (_, _), (_, _), (_, _), (_, _), (_, _), (_, _), (_, _)]) rfl rfl ?_
        generalize (β 10).1 = b10
        generalize (β 11).1 = b11
        refine OpsW.store sz29 rfl rfl rfl rfl rfl (Upd.here) rfl ?_
        refine OpsW.store sz29 rfl rfl rfl rfl rfl (Upd.there (Upd.here)) rfl ?_
        refine sNext ?_
        refine W.keep (F' := [(10, _), (11, _), (8, _), (7, _), (6, _), (5, _), (4, _), (2, _)]) ⟨rfl, rfl, rfl, rfl, rfl, rfl, rfl, rfl, trivial⟩ ?_
        refine sSeq ?_
        refine W.draw mixed 9 [[], [0], [], [0, 1, 2], [], [0, 1, 2, 3, 4], [], [0, 1, 2, 3, 4, 5, 6], [], [0, 1, 2, 3, 4, 5, 6, 7, 8]] (cl_lt (by decide)) ?_
        refine HeadR.start (cl_lt (by decide)) ?_
        refine HeadR.det rfl (fun β hβ => (det_loadA ty29 rfl (List.Mem.tail _ (List.Mem.tail _ (List.Mem.tail _ (List.Mem.tail _ (List.Mem.head _))))) rfl)) ?_
        refine HeadR.det rfl (fun β hβ => (det_call en16 rfl (fun w hb ho => Cu.Square_ok ho.blocks))) ?_
        refine HeadR.det rfl (fun β hβ => (det_loadA ty29 rfl (List.Mem.head _) rfl)) ?_
        refine HeadR.det rfl (fun β hβ => (det_call en62 rfl (fun w hb ho => Cu.Sub_ok ho.blocks))) ?_
        refine HeadR.det rfl (fun β hβ => (det_loadA ty29 rfl (List.Mem.tail _ (List.Mem.head _)) rfl)) ?_
        refine HeadR.det rfl (fun β hβ => (det_call en62 rfl (fun w hb ho => Cu.Sub_ok ho.blocks))) ?_
        refine HeadR.det rfl (fun β hβ => (det_loadA ty29 rfl (List.Mem.tail _ (List.Mem.head _)) rfl)) ?_
        refine HeadR.det rfl (fun β hβ => (det_call en62 rfl (fun w hb ho => Cu.Sub_ok ho.blocks))) ?_
        refine HeadR.fresh rfl (fun β hβ => (fr_alloc z29).new) ?_
        refine HeadR.done ⟨by kernel_rfl, fun β hβ => ?_⟩
        refine OpsW.norm (F' := [(68, _), (69, _), (70, _), (71, _), (72, _), (73, _), (74, _), (75, _), (12, .pointer (some ⟨(β 12).1, 0, none⟩)), (10, _), (11, _), (8, _), (7, _), (6, _), (5, _), (4, _), (2, _)]) (H' := [(_, _), (_, _), (_, _), (_, _), (_, _), (_, _), (_, _), (_, _), (_, _), (_, _), (_, _)]) rfl rfl ?_
        generalize (β 12).1 = b12
        refine OpsW.store sz29 rfl rfl rfl rfl rfl (Upd.here) rfl ?_
        refine sNext ?_
        refine W.keep (F' := [(12, _), (10, _), (11, _), (8, _), (7, _), (6, _), (5, _), (4, _), (2, _)]) ⟨rfl, rfl, rfl, rfl, rfl, rfl, rfl, rfl, rfl, trivial⟩ ?_
        refine sSeq ?_
        refine W.region ?_
        refine OpsW.det (det_fieldAddr fl107_1 rfl) rfl ?_
        refine OpsW.det (det_loadA ty29 rfl (List.Mem.tail _ (List.Mem.tail _ (List.Mem.tail _ (List.Mem.tail _ (List.Mem.tail _ (List.Mem.tail _ (List.Mem.tail _ (List.Mem.tail _ (List.Mem.tail _ (List.Mem.tail _ (List.Mem.head _))))))))))) rfl) rfl ?_
        refine OpsW.det (det_loadA ty29 rfl (List.Mem.tail _ (List.Mem.head _)) rfl) rfl ?_
        refine OpsW.det (det_call en17 rfl (fun w hb ho => Cu.Mul_ok ho.blocks)) rfl ?_
        refine OpsW.fresh (fr_alloc z29) rfl fun b13 => ?_
        refine OpsW.store sz29 rfl rfl rfl rfl rfl (Upd.here) rfl ?_
        refine sNext ?_
        refine W.keep (F' := [(13, _), (12, _), (11, _), (8, _), (7, _), (6, _), (5, _), (4, _), (2, _)]) ⟨rfl, rfl, rfl, rfl, rfl, rfl, rfl, rfl, rfl, trivial⟩ ?_
        refine sSeq ?_
        refine W.draw mixed 20 [[], [], [], [], [2, 3], [1, 2, 3, 4], [], [1, 2, 3, 4, 5, 6], [], [1, 2, 3, 4, 5, 6, 7, 8], [], [10], [], [1, 2, 3, 4, 5, 6, 7, 8, 9, 10, 11, 12], [1, 2, 3, 4, 5, 6, 7, 8, 9, 10, 11, 12, 13], [], [1, 2, 3, 4, 5, 6, 7, 8, 9, 10, 11, 12, 13, 14, 15], [], [1, 2, 3, 4, 5, 6, 7, 8, 9, 10, 11, 12, 13, 14, 15, 16, 17], [0, 1, 2, 3, 4, 5, 6, 7, 8, 9, 10, 11, 12, 13, 14, 15, 16, 17, 18], [0, 1, 2, 3, 4, 5, 6, 7, 8, 9, 10, 11, 12, 13, 14, 15, 16, 17, 18, 19]] (cl_lt (by decide)) ?_
        refine HeadR.start (cl_lt (by decide)) ?_
        refine HeadR.det rfl (fun β hβ => (det_loadA ty29 rfl (List.Mem.tail _ (List.Mem.head _)) rfl)) ?_
        refine HeadR.det rfl (fun β hβ => (det_loadA ty29 rfl (List.Mem.tail _ (List.Mem.tail _ (List.Mem.tail _ (List.Mem.tail _ (List.Mem.tail _ (List.Mem.tail _ (List.Mem.head _))))))) rfl)) ?_
        refine HeadR.det rfl (fun β hβ => (det_loadA ty29 rfl (List.Mem.tail _ (List.Mem.tail _ (List.Mem.tail _ (List.Mem.head _)))) rfl)) ?_
        refine HeadR.det rfl (fun β hβ => (det_loadA ty29 rfl (List.Mem.tail _ (List.Mem.head _)) rfl)) ?_
        refine HeadR.det rfl (fun β hβ => (det_call en62 rfl (fun w hb ho => Cu.Sub_ok ho.blocks))) ?_
        refine HeadR.det rfl (fun β hβ => (det_call en17 rfl (fun w hb ho => Cu.Mul_ok ho.blocks))) ?_
        refine HeadR.det rfl (fun β hβ => (det_loadA ty29 rfl (List.Mem.head _) rfl)) ?_
        refine HeadR.det rfl (fun β hβ => (det_call en62 rfl (fun w hb ho => Cu.Sub_ok ho.blocks))) ?_
        refine HeadR.det rfl (fun β hβ => (det_loadA ty29 rfl (List.Mem.head _) rfl)) ?_
        refine HeadR.det rfl (fun β hβ => (det_call en62 rfl (fun w hb ho => Cu.Sub_ok ho.blocks))) ?_
        refine HeadR.det rfl (fun β hβ => (det_fieldAddr fl107_2 rfl)) ?_
        refine HeadR.det rfl (fun β hβ => (det_loadA ty29 rfl (List.Mem.tail _ (List.Mem.tail _ (List.Mem.tail _ (List.Mem.tail _ (List.Mem.tail _ (List.Mem.tail _ (List.Mem.tail _ (List.Mem.tail _ (List.Mem.tail _ (List.Mem.tail _ (List.Mem.tail _ (List.Mem.head _)))))))))))) rfl)) ?_
        refine HeadR.det rfl (fun β hβ => (det_loadA ty29 rfl (List.Mem.tail _ (List.Mem.tail _ (List.Mem.tail _ (List.Mem.tail _ (List.Mem.tail _ (List.Mem.tail _ (List.Mem.tail _ (List.Mem.head _)))))))) rfl)) ?_
        refine HeadR.det rfl (fun β hβ => (det_call en18 rfl (fun w hb ho => Cu.Add_ok ho.blocks))) ?_
        refine HeadR.det rfl (fun β hβ => (det_call en16 rfl (fun w hb ho => Cu.Square_ok ho.blocks))) ?_
        refine HeadR.det rfl (fun β hβ => (det_loadA ty29 rfl (List.Mem.tail _ (List.Mem.tail _ (List.Mem.tail _ (List.Mem.tail _ (List.Mem.tail _ (List.Mem.tail _ (List.Mem.tail _ (List.Mem.tail _ (List.Mem.head _))))))))) rfl)) ?_
        refine HeadR.det rfl (fun β hβ => (det_call en62 rfl (fun w hb ho => Cu.Sub_ok ho.blocks))) ?_
        refine HeadR.det rfl (fun β hβ => (det_loadA ty29 rfl (List.Mem.tail _ (List.Mem.tail _ (List.Mem.tail _ (List.Mem.tail _ (List.Mem.tail _ (List.Mem.head _)))))) rfl)) ?_
        refine HeadR.det rfl (fun β hβ => (det_call en62 rfl (fun w hb ho => Cu.Sub_ok ho.blocks))) ?_
        refine HeadR.det rfl (fun β hβ => (det_build rfl bld107)) ?_
        refine HeadR.done ⟨by kernel_rfl, fun β hβ => ?_⟩
        refine OpsW.norm (F' := [(80, _), (81, _), (82, _), (83, _), (84, _), (85, _), (86, _), (87, _), (88, _), (89, _), (90, _), (91, _), (92, _), (93, _), (94, _), (95, _), (96, _), (97, _), (98, _), (99, _), (13, _), (12, _), (11, _), (8, _), (7, _), (6, _), (5, _), (4, _), (2, _)]) (H' := [(_, _), (_, _), (_, _), (_, _), (_, _), (_, _), (_, _), (_, _), (_, _), (_, _), (_, _), (_, _)]) rfl rfl ?_
        refine OpsW.store sz107 rfl rfl rfl rfl rfl (Upd.there (Upd.there (Upd.there (Upd.there (Upd.there (Upd.there (Upd.there (Upd.there (Upd.there (Upd.here)))))))))) rfl ?_
        refine sNext ?_
        refine W.keep (F' := [(4, _)]) ⟨rfl, trivial⟩ ?_
        refine sRet ?_
        exact done1 Tryd.results82 (rv_cellA ty107 rfl (List.Mem.tail _ (List.Mem.tail _ (List.Mem.tail _ (List.Mem.tail _ (List.Mem.tail _ (List.Mem.tail _ (List.Mem.tail _ (List.Mem.tail _ (List.Mem.tail _ (List.Mem.head _)))))))))) rfl) (congrArg encJ (jadd_n hc16 hc20 hc44).symm)

end Go.Cu
