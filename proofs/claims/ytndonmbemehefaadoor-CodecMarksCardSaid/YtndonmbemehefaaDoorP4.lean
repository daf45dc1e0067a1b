/-
  Part 4 of the joined texts of the curves' laws: The first group's points: what Neg, On, Add compute: the walks. Conditions: none.
  Conditions: those that each theorem states.
-/
import Derived.Test.YtndonmbemehefaaDoorP3
import Derived.Test.YtndonmbemehefaaDoorP2
/- The first group's points: what Neg, On, Add compute: the walks. Conditions: none. -/
namespace Go.Cu
open Go Go.Vm Go.RowKit Go.Proofs 
attribute [local irreducible] W OpsW Det Fresh New Writes Vm.Pure Makes Changes ExternTo BuildTo ZeroTo FieldTo IndexTo BinTo SliceTo Vm.Enters
set_option linter.unusedVariables false
set_option linter.unusedSimpArgs false
variable {T : Nat → TypeId × Nat × Nat}

def inv (x : Fq) : Fq := pw x (pp - 2)
def four : Fq := Zp.of 4
def pneg (p : Pt) : Pt := if p = (0, 0) then p else (p.1, 0 - p.2)
def onB (p : Pt) : Bool := decide (p = (0, 0)) || decide (p.2 * p.2 = p.1 * p.1 * p.1 + four)
def tojac (p : Pt) : Jac := if p = (0, 0) then (0, 0, 0) else (p.1, p.2, Zp.of 1)
def jdbl (p : Jac) : Jac :=
  if p.2.2 = 0 then (0, 0, 0) else if p.2.1 = 0 then (0, 0, 0) else
    let a := p.1 * p.1
    let b := p.2.1 * p.2.1
    let c := b * b
    let d0 := (p.1 + b) * (p.1 + b) - a - c
    let d := d0 + d0
    let e := a + a + a
    let f := e * e - d - d
    let c4 := (c + c) + (c + c)
    (f, e * (d - f) - c4 - c4, p.2.1 * p.2.2 + p.2.1 * p.2.2)
def jaddH (p : Jac) (q : Pt) : Fq := q.1 * (p.2.2 * p.2.2) - p.1
def jaddR (p : Jac) (q : Pt) : Fq := q.2 * p.2.2 * (p.2.2 * p.2.2) - p.2.1
def jaddN (p : Jac) (q : Pt) : Jac :=
  let zz := p.2.2 * p.2.2
  let h := jaddH p q
  let r := jaddR p q + jaddR p q
  let hh := h * h
  let i := (hh + hh) + (hh + hh)
  let j := h * i
  let v := p.1 * i
  let x := r * r - j - v - v
  let yj := p.2.1 * j
  (x, r * (v - x) - yj - yj, (p.2.2 + h) * (p.2.2 + h) - zz - hh)
def jadd (p : Jac) (q : Pt) : Jac :=
  if q = (0, 0) then p else if p.2.2 = 0 then tojac q else if jaddH p q = 0 then (if jaddR p q = 0 then jdbl p else (0, 0, 0)) else jaddN p q
def point (p : Jac) : Pt := if p.2.2 = 0 then (0, 0) else
  let i := inv p.2.2
  let i2 := i * i
  (p.1 * i2, p.2.1 * i2 * i)
def padd (p q : Pt) : Pt := point (jadd (tojac p) q)
theorem Inv_call {x : Fq} {w : World} (hG : Blocks (GH T) w) : Vm.Pure Tryd.prog 60 #[encF x, .agg #[u64 13402431016077863593, u64 2210141511517208575, u64 7435674573564081700, u64 7239337960414712511, u64 5412103778470702295, u64 1873798617647539866]] w (encF (inv x)) := by
  have h := power_ok (x := x) (E := pp - 2) (by decide) hG
  have e : Value.agg #[u64 (lim (pp - 2) 0), u64 (lim (pp - 2) 1), u64 (lim (pp - 2) 2), u64 (lim (pp - 2) 3), u64 (lim (pp - 2) 4), u64 (lim (pp - 2) 5)] = .agg #[u64 13402431016077863593, u64 2210141511517208575, u64 7435674573564081700, u64 7239337960414712511, u64 5412103778470702295, u64 1873798617647539866] := by kernel_rfl
  rw [e] at h
  exact h
theorem dt {p : Prop} [Decidable p] (h : decide p = true) : p := of_decide_eq_true h
theorem df {p : Prop} [Decidable p] (h : decide p = false) : ¬ p := of_decide_eq_false h
theorem pneg_yes {p : Pt} (h : decide (p = (0, 0)) = true) : pneg p = p := if_pos (dt h)
theorem pneg_no {p : Pt} (h : decide (p = (0, 0)) = false) : pneg p = (p.1, 0 - p.2) := if_neg (df h)
theorem tojac_yes {p : Pt} (h : decide (p = (0, 0)) = true) : tojac p = (0, 0, 0) := if_pos (dt h)
theorem tojac_no {p : Pt} (h : decide (p = (0, 0)) = false) : tojac p = (p.1, p.2, Zp.of 1) := if_neg (df h)
theorem point_yes {p : Jac} (h : decide (p.2.2 = 0) = true) : point p = (0, 0) := if_pos (dt h)
theorem point_no {p : Jac} (h : decide (p.2.2 = 0) = false) : point p = (p.1 * (inv p.2.2 * inv p.2.2), p.2.1 * (inv p.2.2 * inv p.2.2) * inv p.2.2) := if_neg (df h)
theorem jdbl_z {p : Jac} (h : decide (p.2.2 = 0) = true) : jdbl p = (0, 0, 0) := if_pos (dt h)
theorem jdbl_y {p : Jac} (h : decide (p.2.2 = 0) = false) (h2 : decide (p.2.1 = 0) = true) : jdbl p = (0, 0, 0) := (if_neg (df h)).trans (if_pos (dt h2))
theorem jdbl_no {p : Jac} (h : decide (p.2.2 = 0) = false) (h2 : decide (p.2.1 = 0) = false) : jdbl p = (
    let a := p.1 * p.1
    let b := p.2.1 * p.2.1
    let c := b * b
    let d0 := (p.1 + b) * (p.1 + b) - a - c
    let d := d0 + d0
    let e := a + a + a
    let f := e * e - d - d
    let c4 := (c + c) + (c + c)
    (f, e * (d - f) - c4 - c4, p.2.1 * p.2.2 + p.2.1 * p.2.2)) := (if_neg (df h)).trans (if_neg (df h2))
theorem jadd_q {p : Jac} {q : Pt} (h : decide (q = (0, 0)) = true) : jadd p q = p := if_pos (dt h)
theorem jadd_p {p : Jac} {q : Pt} (h : decide (q = (0, 0)) = false) (h2 : decide (p.2.2 = 0) = true) : jadd p q = tojac q := (if_neg (df h)).trans (if_pos (dt h2))
theorem jadd_d {p : Jac} {q : Pt} (h : decide (q = (0, 0)) = false) (h2 : decide (p.2.2 = 0) = false) (h3 : decide (jaddH p q = 0) = true) (h4 : decide (jaddR p q = 0) = true) : jadd p q = jdbl p :=
  (if_neg (df h)).trans ((if_neg (df h2)).trans ((if_pos (dt h3)).trans (if_pos (dt h4))))
theorem jadd_o {p : Jac} {q : Pt} (h : decide (q = (0, 0)) = false) (h2 : decide (p.2.2 = 0) = false) (h3 : decide (jaddH p q = 0) = true) (h4 : decide (jaddR p q = 0) = false) : jadd p q = (0, 0, 0) :=
  (if_neg (df h)).trans ((if_neg (df h2)).trans ((if_pos (dt h3)).trans (if_neg (df h4))))
theorem jadd_n {p : Jac} {q : Pt} (h : decide (q = (0, 0)) = false) (h2 : decide (p.2.2 = 0) = false) (h3 : decide (jaddH p q = 0) = false) : jadd p q = jaddN p q :=
  (if_neg (df h)).trans ((if_neg (df h2)).trans (if_neg (df h3)))

theorem bld31 {x y : Fq} : BuildTo Tryd.prog 31 [(0, encF x), (1, encF y)] (encP (x, y)) := BuildTo.of fun _ => by kernel_rfl
theorem bld107 {x y z : Fq} : BuildTo Tryd.prog 107 [(0, encF x), (1, encF y), (2, encF z)] (encJ (x, y, z)) := BuildTo.of fun _ => by kernel_rfl
theorem bz31 : ZeroTo Tryd.prog 31 (encP (0, 0)) := ZeroTo.of fun _ => by kernel_rfl
theorem bz107 : ZeroTo Tryd.prog 107 (encJ (0, 0, 0)) := ZeroTo.of fun _ => by kernel_rfl
theorem en18 : Vm.Enters Tryd.prog 18 := Vm.Enters.of fun _ _ => by kernel_rfl
theorem en93 : Vm.Enters Tryd.prog 93 := Vm.Enters.of fun _ _ => by kernel_rfl
theorem en23 : Vm.Enters Tryd.prog 23 := Vm.Enters.of fun _ _ => by kernel_rfl
theorem en70 : Vm.Enters Tryd.prog 70 := Vm.Enters.of fun _ _ => by kernel_rfl
theorem en65 : Vm.Enters Tryd.prog 65 := Vm.Enters.of fun _ _ => by kernel_rfl
theorem en81 : Vm.Enters Tryd.prog 81 := Vm.Enters.of fun _ _ => by kernel_rfl
theorem en98 : Vm.Enters Tryd.prog 98 := Vm.Enters.of fun _ _ => by kernel_rfl
theorem en67 : Vm.Enters Tryd.prog 67 := Vm.Enters.of fun _ _ => by kernel_rfl
theorem en60 : Vm.Enters Tryd.prog 60 := Vm.Enters.of fun _ _ => by kernel_rfl
theorem fl31_0 : TyF Tryd.prog 31 0 0 6 := ⟨⟨29, by kernel_rfl, by kernel_rfl⟩, by decide⟩
theorem fl31_1 : TyF Tryd.prog 31 1 6 6 := ⟨⟨29, by kernel_rfl, by kernel_rfl⟩, by decide⟩
theorem fl107_0 : TyF Tryd.prog 107 0 0 6 := ⟨⟨29, by kernel_rfl, by kernel_rfl⟩, by decide⟩
theorem fl107_1 : TyF Tryd.prog 107 1 6 6 := ⟨⟨29, by kernel_rfl, by kernel_rfl⟩, by decide⟩
theorem fl107_2 : TyF Tryd.prog 107 2 12 6 := ⟨⟨29, by kernel_rfl, by kernel_rfl⟩, by decide⟩
theorem sz31 : sizeIn Tryd.prog 31 = some 12 := by kernel_rfl
theorem sz107 : sizeIn Tryd.prog 107 = some 18 := by kernel_rfl
theorem ty31 : TyA Tryd.prog 31 12 := ⟨by kernel_rfl, by kernel_rfl⟩
theorem ty107 : TyA Tryd.prog 107 18 := ⟨by kernel_rfl, by kernel_rfl⟩
theorem z31 : TyZ Tryd.prog 31 (.agg #[.int .u64 0, .int .u64 0, .int .u64 0, .int .u64 0, .int .u64 0, .int .u64 0, .int .u64 0, .int .u64 0, .int .u64 0, .int .u64 0, .int .u64 0, .int .u64 0]) [.int .u64 0, .int .u64 0, .int .u64 0, .int .u64 0, .int .u64 0, .int .u64 0, .int .u64 0, .int .u64 0, .int .u64 0, .int .u64 0, .int .u64 0, .int .u64 0] := ⟨fun _ => by kernel_rfl, by kernel_rfl⟩
theorem z107 : TyZ Tryd.prog 107 (.agg #[.int .u64 0, .int .u64 0, .int .u64 0, .int .u64 0, .int .u64 0, .int .u64 0, .int .u64 0, .int .u64 0, .int .u64 0, .int .u64 0, .int .u64 0, .int .u64 0, .int .u64 0, .int .u64 0, .int .u64 0, .int .u64 0, .int .u64 0, .int .u64 0]) [.int .u64 0, .int .u64 0, .int .u64 0, .int .u64 0, .int .u64 0, .int .u64 0, .int .u64 0, .int .u64 0, .int .u64 0, .int .u64 0, .int .u64 0, .int .u64 0, .int .u64 0, .int .u64 0, .int .u64 0, .int .u64 0, .int .u64 0, .int .u64 0] := ⟨fun _ => by kernel_rfl, by kernel_rfl⟩
theorem Inv_ok {x : Fq} {w : World} (hG : Blocks (GH T) w)  : Vm.Pure Tryd.prog 67 #[encF x] w (encF (inv x)) := by
  refine pure_of_W (n := 12) (args := [encF x]) Tryd.func67 rfl Tryd.ntmps67 (Nat.le_of_ble_eq_true rfl) hG ?_
  refine sStart ?_
  refine sSeq ?_
  refine W.region ?_
  refine OpsW.fresh (fr_box rfl rfl) rfl fun b1 => ?_
  refine OpsW.fresh (fr_alloc z29) rfl fun b2 => ?_
  refine sNext ?_
  refine W.keep (F' := [(2, _), (1, _)]) ⟨rfl, rfl, trivial⟩ ?_
  refine sSeq ?_
  refine W.region ?_
  refine OpsW.det (det_loadA_ro ty27 rfl (List.Mem.tail _ (List.Mem.head _)) rfl) rfl ?_
  refine OpsW.fresh (fr_alloc z27) rfl fun b3 => ?_
  refine OpsW.store sz27 rfl rfl rfl rfl rfl (Upd.here) rfl ?_
  refine sNext ?_
  refine W.keep (F' := [(3, _), (2, _), (1, _)]) ⟨rfl, rfl, rfl, trivial⟩ ?_
  refine sSeq ?_
  refine W.region ?_
  refine OpsW.det (det_indexAddr_arr u27 sz26 rfl rfl ⟨by decide, by decide⟩) rfl ?_
  refine OpsW.det (det_loadC ty26 rfl (List.Mem.head _) rfl) rfl ?_
  refine OpsW.det ((det_sub (a := 13402431016077863595) (b := 2) rfl rfl).to (v := u64 13402431016077863593) (by kernel_rfl)) rfl ?_
  refine OpsW.det (det_indexAddr_arr u27 sz26 rfl rfl ⟨by decide, by decide⟩) rfl ?_
  refine OpsW.store sz26 rfl rfl rfl rfl rfl (Upd.here) rfl ?_
  refine sNext ?_
  refine W.keep (F' := [(3, _), (2, _), (1, _)]) ⟨rfl, rfl, rfl, trivial⟩ ?_
  refine sSeq ?_
  refine W.region ?_
  refine OpsW.det (det_loadA ty29 rfl (List.Mem.tail _ (List.Mem.tail _ (List.Mem.head _))) rfl) rfl ?_
  refine OpsW.det (det_loadA ty27 rfl (List.Mem.head _) rfl) rfl ?_
  refine OpsW.det (det_call en60 rfl (fun w hb ho => Inv_call ho.blocks)) rfl ?_
  refine OpsW.store sz29 rfl rfl rfl rfl rfl (Upd.there (Upd.here)) rfl ?_
  refine sNext ?_
  refine W.keep (F' := [(2, _)]) ⟨rfl, trivial⟩ ?_
  refine sRet ?_
  exact done1 Tryd.results67 (rv_cellA ty29 rfl (List.Mem.tail _ (List.Mem.head _)) rfl) rfl
theorem PNeg_ok {p : Pt} {w : World} (hG : Blocks (GH T) w)  : Vm.Pure Tryd.prog 45 #[encP p] w (encP (pneg p)) := by
  refine pure_of_W (n := 13) (args := [encP p]) Tryd.func45 rfl Tryd.ntmps45 (Nat.le_of_ble_eq_true rfl) hG ?_
  refine sStart ?_
  refine sSeq ?_
  refine W.region ?_
  refine OpsW.fresh (fr_box rfl rfl) rfl fun b1 => ?_
  refine OpsW.fresh (fr_alloc z31) rfl fun b2 => ?_
  refine sNext ?_
  refine W.keep (F' := [(2, _), (1, _)]) ⟨rfl, rfl, trivial⟩ ?_
  refine sSeq ?_
  refine sSeq ?_
  refine W.region ?_
  refine OpsW.det (det_loadA ty31 rfl (List.Mem.tail _ (List.Mem.head _)) rfl) rfl ?_
  refine OpsW.det (det_zero bz31) rfl ?_
  refine OpsW.det (det_eql31 rfl rfl) rfl ?_
  refine sNext ?_
  refine W.keep (F' := [(5, _), (2, _), (1, _)]) ⟨rfl, rfl, rfl, trivial⟩ ?_
  refine W.cond rfl (fun hc5 => ?_) (fun hc5 => ?_)
  · skip
    refine sSeq ?_
    refine W.region ?_
    refine OpsW.det (det_loadA ty31 rfl (List.Mem.tail _ (List.Mem.head _)) rfl) rfl ?_
    refine OpsW.store sz31 rfl rfl rfl rfl rfl (Upd.here) rfl ?_
    refine sNext ?_
    refine W.keep (F' := [(2, _)]) ⟨rfl, trivial⟩ ?_
    refine sRet ?_
    exact done1 Tryd.results45 (rv_cellA ty31 rfl (List.Mem.head _) rfl) (congrArg encP (pneg_yes hc5).symm)
  · skip
    refine sSkip ?_
    refine sSeq ?_
    refine W.draw mixed 6 [[], [0], [], [2], [2, 3], [0, 1, 2, 3, 4], [0, 1, 2, 3, 4, 5]] (cl_lt (by decide)) ?_
    refine HeadR.start (cl_lt (by decide)) ?_
    refine HeadR.det rfl (fun β hβ => (det_fieldAddr fl31_0 rfl)) ?_
    refine HeadR.det rfl (fun β hβ => (det_loadA ty29 rfl (List.Mem.tail _ (List.Mem.head _)) rfl)) ?_
    refine HeadR.det rfl (fun β hβ => (det_fieldAddr fl31_1 rfl)) ?_
    refine HeadR.det rfl (fun β hβ => (det_loadA ty29 rfl (List.Mem.tail _ (List.Mem.head _)) rfl)) ?_
    refine HeadR.det rfl (fun β hβ => (det_call en23 rfl (fun w hb ho => Cu.Neg_ok ho.blocks))) ?_
    refine HeadR.det rfl (fun β hβ => (det_build rfl bld31)) ?_
    refine HeadR.done ⟨by kernel_rfl, fun β hβ => ?_⟩
    refine OpsW.norm (F' := [(7, _), (8, _), (9, _), (10, _), (11, _), (12, _), (5, _), (2, _), (1, _)]) (H' := [(_, _), (_, _)]) rfl rfl ?_
    refine OpsW.store sz31 rfl rfl rfl rfl rfl (Upd.here) rfl ?_
    refine sNext ?_
    refine W.keep (F' := [(2, _)]) ⟨rfl, trivial⟩ ?_
    refine sRet ?_
    exact done1 Tryd.results45 (rv_cellA ty31 rfl (List.Mem.head _) rfl) (congrArg encP (pneg_no hc5).symm)
theorem POn_ok {p : Pt} {w : World} (hG : Blocks (GH T) w)  : Vm.Pure Tryd.prog 36 #[encP p] w (.bool (onB p)) := by
  refine pure_of_W (n := 20) (args := [encP p]) Tryd.func36 rfl Tryd.ntmps36 (Nat.le_of_ble_eq_true rfl) hG ?_
  refine sStart ?_
  refine sSeq ?_
  refine W.region ?_
  refine OpsW.fresh (fr_box rfl rfl) rfl fun b1 => ?_
  refine OpsW.det (det_assign rfl) rfl ?_
  refine sNext ?_
  refine W.keep (F' := [(1, _)]) ⟨rfl, trivial⟩ ?_
  refine sSeq ?_
  cases hp : decide (p = (0, 0))
  · skip
    refine W.draw mixed 18 [[], [], [0, 1], [0, 1, 2], [0, 1, 2, 3], [0, 1, 2, 3, 4], [0, 1, 2, 3, 4, 5], [0, 1, 2, 3], [0, 1, 2, 3, 7], [0, 1, 2, 3, 4, 5, 6, 7, 8], [0, 1, 2, 3], [0, 1, 2, 3, 10], [0, 1, 2, 3, 4, 5, 6, 7, 8, 9, 10, 11], [0, 1, 2, 3, 4, 5, 6, 7, 8, 9, 10, 11, 12], [0, 1, 2, 3, 4, 5, 6, 7, 8, 9, 10, 11, 12, 13], [0, 1, 2, 3, 4, 5, 6, 7, 8, 9, 10, 11, 12, 13, 14], [0, 1, 2, 3, 4, 5, 6, 7, 8, 9, 10, 11, 12, 13, 14, 15], [0, 1, 2, 3, 4, 5, 6, 7, 8, 9, 10, 11, 12, 13, 14, 15, 16]] (cl_lt (by decide)) ?_
    refine HeadR.start (cl_lt (by decide)) ?_
    refine HeadR.det rfl (fun β hβ => (det_loadA ty31 rfl (List.Mem.head _) rfl)) ?_
    refine HeadR.det rfl (fun β hβ => (det_zero bz31)) ?_
    refine HeadR.det rfl (fun β hβ => ((det_eql31 (a := p) rfl rfl).to (congrArg Value.bool hp))) ?_
    refine HeadR.det rfl (fun β hβ => (det_move rfl)) ?_
    refine HeadR.yes rfl rfl (fun _ _ => rfl) (fun β hβ => (det_fieldAddr fl31_1 rfl)) ?_
    refine HeadR.yes rfl rfl (fun _ _ => rfl) (fun β hβ => (det_loadA ty29 rfl (List.Mem.head _) rfl)) ?_
    refine HeadR.yes rfl rfl (fun _ _ => rfl) (fun β hβ => (det_call en16 rfl (fun w hb ho => Cu.Square_ok ho.blocks))) ?_
    refine HeadR.yes rfl rfl (fun _ _ => rfl) (fun β hβ => (det_fieldAddr fl31_0 rfl)) ?_
    refine HeadR.yes rfl rfl (fun _ _ => rfl) (fun β hβ => (det_loadA ty29 rfl (List.Mem.head _) rfl)) ?_
    refine HeadR.yes rfl rfl (fun _ _ => rfl) (fun β hβ => (det_call en16 rfl (fun w hb ho => Cu.Square_ok ho.blocks))) ?_
    refine HeadR.yes rfl rfl (fun _ _ => rfl) (fun β hβ => (det_fieldAddr fl31_0 rfl)) ?_
    refine HeadR.yes rfl rfl (fun _ _ => rfl) (fun β hβ => (det_loadA ty29 rfl (List.Mem.head _) rfl)) ?_
    refine HeadR.yes rfl rfl (fun _ _ => rfl) (fun β hβ => (det_call en17 rfl (fun w hb ho => Cu.Mul_ok ho.blocks))) ?_
    refine HeadR.yes rfl rfl (fun _ _ => rfl) (fun β hβ => (det_call en70 rfl (fun w hb ho => four_ok ho.blocks))) ?_
    refine HeadR.yes rfl rfl (fun _ _ => rfl) (fun β hβ => (det_call en18 rfl (fun w hb ho => Cu.Add_ok ho.blocks))) ?_
    refine HeadR.yes rfl rfl (fun _ _ => rfl) (fun β hβ => (det_eql29 rfl rfl)) ?_
    refine HeadR.det rfl (fun β hβ => (det_pick rfl rfl)) ?_
    refine HeadR.det rfl (fun β hβ => (det_assign rfl)) ?_
    refine HeadR.done ⟨by kernel_rfl, fun β hβ => ?_⟩
    refine OpsW.norm (F' := [(3, _), (4, _), (5, _), (6, _), (7, _), (8, _), (9, _), (10, _), (11, _), (12, _), (13, _), (14, _), (15, _), (16, _), (17, _), (18, _), (19, _), (2, _), (1, _)]) (H' := [(_, _)]) rfl rfl ?_
    refine sNext ?_
    refine W.keep (F' := [(2, _)]) ⟨rfl, trivial⟩ ?_
    refine sRet ?_
    exact done1 Tryd.results36 (rv_tmp rfl) (by rw [onB, hp]; rfl)
  · skip
    refine W.draw mixed 18 [[], [], [0, 1], [0, 1, 2], [0, 1, 2, 3], [0, 1, 2, 3, 4], [0, 1, 2, 3, 4, 5], [0, 1, 2, 3], [0, 1, 2, 3, 7], [0, 1, 2, 3, 4, 5, 6, 7, 8], [0, 1, 2, 3], [0, 1, 2, 3, 10], [0, 1, 2, 3, 4, 5, 6, 7, 8, 9, 10, 11], [0, 1, 2, 3, 4, 5, 6, 7, 8, 9, 10, 11, 12], [0, 1, 2, 3, 4, 5, 6, 7, 8, 9, 10, 11, 12, 13], [0, 1, 2, 3, 4, 5, 6, 7, 8, 9, 10, 11, 12, 13, 14], [0, 1, 2, 3, 4, 5, 6, 7, 8, 9, 10, 11, 12, 13, 14, 15], [0, 1, 2, 3, 4, 5, 6, 7, 8, 9, 10, 11, 12, 13, 14, 15, 16]] (cl_lt (by decide)) ?_
    refine HeadR.start (cl_lt (by decide)) ?_
    refine HeadR.det rfl (fun β hβ => (det_loadA ty31 rfl (List.Mem.head _) rfl)) ?_
    refine HeadR.det rfl (fun β hβ => (det_zero bz31)) ?_
    refine HeadR.det rfl (fun β hβ => ((det_eql31 (a := p) rfl rfl).to (congrArg Value.bool hp))) ?_
    refine HeadR.det rfl (fun β hβ => (det_move rfl)) ?_
    refine HeadR.no rfl rfl (fun _ _ => rfl) ?_
    refine HeadR.no rfl rfl (fun _ _ => rfl) ?_
    refine HeadR.no rfl rfl (fun _ _ => rfl) ?_
    refine HeadR.no rfl rfl (fun _ _ => rfl) ?_
    refine HeadR.no rfl rfl (fun _ _ => rfl) ?_
    refine HeadR.no rfl rfl (fun _ _ => rfl) ?_
    refine HeadR.no rfl rfl (fun _ _ => rfl) ?_
    refine HeadR.no rfl rfl (fun _ _ => rfl) ?_
    refine HeadR.no rfl rfl (fun _ _ => rfl) ?_
    refine HeadR.no rfl rfl (fun _ _ => rfl) ?_
    refine HeadR.no rfl rfl (fun _ _ => rfl) ?_
    refine HeadR.no rfl rfl (fun _ _ => rfl) ?_
    refine HeadR.det rfl (fun β hβ => (det_pick rfl rfl)) ?_
    refine HeadR.det rfl (fun β hβ => (det_assign rfl)) ?_
    refine HeadR.done ⟨by kernel_rfl, fun β hβ => ?_⟩
    refine OpsW.norm (F' := [(3, _), (4, _), (5, _), (6, _), (7, _), (8, _), (9, _), (10, _), (11, _), (12, _), (13, _), (14, _), (15, _), (16, _), (17, _), (18, _), (19, _), (2, _), (1, _)]) (H' := [(_, _)]) rfl rfl ?_
    refine sNext ?_
    refine W.keep (F' := [(2, _)]) ⟨rfl, trivial⟩ ?_
    refine sRet ?_
    exact done1 Tryd.results36 (rv_tmp rfl) (by rw [onB, hp]; rfl)
theorem tojac_ok {p : Pt} {w : World} (hG : Blocks (GH T) w)  : Vm.Pure Tryd.prog 93 #[encP p] w (encJ (tojac p)) := by
  refine pure_of_W (n := 13) (args := [encP p]) Tryd.func93 rfl Tryd.ntmps93 (Nat.le_of_ble_eq_true rfl) hG ?_
  refine sStart ?_
  refine sSeq ?_
  refine W.region ?_
  refine OpsW.fresh (fr_box rfl rfl) rfl fun b1 => ?_
  refine OpsW.fresh (fr_alloc z107) rfl fun b2 => ?_
  refine sNext ?_
  refine W.keep (F' := [(2, _), (1, _)]) ⟨rfl, rfl, trivial⟩ ?_
  refine sSeq ?_
  refine sSeq ?_
  refine W.region ?_
  refine OpsW.det (det_loadA ty31 rfl (List.Mem.tail _ (List.Mem.head _)) rfl) rfl ?_
  refine OpsW.det (det_zero bz31) rfl ?_
  refine OpsW.det (det_eql31 rfl rfl) rfl ?_
  refine sNext ?_
  refine W.keep (F' := [(5, _), (2, _), (1, _)]) ⟨rfl, rfl, rfl, trivial⟩ ?_
  refine W.cond rfl (fun hc5 => ?_) (fun hc5 => ?_)
  · skip
    refine sSeq ?_
    refine W.region ?_
    refine OpsW.det (det_zero bz107) rfl ?_
    refine OpsW.store sz107 rfl rfl rfl rfl rfl (Upd.here) rfl ?_
    refine sNext ?_
    refine W.keep (F' := [(2, _)]) ⟨rfl, trivial⟩ ?_
    refine sRet ?_
    exact done1 Tryd.results93 (rv_cellA ty107 rfl (List.Mem.head _) rfl) (congrArg encJ (tojac_yes hc5).symm)
  · skip
    refine sSkip ?_
    refine sSeq ?_
    refine W.draw mixed 6 [[], [0], [], [2], [], [0, 1, 2, 3, 4], [0, 1, 2, 3, 4, 5]] (cl_lt (by decide)) ?_
    refine HeadR.start (cl_lt (by decide)) ?_
    refine HeadR.det rfl (fun β hβ => (det_fieldAddr fl31_0 rfl)) ?_
    refine HeadR.det rfl (fun β hβ => (det_loadA ty29 rfl (List.Mem.tail _ (List.Mem.head _)) rfl)) ?_
    refine HeadR.det rfl (fun β hβ => (det_fieldAddr fl31_1 rfl)) ?_
    refine HeadR.det rfl (fun β hβ => (det_loadA ty29 rfl (List.Mem.tail _ (List.Mem.head _)) rfl)) ?_
    refine HeadR.det rfl (fun β hβ => (det_call en98 rfl (fun w hb ho => one_ok ho.blocks))) ?_
    refine HeadR.det rfl (fun β hβ => (det_build rfl bld107)) ?_
    refine HeadR.done ⟨by kernel_rfl, fun β hβ => ?_⟩
    refine OpsW.norm (F' := [(7, _), (8, _), (9, _), (10, _), (11, _), (12, _), (5, _), (2, _), (1, _)]) (H' := [(_, _), (_, _)]) rfl rfl ?_
    refine OpsW.store sz107 rfl rfl rfl rfl rfl (Upd.here) rfl ?_
    refine sNext ?_
    refine W.keep (F' := [(2, _)]) ⟨rfl, trivial⟩ ?_
    refine sRet ?_
    exact done1 Tryd.results93 (rv_cellA ty107 rfl (List.Mem.head _) rfl) (congrArg encJ (tojac_no hc5).symm)
theorem jdbl_ok {p : Jac} {w : World} (hG : Blocks (GH T) w)  : Vm.Pure Tryd.prog 81 #[encJ p] w (encJ (jdbl p)) := by
  refine pure_of_W (n := 75) (args := [encJ p]) Tryd.func81 rfl Tryd.ntmps81 (Nat.le_of_ble_eq_true rfl) hG ?_
  refine sStart ?_
  refine sSeq ?_
  refine W.region ?_
  refine OpsW.fresh (fr_box rfl rfl) rfl fun b1 => ?_
  refine OpsW.fresh (fr_alloc z107) rfl fun b2 => ?_
  refine sNext ?_
  refine W.keep (F' := [(2, _), (1, _)]) ⟨rfl, rfl, trivial⟩ ?_
  refine sSeq ?_
  refine sSeq ?_
  refine W.region ?_
  refine OpsW.det (det_fieldAddr fl107_2 rfl) rfl ?_
  refine OpsW.det (det_loadA ty29 rfl (List.Mem.tail _ (List.Mem.head _)) rfl) rfl ?_
  refine OpsW.test (det_call en65 rfl (fun w hb ho => Cu.Zero_ok ho.blocks)) rfl (fun hc12 => ?_) (fun hc12 => ?_)
  · skip
    refine OpsW.det (det_move rfl) rfl ?_
    refine OpsW.guard_no rfl rfl rfl ?_
    refine OpsW.guard_no rfl rfl rfl ?_
    refine OpsW.guard_no rfl rfl rfl ?_
    refine OpsW.det (det_pick rfl rfl) rfl ?_
    refine sNext ?_
    refine W.keep (F' := [(17, _), (2, _), (1, _)]) ⟨rfl, rfl, rfl, trivial⟩ ?_
    refine W.cond_true rfl ?_
    refine sSeq ?_
    refine W.region ?_
    refine OpsW.det (det_zero bz107) rfl ?_
    refine OpsW.store sz107 rfl rfl rfl rfl rfl (Upd.here) rfl ?_
    refine sNext ?_
    refine W.keep (F' := [(2, _)]) ⟨rfl, trivial⟩ ?_
    refine sRet ?_
    exact done1 Tryd.results81 (rv_cellA ty107 rfl (List.Mem.head _) rfl) (congrArg encJ (jdbl_z hc12).symm)
  · skip
    refine OpsW.det (det_move rfl) rfl ?_
    refine OpsW.guard_yes rfl rfl ?_
    refine OpsW.det (det_fieldAddr fl107_1 rfl) rfl ?_
    refine OpsW.guard_yes rfl rfl ?_
    refine OpsW.det (det_loadA ty29 rfl (List.Mem.tail _ (List.Mem.head _)) rfl) rfl ?_
    refine OpsW.guard_yes rfl rfl ?_
    refine OpsW.det (det_call en65 rfl (fun w hb ho => Cu.Zero_ok ho.blocks)) rfl ?_
    refine OpsW.det (det_pick rfl rfl) rfl ?_
    refine sNext ?_
    refine W.keep (F' := [(17, _), (2, _), (1, _)]) ⟨rfl, rfl, rfl, trivial⟩ ?_
    refine W.cond rfl (fun hc17 => ?_) (fun hc17 => ?_)
    · skip
      refine sSeq ?_
      refine W.region ?_
      refine OpsW.det (det_zero bz107) rfl ?_
      refine OpsW.store sz107 rfl rfl rfl rfl rfl (Upd.here) rfl ?_
      refine sNext ?_
      refine W.keep (F' := [(2, _)]) ⟨rfl, trivial⟩ ?_
      refine sRet ?_
      exact done1 Tryd.results81 (rv_cellA ty107 rfl (List.Mem.head _) rfl) (congrArg encJ (jdbl_y hc12 hc17).symm)
    · skip
      refine sSkip ?_
      refine sSeq ?_
      refine W.draw mixed 8 [[], [0], [0, 1], [], [3], [0, 1, 2, 3, 4], [], [], [0, 1, 2, 3, 4, 5, 6, 7], [0, 1, 2, 3, 4, 5, 6, 7, 8]] (cl_lt (by decide)) ?_
      refine HeadR.start (cl_lt (by decide)) ?_
      refine HeadR.det rfl (fun β hβ => (det_fieldAddr fl107_0 rfl)) ?_
      refine HeadR.det rfl (fun β hβ => (det_loadA ty29 rfl (List.Mem.tail _ (List.Mem.head _)) rfl)) ?_
      refine HeadR.det rfl (fun β hβ => (det_call en16 rfl (fun w hb ho => Cu.Square_ok ho.blocks))) ?_
      refine HeadR.det rfl (fun β hβ => (det_fieldAddr fl107_1 rfl)) ?_
      refine HeadR.det rfl (fun β hβ => (det_loadA ty29 rfl (List.Mem.tail _ (List.Mem.head _)) rfl)) ?_
      refine HeadR.det rfl (fun β hβ => (det_call en16 rfl (fun w hb ho => Cu.Square_ok ho.blocks))) ?_
      refine HeadR.fresh rfl (fun β hβ => (fr_alloc z29).new) ?_
      refine HeadR.fresh rfl (fun β hβ => (fr_alloc z29).new) ?_
      refine HeadR.done ⟨by kernel_rfl, fun β hβ => ?_⟩
      refine OpsW.norm (F' := [(19, _), (20, _), (21, _), (22, _), (23, _), (24, _), (3, .pointer (some ⟨(β 3).1, 0, none⟩)), (4, .pointer (some ⟨(β 4).1, 0, none⟩)), (17, _), (2, _), (1, _)]) (H' := [(_, _), (_, _), (_, _), (_, _)]) rfl rfl ?_
      generalize (β 3).1 = b3
      generalize (β 4).1 = b4
      refine OpsW.store sz29 rfl rfl rfl rfl rfl (Upd.here) rfl ?_
      refine OpsW.store sz29 rfl rfl rfl rfl rfl (Upd.there (Upd.here)) rfl ?_
      refine sNext ?_
      refine W.keep (F' := [(3, _), (4, _), (2, _), (1, _)]) ⟨rfl, rfl, rfl, rfl, trivial⟩ ?_
      refine sSeq ?_
      refine W.region ?_
      refine OpsW.det (det_loadA ty29 rfl (List.Mem.tail _ (List.Mem.head _)) rfl) rfl ?_
      refine OpsW.det (det_call en16 rfl (fun w hb ho => Cu.Square_ok ho.blocks)) rfl ?_
      refine OpsW.fresh (fr_alloc z29) rfl fun b5 => ?_
      refine OpsW.store sz29 rfl rfl rfl rfl rfl (Upd.here) rfl ?_
      refine sNext ?_
      refine W.keep (F' := [(5, _), (3, _), (4, _), (2, _), (1, _)]) ⟨rfl, rfl, rfl, rfl, rfl, trivial⟩ ?_
      refine sSeq ?_
      refine W.draw mixed 10 [[], [0], [], [0, 1, 2], [0, 1, 2, 3], [], [0, 1, 2, 3, 4, 5], [], [0, 1, 2, 3, 4, 5, 6, 7], [], [0, 1, 2, 3, 4, 5, 6, 7, 8, 9]] (cl_lt (by decide)) ?_
      refine HeadR.start (cl_lt (by decide)) ?_
      refine HeadR.det rfl (fun β hβ => (det_fieldAddr fl107_0 rfl)) ?_
      refine HeadR.det rfl (fun β hβ => (det_loadA ty29 rfl (List.Mem.tail _ (List.Mem.tail _ (List.Mem.tail _ (List.Mem.tail _ (List.Mem.head _))))) rfl)) ?_
      refine HeadR.det rfl (fun β hβ => (det_loadA ty29 rfl (List.Mem.tail _ (List.Mem.tail _ (List.Mem.head _))) rfl)) ?_
      refine HeadR.det rfl (fun β hβ => (det_call en18 rfl (fun w hb ho => Cu.Add_ok ho.blocks))) ?_
      refine HeadR.det rfl (fun β hβ => (det_call en16 rfl (fun w hb ho => Cu.Square_ok ho.blocks))) ?_
      refine HeadR.det rfl (fun β hβ => (det_loadA ty29 rfl (List.Mem.tail _ (List.Mem.head _)) rfl)) ?_
      refine HeadR.det rfl (fun β hβ => (det_call en62 rfl (fun w hb ho => Cu.Sub_ok ho.blocks))) ?_
      refine HeadR.det rfl (fun β hβ => (det_loadA ty29 rfl (List.Mem.head _) rfl)) ?_
      refine HeadR.det rfl (fun β hβ => (det_call en62 rfl (fun w hb ho => Cu.Sub_ok ho.blocks))) ?_
      refine HeadR.fresh rfl (fun β hβ => (fr_alloc z29).new) ?_
      refine HeadR.done ⟨by kernel_rfl, fun β hβ => ?_⟩
      refine OpsW.norm (F' := [(27, _), (28, _), (29, _), (30, _), (31, _), (32, _), (33, _), (34, _), (35, _), (6, .pointer (some ⟨(β 6).1, 0, none⟩)), (5, _), (3, _), (4, _), (2, _), (1, _)]) (H' := [(_, _), (_, _), (_, _), (_, _), (_, _), (_, _)]) rfl rfl ?_
      generalize (β 6).1 = b6
      refine OpsW.store sz29 rfl rfl rfl rfl rfl (Upd.here) rfl ?_
      refine sNext ?_
      refine W.keep (F' := [(6, _), (5, _), (3, _), (2, _), (1, _)]) ⟨rfl, rfl, rfl, rfl, rfl, trivial⟩ ?_
      refine sSeq ?_
      refine W.region ?_
      refine OpsW.det (det_loadA ty29 rfl (List.Mem.head _) rfl) rfl ?_
      refine OpsW.det (det_loadA ty29 rfl (List.Mem.head _) rfl) rfl ?_
      refine OpsW.det (det_call en18 rfl (fun w hb ho => Cu.Add_ok ho.blocks)) rfl ?_
      refine OpsW.store sz29 rfl rfl rfl rfl rfl (Upd.here) rfl ?_
      refine sNext ?_
      refine W.keep (F' := [(6, _), (5, _), (3, _), (2, _), (1, _)]) ⟨rfl, rfl, rfl, rfl, rfl, trivial⟩ ?_
      refine sSeq ?_
      refine W.draw mixed 6 [[], [], [0, 1], [], [0, 1, 2, 3], [], [0, 1, 2, 3, 4, 5]] (cl_lt (by decide)) ?_
      refine HeadR.start (cl_lt (by decide)) ?_
      refine HeadR.det rfl (fun β hβ => (det_loadA ty29 rfl (List.Mem.tail _ (List.Mem.tail _ (List.Mem.head _))) rfl)) ?_
      refine HeadR.det rfl (fun β hβ => (det_loadA ty29 rfl (List.Mem.tail _ (List.Mem.tail _ (List.Mem.head _))) rfl)) ?_
      refine HeadR.det rfl (fun β hβ => (det_call en18 rfl (fun w hb ho => Cu.Add_ok ho.blocks))) ?_
      refine HeadR.det rfl (fun β hβ => (det_loadA ty29 rfl (List.Mem.tail _ (List.Mem.tail _ (List.Mem.head _))) rfl)) ?_
      refine HeadR.det rfl (fun β hβ => (det_call en18 rfl (fun w hb ho => Cu.Add_ok ho.blocks))) ?_
      refine HeadR.fresh rfl (fun β hβ => (fr_alloc z29).new) ?_
      refine HeadR.done ⟨by kernel_rfl, fun β hβ => ?_⟩
      refine OpsW.norm (F' := [(39, _), (40, _), (41, _), (42, _), (43, _), (7, .pointer (some ⟨(β 7).1, 0, none⟩)), (6, _), (5, _), (3, _), (2, _), (1, _)]) (H' := [(_, _), (_, _), (_, _), (_, _), (_, _), (_, _), (_, _)]) rfl rfl ?_
      generalize (β 7).1 = b7
      refine OpsW.store sz29 rfl rfl rfl rfl rfl (Upd.here) rfl ?_
      refine sNext ?_
      refine W.keep (F' := [(7, _), (6, _), (5, _), (2, _), (1, _)]) ⟨rfl, rfl, rfl, rfl, rfl, trivial⟩ ?_
      refine sSeq ?_
      refine W.draw mixed 7 [[], [0], [], [0, 1, 2], [], [0, 1, 2, 3, 4], [], [0, 1, 2, 3, 4, 5, 6]] (cl_lt (by decide)) ?_
      refine HeadR.start (cl_lt (by decide)) ?_
      refine HeadR.det rfl (fun β hβ => (det_loadA ty29 rfl (List.Mem.head _) rfl)) ?_
      refine HeadR.det rfl (fun β hβ => (det_call en16 rfl (fun w hb ho => Cu.Square_ok ho.blocks))) ?_
      refine HeadR.det rfl (fun β hβ => (det_loadA ty29 rfl (List.Mem.tail _ (List.Mem.head _)) rfl)) ?_
      refine HeadR.det rfl (fun β hβ => (det_call en62 rfl (fun w hb ho => Cu.Sub_ok ho.blocks))) ?_
      refine HeadR.det rfl (fun β hβ => (det_loadA ty29 rfl (List.Mem.tail _ (List.Mem.head _)) rfl)) ?_
      refine HeadR.det rfl (fun β hβ => (det_call en62 rfl (fun w hb ho => Cu.Sub_ok ho.blocks))) ?_
      refine HeadR.fresh rfl (fun β hβ => (fr_alloc z29).new) ?_
      refine HeadR.done ⟨by kernel_rfl, fun β hβ => ?_⟩
      refine OpsW.norm (F' := [(44, _), (45, _), (46, _), (47, _), (48, _), (49, _), (8, .pointer (some ⟨(β 8).1, 0, none⟩)), (7, _), (6, _), (5, _), (2, _), (1, _)]) (H' := [(_, _), (_, _), (_, _), (_, _), (_, _), (_, _), (_, _), (_, _)]) rfl rfl ?_
      generalize (β 8).1 = b8
      refine OpsW.store sz29 rfl rfl rfl rfl rfl (Upd.here) rfl ?_
      refine sNext ?_
      refine W.keep (F' := [(8, _), (7, _), (6, _), (5, _), (2, _), (1, _)]) ⟨rfl, rfl, rfl, rfl, rfl, rfl, trivial⟩ ?_
      refine sSeq ?_
      refine W.region ?_
      refine OpsW.det (det_loadA ty29 rfl (List.Mem.tail _ (List.Mem.tail _ (List.Mem.tail _ (List.Mem.head _)))) rfl) rfl ?_
      refine OpsW.det (det_loadA ty29 rfl (List.Mem.tail _ (List.Mem.tail _ (List.Mem.tail _ (List.Mem.head _)))) rfl) rfl ?_
      refine OpsW.det (det_call en18 rfl (fun w hb ho => Cu.Add_ok ho.blocks)) rfl ?_
      refine OpsW.store sz29 rfl rfl rfl rfl rfl (Upd.there (Upd.there (Upd.there (Upd.here)))) rfl ?_
      refine sNext ?_
      refine W.keep (F' := [(8, _), (7, _), (6, _), (5, _), (2, _), (1, _)]) ⟨rfl, rfl, rfl, rfl, rfl, rfl, trivial⟩ ?_
      refine sSeq ?_
      refine W.region ?_
      refine OpsW.det (det_loadA ty29 rfl (List.Mem.tail _ (List.Mem.tail _ (List.Mem.tail _ (List.Mem.head _)))) rfl) rfl ?_
      refine OpsW.det (det_loadA ty29 rfl (List.Mem.tail _ (List.Mem.tail _ (List.Mem.tail _ (List.Mem.head _)))) rfl) rfl ?_
      refine OpsW.det (det_call en18 rfl (fun w hb ho => Cu.Add_ok ho.blocks)) rfl ?_
      refine OpsW.store sz29 rfl rfl rfl rfl rfl (Upd.there (Upd.there (Upd.there (Upd.here)))) rfl ?_
      refine sNext ?_
      refine W.keep (F' := [(8, _), (7, _), (6, _), (5, _), (2, _), (1, _)]) ⟨rfl, rfl, rfl, rfl, rfl, rfl, trivial⟩ ?_
      refine sSeq ?_
      refine W.region ?_
      refine OpsW.det (det_fieldAddr fl107_1 rfl) rfl ?_
      refine OpsW.det (det_loadA ty29 rfl (List.Mem.tail _ (List.Mem.tail _ (List.Mem.tail _ (List.Mem.tail _ (List.Mem.tail _ (List.Mem.tail _ (List.Mem.tail _ (List.Mem.head _)))))))) rfl) rfl ?_
      refine OpsW.det (det_fieldAddr fl107_2 rfl) rfl ?_
      refine OpsW.det (det_loadA ty29 rfl (List.Mem.tail _ (List.Mem.tail _ (List.Mem.tail _ (List.Mem.tail _ (List.Mem.tail _ (List.Mem.tail _ (List.Mem.tail _ (List.Mem.head _)))))))) rfl) rfl ?_
      refine OpsW.det (det_call en17 rfl (fun w hb ho => Cu.Mul_ok ho.blocks)) rfl ?_
      refine OpsW.fresh (fr_alloc z29) rfl fun b9 => ?_
      refine OpsW.store sz29 rfl rfl rfl rfl rfl (Upd.here) rfl ?_
      refine sNext ?_
      refine W.keep (F' := [(9, _), (8, _), (7, _), (6, _), (5, _), (2, _)]) ⟨rfl, rfl, rfl, rfl, rfl, rfl, trivial⟩ ?_
      refine sSeq ?_
      refine W.draw mixed 14 [[], [], [], [], [2, 3], [1, 2, 3, 4], [], [1, 2, 3, 4, 5, 6], [], [1, 2, 3, 4, 5, 6, 7, 8], [], [], [1, 2, 3, 4, 5, 6, 7, 8, 9, 10, 11], [0, 1, 2, 3, 4, 5, 6, 7, 8, 9, 10, 11, 12], [0, 1, 2, 3, 4, 5, 6, 7, 8, 9, 10, 11, 12, 13]] (cl_lt (by decide)) ?_
      refine HeadR.start (cl_lt (by decide)) ?_
      refine HeadR.det rfl (fun β hβ => (det_loadA ty29 rfl (List.Mem.tail _ (List.Mem.head _)) rfl)) ?_
      refine HeadR.det rfl (fun β hβ => (det_loadA ty29 rfl (List.Mem.tail _ (List.Mem.tail _ (List.Mem.head _))) rfl)) ?_
      refine HeadR.det rfl (fun β hβ => (det_loadA ty29 rfl (List.Mem.tail _ (List.Mem.tail _ (List.Mem.tail _ (List.Mem.head _)))) rfl)) ?_
      refine HeadR.det rfl (fun β hβ => (det_loadA ty29 rfl (List.Mem.tail _ (List.Mem.head _)) rfl)) ?_
      refine HeadR.det rfl (fun β hβ => (det_call en62 rfl (fun w hb ho => Cu.Sub_ok ho.blocks))) ?_
      refine HeadR.det rfl (fun β hβ => (det_call en17 rfl (fun w hb ho => Cu.Mul_ok ho.blocks))) ?_
      refine HeadR.det rfl (fun β hβ => (det_loadA ty29 rfl (List.Mem.tail _ (List.Mem.tail _ (List.Mem.tail _ (List.Mem.tail _ (List.Mem.head _))))) rfl)) ?_
      refine HeadR.det rfl (fun β hβ => (det_call en62 rfl (fun w hb ho => Cu.Sub_ok ho.blocks))) ?_
      refine HeadR.det rfl (fun β hβ => (det_loadA ty29 rfl (List.Mem.tail _ (List.Mem.tail _ (List.Mem.tail _ (List.Mem.tail _ (List.Mem.head _))))) rfl)) ?_
      refine HeadR.det rfl (fun β hβ => (det_call en62 rfl (fun w hb ho => Cu.Sub_ok ho.blocks))) ?_
      refine HeadR.det rfl (fun β hβ => (det_loadA ty29 rfl (List.Mem.head _) rfl)) ?_
      refine HeadR.det rfl (fun β hβ => (det_loadA ty29 rfl (List.Mem.head _) rfl)) ?_
      refine HeadR.det rfl (fun β hβ => (det_call en18 rfl (fun w hb ho => Cu.Add_ok ho.blocks))) ?_
      refine HeadR.det rfl (fun β hβ => (det_build rfl bld107)) ?_
      refine HeadR.done ⟨by kernel_rfl, fun β hβ => ?_⟩
      refine OpsW.norm (F' := [(61, _), (62, _), (63, _), (64, _), (65, _), (66, _), (67, _), (68, _), (69, _), (70, _), (71, _), (72, _), (73, _), (74, _), (9, _), (8, _), (7, _), (6, _), (5, _), (2, _)]) (H' := [(_, _), (_, _), (_, _), (_, _), (_, _), (_, _), (_, _), (_, _), (_, _)]) rfl rfl ?_
      refine OpsW.store sz107 rfl rfl rfl rfl rfl (Upd.there (Upd.there (Upd.there (Upd.there (Upd.there (Upd.there (Upd.there (Upd.here)))))))) rfl ?_
      refine sNext ?_
      refine W.keep (F' := [(2, _)]) ⟨rfl, trivial⟩ ?_
      refine sRet ?_
      exact done1 Tryd.results81 (rv_cellA ty107 rfl (List.Mem.tail _ (List.Mem.tail _ (List.Mem.tail _ (List.Mem.tail _ (List.Mem.tail _ (List.Mem.tail _ (List.Mem.tail _ (List.Mem.head _)))))))) rfl) (congrArg encJ (jdbl_no hc12 hc17).symm)
theorem point_ok {p : Jac} {w : World} (hG : Blocks (GH T) w)  : Vm.Pure Tryd.prog 83 #[encJ p] w (encP (point p)) := by
  refine pure_of_W (n := 25) (args := [encJ p]) Tryd.func83 rfl Tryd.ntmps83 (Nat.le_of_ble_eq_true rfl) hG ?_
  refine sStart ?_
  refine sSeq ?_
  refine W.region ?_
  refine OpsW.fresh (fr_box rfl rfl) rfl fun b1 => ?_
  refine OpsW.fresh (fr_alloc z31) rfl fun b2 => ?_
  refine sNext ?_
  refine W.keep (F' := [(2, _), (1, _)]) ⟨rfl, rfl, trivial⟩ ?_
  refine sSeq ?_
  refine sSeq ?_
  refine W.region ?_
  refine OpsW.det (det_fieldAddr fl107_2 rfl) rfl ?_
  refine OpsW.det (det_loadA ty29 rfl (List.Mem.tail _ (List.Mem.head _)) rfl) rfl ?_
  refine OpsW.det (det_call en65 rfl (fun w hb ho => Cu.Zero_ok ho.blocks)) rfl ?_
  refine sNext ?_
  refine W.keep (F' := [(7, _), (2, _), (1, _)]) ⟨rfl, rfl, rfl, trivial⟩ ?_
  refine W.cond rfl (fun hc7 => ?_) (fun hc7 => ?_)
  · skip
    refine sSeq ?_
    refine W.region ?_
    refine OpsW.det (det_zero bz31) rfl ?_
    refine OpsW.store sz31 rfl rfl rfl rfl rfl (Upd.here) rfl ?_
    refine sNext ?_
    refine W.keep (F' := [(2, _)]) ⟨rfl, trivial⟩ ?_
    refine sRet ?_
    exact done1 Tryd.results83 (rv_cellA ty31 rfl (List.Mem.head _) rfl) (congrArg encP (point_yes hc7).symm)
  · skip
    refine sSkip ?_
    refine sSeq ?_
    refine W.region ?_
    refine OpsW.det (det_fieldAddr fl107_2 rfl) rfl ?_
    refine OpsW.det (det_loadA ty29 rfl (List.Mem.tail _ (List.Mem.head _)) rfl) rfl ?_
    refine OpsW.det (det_call en67 rfl (fun w hb ho => Cu.Inv_ok ho.blocks)) rfl ?_
    refine OpsW.fresh (fr_alloc z29) rfl fun b3 => ?_
    refine OpsW.store sz29 rfl rfl rfl rfl rfl (Upd.here) rfl ?_
    refine sNext ?_
    refine W.keep (F' := [(3, _), (2, _), (1, _)]) ⟨rfl, rfl, rfl, trivial⟩ ?_
    refine sSeq ?_
    refine W.region ?_
    refine OpsW.det (det_loadA ty29 rfl (List.Mem.head _) rfl) rfl ?_
    refine OpsW.det (det_call en16 rfl (fun w hb ho => Cu.Square_ok ho.blocks)) rfl ?_
    refine OpsW.fresh (fr_alloc z29) rfl fun b4 => ?_
    refine OpsW.store sz29 rfl rfl rfl rfl rfl (Upd.here) rfl ?_
    refine sNext ?_
    refine W.keep (F' := [(4, _), (3, _), (2, _), (1, _)]) ⟨rfl, rfl, rfl, rfl, trivial⟩ ?_
    refine sSeq ?_
    refine W.draw mixed 11 [[], [0], [], [0, 1, 2], [], [4], [], [0, 1, 2, 3, 4, 5, 6], [], [0, 1, 2, 3, 4, 5, 6, 7, 8], [0, 1, 2, 3, 4, 5, 6, 7, 8, 9], [0, 1, 2, 3, 4, 5, 6, 7, 8, 9, 10]] (cl_lt (by decide)) ?_
    refine HeadR.start (cl_lt (by decide)) ?_
    refine HeadR.det rfl (fun β hβ => (det_fieldAddr fl107_0 rfl)) ?_
    refine HeadR.det rfl (fun β hβ => (det_loadA ty29 rfl (List.Mem.tail _ (List.Mem.tail _ (List.Mem.tail _ (List.Mem.head _)))) rfl)) ?_
    refine HeadR.det rfl (fun β hβ => (det_loadA ty29 rfl (List.Mem.head _) rfl)) ?_
    refine HeadR.det rfl (fun β hβ => (det_call en17 rfl (fun w hb ho => Cu.Mul_ok ho.blocks))) ?_
    refine HeadR.det rfl (fun β hβ => (det_fieldAddr fl107_1 rfl)) ?_
    refine HeadR.det rfl (fun β hβ => (det_loadA ty29 rfl (List.Mem.tail _ (List.Mem.tail _ (List.Mem.tail _ (List.Mem.head _)))) rfl)) ?_
    refine HeadR.det rfl (fun β hβ => (det_loadA ty29 rfl (List.Mem.head _) rfl)) ?_
    refine HeadR.det rfl (fun β hβ => (det_call en17 rfl (fun w hb ho => Cu.Mul_ok ho.blocks))) ?_
    refine HeadR.det rfl (fun β hβ => (det_loadA ty29 rfl (List.Mem.tail _ (List.Mem.head _)) rfl)) ?_
    refine HeadR.det rfl (fun β hβ => (det_call en17 rfl (fun w hb ho => Cu.Mul_ok ho.blocks))) ?_
    refine HeadR.det rfl (fun β hβ => (det_build rfl bld31)) ?_
    refine HeadR.done ⟨by kernel_rfl, fun β hβ => ?_⟩
    refine OpsW.norm (F' := [(14, _), (15, _), (16, _), (17, _), (18, _), (19, _), (20, _), (21, _), (22, _), (23, _), (24, _), (4, _), (3, _), (2, _), (1, _)]) (H' := [(_, _), (_, _), (_, _), (_, _)]) rfl rfl ?_
    refine OpsW.store sz31 rfl rfl rfl rfl rfl (Upd.there (Upd.there (Upd.here))) rfl ?_
    refine sNext ?_
    refine W.keep (F' := [(2, _)]) ⟨rfl, trivial⟩ ?_
    refine sRet ?_
    exact done1 Tryd.results83 (rv_cellA ty31 rfl (List.Mem.tail _ (List.Mem.tail _ (List.Mem.head _))) rfl) (congrArg encP (point_no hc7).symm)
theorem jadd_ok {p : Jac} {q : Pt} {w : World} (hG : Blocks (GH T) w)  : Vm.Pure Tryd.prog 82 #[encJ p, encP q] w (encJ (jadd p q)) := by
  refine pure_of_W (n := 100) (args := [encJ p, encP q]) Tryd.func82 rfl Tryd.ntmps82 (Nat.le_of_ble_eq_true rfl) hG ?_
  refine sStart ?_
  refine sSeq ?_
  refine W.region ?_
  refine OpsW.fresh (fr_box rfl rfl) rfl fun b2 => ?_
  refine OpsW.fresh (fr_box rfl rfl) rfl fun b3 => ?_
  refine OpsW.fresh (fr_alloc z107) rfl fun b4 => ?_
  refine sNext ?_
  refine W.keep (F' := [(4, _), (3, _), (2, _)]) ⟨rfl, rfl, rfl, trivial⟩ ?_
  refine sSeq ?_
  refine sSeq ?_
  refine W.region ?_
  refine OpsW.det (det_loadA ty31 rfl (List.Mem.tail _ (List.Mem.head _)) rfl) rfl ?_
  refine OpsW.det (det_zero bz31) rfl ?_
  refine OpsW.det (det_eql31 rfl rfl) rfl ?_
  refine sNext ?_
  refine W.keep (F' := [(16, _), (4, _), (3, _), (2, _)]) ⟨rfl, rfl, rfl, rfl, trivial⟩ ?_
  refine W.cond rfl (fun hc16 => ?_) (fun hc16 => ?_)
  · skip
    refine sSeq ?_
    refine W.region ?_
    refine OpsW.det (det_loadA ty107 rfl (List.Mem.tail _ (List.Mem.tail _ (List.Mem.head _))) rfl) rfl ?_
    refine OpsW.store sz107 rfl rfl rfl rfl rfl (Upd.here) rfl ?_
    refine sNext ?_
    refine W.keep (F' := [(4, _)]) ⟨rfl, trivial⟩ ?_
    refine sRet ?_
    exact done1 Tryd.results82 (rv_cellA ty107 rfl (List.Mem.head _) rfl) (congrArg encJ (jadd_q hc16).symm)
  · skip
    refine sSkip ?_
    refine sSeq ?_
    refine sSeq ?_
    refine W.region ?_
    refine OpsW.det (det_fieldAddr fl107_2 rfl) rfl ?_
    refine OpsW.det (det_loadA ty29 rfl (List.Mem.tail _ (List.Mem.tail _ (List.Mem.head _))) rfl) rfl ?_
    refine OpsW.det (det_call en65 rfl (fun w hb ho => Cu.Zero_ok ho.blocks)) rfl ?_
    refine sNext ?_
    refine W.keep (F' := [(20, _), (4, _), (3, _), (2, _)]) ⟨rfl, rfl, rfl, rfl, trivial⟩ ?_
    refine W.cond rfl (fun hc20 => ?_) (fun hc20 => ?_)
    · skip
      refine sSeq ?_
      refine W.region ?_
      refine OpsW.det (det_loadA ty31 rfl (List.Mem.tail _ (List.Mem.head _)) rfl) rfl ?_
      refine OpsW.det (det_call en93 rfl (fun w hb ho => tojac_ok ho.blocks)) rfl ?_
      refine OpsW.store sz107 rfl rfl rfl rfl rfl (Upd.here) rfl ?_
      refine sNext ?_
      refine W.keep (F' := [(4, _)]) ⟨rfl, trivial⟩ ?_
      refine sRet ?_
      exact done1 Tryd.results82 (rv_cellA ty107 rfl (List.Mem.head _) rfl) (congrArg encJ (jadd_p hc16 hc20).symm)
    · skip
      refine sSkip ?_
      refine sSeq ?_
      refine W.region ?_
      refine OpsW.det (det_fieldAddr fl107_2 rfl) rfl ?_
      refine OpsW.det (det_loadA ty29 rfl (List.Mem.tail _ (List.Mem.tail _ (List.Mem.head _))) rfl) rfl ?_
      refine OpsW.det (det_call en16 rfl (fun w hb ho => Cu.Square_ok ho.blocks)) rfl ?_
      refine OpsW.fresh (fr_alloc z29) rfl fun b5 => ?_
      refine OpsW.store sz29 rfl rfl rfl rfl rfl (Upd.here) rfl ?_
      refine sNext ?_
      refine W.keep (F' := [(5, _), (4, _), (3, _), (2, _)]) ⟨rfl, rfl, rfl, rfl, trivial⟩ ?_
      refine sSeq ?_
      refine W.draw mixed 8 [[], [0], [], [0, 1, 2], [], [4], [0, 1, 2, 3, 4, 5], [], [0, 1, 2, 3, 4, 5, 6, 7]] (cl_lt (by decide)) ?_
      refine HeadR.start (cl_lt (by decide)) ?_
      refine HeadR.det rfl (fun β hβ => (det_fieldAddr fl31_0 rfl)) ?_
      refine HeadR.det rfl (fun β hβ => (det_loadA ty29 rfl (List.Mem.tail _ (List.Mem.tail _ (List.Mem.head _))) rfl)) ?_
      refine HeadR.det rfl (fun β hβ => (det_loadA ty29 rfl (List.Mem.head _) rfl)) ?_
      refine HeadR.det rfl (fun β hβ => (det_call en17 rfl (fun w hb ho => Cu.Mul_ok ho.blocks))) ?_
      refine HeadR.det rfl (fun β hβ => (det_fieldAddr fl107_0 rfl)) ?_
      refine HeadR.det rfl (fun β hβ => (det_loadA ty29 rfl (List.Mem.tail _ (List.Mem.tail _ (List.Mem.tail _ (List.Mem.head _)))) rfl)) ?_
      refine HeadR.det rfl (fun β hβ => (det_call en62 rfl (fun w hb ho => Cu.Sub_ok ho.blocks))) ?_
      refine HeadR.fresh rfl (fun β hβ => (fr_alloc z29).new) ?_
      refine HeadR.done ⟨by kernel_rfl, fun β hβ => ?_⟩
      refine OpsW.norm (F' := [(26, _), (27, _), (28, _), (29, _), (30, _), (31, _), (32, _), (6, .pointer (some ⟨(β 6).1, 0, none⟩)), (5, _), (4, _), (3, _), (2, _)]) (H' := [(_, _), (_, _), (_, _), (_, _), (_, _)]) rfl rfl ?_
      generalize (β 6).1 = b6
      refine OpsW.store sz29 rfl rfl rfl rfl rfl (Upd.here) rfl ?_
      refine sNext ?_
      refine W.keep (F' := [(6, _), (5, _), (4, _), (3, _), (2, _)]) ⟨rfl, rfl, rfl, rfl, rfl, trivial⟩ ?_
      refine sSeq ?_
      refine W.draw mixed 11 [[], [0], [], [2], [0, 1, 2, 3], [], [0, 1, 2, 3, 4, 5], [], [7], [0, 1, 2, 3, 4, 5, 6, 7, 8], [], [0, 1, 2, 3, 4, 5, 6, 7, 8, 9, 10]] (cl_lt (by decide)) ?_
      refine HeadR.start (cl_lt (by decide)) ?_
      refine HeadR.det rfl (fun β hβ => (det_fieldAddr fl31_1 rfl)) ?_
      refine HeadR.det rfl (fun β hβ => (det_loadA ty29 rfl (List.Mem.tail _ (List.Mem.tail _ (List.Mem.tail _ (List.Mem.head _)))) rfl)) ?_
      refine HeadR.det rfl (fun β hβ => (det_fieldAddr fl107_2 rfl)) ?_
      refine HeadR.det rfl (fun β hβ => (det_loadA ty29 rfl (List.Mem.tail _ (List.Mem.tail _ (List.Mem.tail _ (List.Mem.tail _ (List.Mem.head _))))) rfl)) ?_
      refine HeadR.det rfl (fun β hβ => (det_call en17 rfl (fun w hb ho => Cu.Mul_ok ho.blocks))) ?_
      refine HeadR.det rfl (fun β hβ => (det_loadA ty29 rfl (List.Mem.tail _ (List.Mem.head _)) rfl)) ?_
      refine HeadR.det rfl (fun β hβ => (det_call en17 rfl (fun w hb ho => Cu.Mul_ok ho.blocks))) ?_
      refine HeadR.det rfl (fun β hβ => (det_fieldAddr fl107_1 rfl)) ?_
      refine HeadR.det rfl (fun β hβ => (det_loadA ty29 rfl (List.Mem.tail _ (List.Mem.tail _ (List.Mem.tail _ (List.Mem.tail _ (List.Mem.head _))))) rfl)) ?_
      refine HeadR.det rfl (fun β hβ => (det_call en62 rfl (fun w hb ho => Cu.Sub_ok ho.blocks))) ?_
      refine HeadR.fresh rfl (fun β hβ => (fr_alloc z29).new) ?_
      refine HeadR.done ⟨by kernel_rfl, fun β hβ => ?_⟩
      refine OpsW.norm (F' := [(33, _), (34, _), (35, _), (36, _), (37, _), (38, _), (39, _), (40, _), (41, _), (42, _), (7, .pointer (some ⟨(β 7).1, 0, none⟩)), (6, _), (5, _), (4, _), (3, _), (2, _)]) (H' := [(_, _), (_, _), (_, _), (_, _), (_, _), (_, _)]) rfl rfl ?_
      generalize (β 7).1 = b7
      refine OpsW.store sz29 rfl rfl rfl rfl rfl (Upd.here) rfl ?_
      refine sNext ?_
      refine W.keep (F' := [(7, _), (6, _), (5, _), (4, _), (2, _)]) ⟨rfl, rfl, rfl, rfl, rfl, trivial⟩ ?_
      refine sSeq ?_
      refine sSeq ?_
      refine W.region ?_
      refine OpsW.det (det_loadA ty29 rfl (List.Mem.tail _ (List.Mem.head _)) rfl) rfl ?_
      refine OpsW.det (det_call en65 rfl (fun w hb ho => Cu.Zero_ok ho.blocks)) rfl ?_
      refine sNext ?_
      refine W.keep (F' := [(44, _), (7, _), (6, _), (5, _), (4, _), (2, _)]) ⟨rfl, rfl, rfl, rfl, rfl, rfl, trivial⟩ ?_
      refine W.cond rfl (fun hc44 => ?_) (fun hc44 => ?_)
      · skip
        refine sSeq ?_
        refine sSeq ?_
        refine W.region ?_
        refine OpsW.det (det_loadA ty29 rfl (List.Mem.head _) rfl) rfl ?_
        refine OpsW.det (det_call en65 rfl (fun w hb ho => Cu.Zero_ok ho.blocks)) rfl ?_
        refine sNext ?_
        refine W.keep (F' := [(46, _), (4, _), (2, _)]) ⟨rfl, rfl, rfl, trivial⟩ ?_
        refine W.cond rfl (fun hc46 => ?_) (fun hc46 => ?_)
        · skip
          refine sSeq ?_
          refine W.region ?_
          refine OpsW.det (det_loadA ty107 rfl (List.Mem.tail _ (List.Mem.tail _ (List.Mem.tail _ (List.Mem.tail _ (List.Mem.tail _ (List.Mem.head _)))))) rfl) rfl ?_
          refine OpsW.det (det_call en81 rfl (fun w hb ho => jdbl_ok ho.blocks)) rfl ?_
          refine OpsW.store sz107 rfl rfl rfl rfl rfl (Upd.there (Upd.there (Upd.there (Upd.here)))) rfl ?_
          refine sNext ?_
          refine W.keep (F' := [(4, _)]) ⟨rfl, trivial⟩ ?_
          refine sRet ?_
          exact done1 Tryd.results82 (rv_cellA ty107 rfl (List.Mem.tail _ (List.Mem.tail _ (List.Mem.tail _ (List.Mem.head _)))) rfl) (congrArg encJ (jadd_d hc16 hc20 hc44 hc46).symm)
        · skip
          refine sSkip ?_
          refine sSeq ?_
          refine W.region ?_
          refine OpsW.det (det_zero bz107) rfl ?_
          refine OpsW.store sz107 rfl rfl rfl rfl rfl (Upd.there (Upd.there (Upd.there (Upd.here)))) rfl ?_
          refine sNext ?_
          refine W.keep (F' := [(4, _)]) ⟨rfl, trivial⟩ ?_
          refine sRet ?_
          exact done1 Tryd.results82 (rv_cellA ty107 rfl (List.Mem.tail _ (List.Mem.tail _ (List.Mem.tail _ (List.Mem.head _)))) rfl) (congrArg encJ (jadd_o hc16 hc20 hc44 hc46).symm)
      · skip
        refine sSkip ?_
        refine sSeq ?_
        refine W.region ?_
        refine OpsW.det (det_loadA ty29 rfl (List.Mem.head _) rfl) rfl ?_
        refine OpsW.det (det_loadA ty29 rfl (List.Mem.head _) rfl) rfl ?_
        refine OpsW.det (det_call en18 rfl (fun w hb ho => Cu.Add_ok ho.blocks)) rfl ?_
        refine OpsW.store sz29 rfl rfl rfl rfl rfl (Upd.here) rfl ?_
        refine sNext ?_
        refine W.keep (F' := [(7, _), (6, _), (5, _), (4, _), (2, _)]) ⟨rfl, rfl, rfl, rfl, rfl, trivial⟩ ?_
        refine sSeq ?_
        refine W.region ?_
        refine OpsW.det (det_loadA ty29 rfl (List.Mem.tail _ (List.Mem.head _)) rfl) rfl ?_
        refine OpsW.det (det_call en16 rfl (fun w hb ho => Cu.Square_ok ho.blocks)) rfl ?_
        refine OpsW.fresh (fr_alloc z29) rfl fun b8 => ?_
        refine OpsW.store sz29 rfl rfl rfl rfl rfl (Upd.here) rfl ?_
        refine sNext ?_
        refine W.keep (F' := [(8, _), (7, _), (6, _), (5, _), (4, _), (2, _)]) ⟨rfl, rfl, rfl, rfl, rfl, rfl, trivial⟩ ?_
        refine sSeq ?_
        refine W.region ?_
        refine OpsW.det (det_loadA ty29 rfl (List.Mem.head _) rfl) rfl ?_
        refine OpsW.det (det_loadA ty29 rfl (List.Mem.head _) rfl) rfl ?_
        refine OpsW.det (det_call en18 rfl (fun w hb ho => Cu.Add_ok ho.blocks)) rfl ?_
        refine OpsW.fresh (fr_alloc z29) rfl fun b9 => ?_
        refine OpsW.store sz29 rfl rfl rfl rfl rfl (Upd.here) rfl ?_
        refine sNext ?_
        refine W.keep (F' := [(9, _), (8, _), (7, _), (6, _), (5, _), (4, _), (2, _)]) ⟨rfl, rfl, rfl, rfl, rfl, rfl, rfl, trivial⟩ ?_
        refine sSeq ?_
        refine W.region ?_
        refine OpsW.det (det_loadA ty29 rfl (List.Mem.head _) rfl) rfl ?_
        refine OpsW.det (det_loadA ty29 rfl (List.Mem.head _) rfl) rfl ?_
        refine OpsW.det (det_call en18 rfl (fun w hb ho => Cu.Add_ok ho.blocks)) rfl ?_
        refine OpsW.store sz29 rfl rfl rfl rfl rfl (Upd.here) rfl ?_
        refine sNext ?_
        refine W.keep (F' := [(9, _), (8, _), (7, _), (6, _), (5, _), (4, _), (2, _)]) ⟨rfl, rfl, rfl, rfl, rfl, rfl, rfl, trivial⟩ ?_
        refine sSeq ?_
        refine W.draw mixed 9 [[], [], [0, 1], [], [3], [], [0, 1, 2, 3, 4, 5], [], [], [0, 1, 2, 3, 4, 5, 6, 7, 8], [0, 1, 2, 3, 4, 5, 6, 7, 8, 9]] (cl_lt (by decide)) ?_
        refine HeadR.start (cl_lt (by decide)) ?_
        refine HeadR.det rfl (fun β hβ => (det_loadA ty29 rfl (List.Mem.tail _ (List.Mem.tail _ (List.Mem.tail _ (List.Mem.head _)))) rfl)) ?_
        refine HeadR.det rfl (fun β hβ => (det_loadA ty29 rfl (List.Mem.head _) rfl)) ?_
        refine HeadR.det rfl (fun β hβ => (det_call en17 rfl (fun w hb ho => Cu.Mul_ok ho.blocks))) ?_
        refine HeadR.det rfl (fun β hβ => (det_fieldAddr fl107_0 rfl)) ?_
        refine HeadR.det rfl (fun β hβ => (det_loadA ty29 rfl (List.Mem.tail _ (List.Mem.tail _ (List.Mem.tail _ (List.Mem.tail _ (List.Mem.tail _ (List.Mem.tail _ (List.Mem.tail _ (List.Mem.head _)))))))) rfl)) ?_
        refine HeadR.det rfl (fun β hβ => (det_loadA ty29 rfl (List.Mem.head _) rfl)) ?_
        refine HeadR.det rfl (fun β hβ => (det_call en17 rfl (fun w hb ho => Cu.Mul_ok ho.blocks))) ?_
        refine HeadR.fresh rfl (fun β hβ => (fr_alloc z29).new) ?_
        refine HeadR.fresh rfl (fun β hβ => (fr_alloc z29).new) ?_
        refine HeadR.done ⟨by kernel_rfl, fun β hβ => ?_⟩
        refine OpsW.norm (F' := [(61, _), (62, _), (63, _), (64, _), (65, _), (66, _), (67, _), (10, .pointer (some ⟨(β 10).1, 0, none⟩)), (11, .pointer (some ⟨(β 11).1, 0, none⟩)), (9, _), (8, _), (7, _), (6, _), (5, _), (4, _), (2, _)]) (H' := [(_, _), (_, _), (_, _), (_, _), (_, _), (_, _), (_, _), (_, _), (_, _), (_, _)]) rfl rfl ?_
        generalize (β 10).1 = b10
        generalize (β 11).1 = b11
        refine OpsW.store sz29 rfl rfl rfl rfl rfl (Upd.here) rfl ?_
        refine OpsW.store sz29 rfl rfl rfl rfl rfl (Upd.there (Upd.here)) rfl ?_
        refine sNext ?_
        refine W.keep (F' := [(10, _), (11, _), (8, _), (7, _), (6, _), (5, _), (4, _), (2, _)]) ⟨rfl, rfl, rfl, rfl, rfl, rfl, rfl, rfl, trivial⟩ ?_
        refine sSeq ?_
        refine W.draw mixed 9 [[], [0], [], [0, 1, 2], [], [0, 1, 2, 3, 4], [], [0, 1, 2, 3, 4, 5, 6], [], [0, 1, 2, 3, 4, 5, 6, 7, 8]] (cl_lt (by decide)) ?_
        refine HeadR.start (cl_lt (by decide)) ?_
        refine HeadR.det rfl (fun β hβ => (det_loadA ty29 rfl (List.Mem.tail _ (List.Mem.tail _ (List.Mem.tail _ (List.Mem.tail _ (List.Mem.head _))))) rfl)) ?_
        refine HeadR.det rfl (fun β hβ => (det_call en16 rfl (fun w hb ho => Cu.Square_ok ho.blocks))) ?_
        refine HeadR.det rfl (fun β hβ => (det_loadA ty29 rfl (List.Mem.head _) rfl)) ?_
        refine HeadR.det rfl (fun β hβ => (det_call en62 rfl (fun w hb ho => Cu.Sub_ok ho.blocks))) ?_
        refine HeadR.det rfl (fun β hβ => (det_loadA ty29 rfl (List.Mem.tail _ (List.Mem.head _)) rfl)) ?_
        refine HeadR.det rfl (fun β hβ => (det_call en62 rfl (fun w hb ho => Cu.Sub_ok ho.blocks))) ?_
        refine HeadR.det rfl (fun β hβ => (det_loadA ty29 rfl (List.Mem.tail _ (List.Mem.head _)) rfl)) ?_
        refine HeadR.det rfl (fun β hβ => (det_call en62 rfl (fun w hb ho => Cu.Sub_ok ho.blocks))) ?_
        refine HeadR.fresh rfl (fun β hβ => (fr_alloc z29).new) ?_
        refine HeadR.done ⟨by kernel_rfl, fun β hβ => ?_⟩
        refine OpsW.norm (F' := [(68, _), (69, _), (70, _), (71, _), (72, _), (73, _), (74, _), (75, _), (12, .pointer (some ⟨(β 12).1, 0, none⟩)), (10, _), (11, _), (8, _), (7, _), (6, _), (5, _), (4, _), (2, _)]) (H' := [(_, _), (_, _), (_, _), (_, _), (_, _), (_, _), (_, _), (_, _), (_, _), (_, _), (_, _)]) rfl rfl ?_
        generalize (β 12).1 = b12
        refine OpsW.store sz29 rfl rfl rfl rfl rfl (Upd.here) rfl ?_
        refine sNext ?_
        refine W.keep (F' := [(12, _), (10, _), (11, _), (8, _), (7, _), (6, _), (5, _), (4, _), (2, _)]) ⟨rfl, rfl, rfl, rfl, rfl, rfl, rfl, rfl, rfl, trivial⟩ ?_
        refine sSeq ?_
        refine W.region ?_
        refine OpsW.det (det_fieldAddr fl107_1 rfl) rfl ?_
        refine OpsW.det (det_loadA ty29 rfl (List.Mem.tail _ (List.Mem.tail _ (List.Mem.tail _ (List.Mem.tail _ (List.Mem.tail _ (List.Mem.tail _ (List.Mem.tail _ (List.Mem.tail _ (List.Mem.tail _ (List.Mem.tail _ (List.Mem.head _))))))))))) rfl) rfl ?_
        refine OpsW.det (det_loadA ty29 rfl (List.Mem.tail _ (List.Mem.head _)) rfl) rfl ?_
        refine OpsW.det (det_call en17 rfl (fun w hb ho => Cu.Mul_ok ho.blocks)) rfl ?_
        refine OpsW.fresh (fr_alloc z29) rfl fun b13 => ?_
        refine OpsW.store sz29 rfl rfl rfl rfl rfl (Upd.here) rfl ?_
        refine sNext ?_
        refine W.keep (F' := [(13, _), (12, _), (11, _), (8, _), (7, _), (6, _), (5, _), (4, _), (2, _)]) ⟨rfl, rfl, rfl, rfl, rfl, rfl, rfl, rfl, rfl, trivial⟩ ?_
        refine sSeq ?_
        refine W.draw mixed 20 [[], [], [], [], [2, 3], [1, 2, 3, 4], [], [1, 2, 3, 4, 5, 6], [], [1, 2, 3, 4, 5, 6, 7, 8], [], [10], [], [1, 2, 3, 4, 5, 6, 7, 8, 9, 10, 11, 12], [1, 2, 3, 4, 5, 6, 7, 8, 9, 10, 11, 12, 13], [], [1, 2, 3, 4, 5, 6, 7, 8, 9, 10, 11, 12, 13, 14, 15], [], [1, 2, 3, 4, 5, 6, 7, 8, 9, 10, 11, 12, 13, 14, 15, 16, 17], [0, 1, 2, 3, 4, 5, 6, 7, 8, 9, 10, 11, 12, 13, 14, 15, 16, 17, 18], [0, 1, 2, 3, 4, 5, 6, 7, 8, 9, 10, 11, 12, 13, 14, 15, 16, 17, 18, 19]] (cl_lt (by decide)) ?_
        refine HeadR.start (cl_lt (by decide)) ?_
        refine HeadR.det rfl (fun β hβ => (det_loadA ty29 rfl (List.Mem.tail _ (List.Mem.head _)) rfl)) ?_
        refine HeadR.det rfl (fun β hβ => (det_loadA ty29 rfl (List.Mem.tail _ (List.Mem.tail _ (List.Mem.tail _ (List.Mem.tail _ (List.Mem.tail _ (List.Mem.tail _ (List.Mem.head _))))))) rfl)) ?_
        refine HeadR.det rfl (fun β hβ => (det_loadA ty29 rfl (List.Mem.tail _ (List.Mem.tail _ (List.Mem.tail _ (List.Mem.head _)))) rfl)) ?_
        refine HeadR.det rfl (fun β hβ => (det_loadA ty29 rfl (List.Mem.tail _ (List.Mem.head _)) rfl)) ?_
        refine HeadR.det rfl (fun β hβ => (det_call en62 rfl (fun w hb ho => Cu.Sub_ok ho.blocks))) ?_
        refine HeadR.det rfl (fun β hβ => (det_call en17 rfl (fun w hb ho => Cu.Mul_ok ho.blocks))) ?_
        refine HeadR.det rfl (fun β hβ => (det_loadA ty29 rfl (List.Mem.head _) rfl)) ?_
        refine HeadR.det rfl (fun β hβ => (det_call en62 rfl (fun w hb ho => Cu.Sub_ok ho.blocks))) ?_
        refine HeadR.det rfl (fun β hβ => (det_loadA ty29 rfl (List.Mem.head _) rfl)) ?_
        refine HeadR.det rfl (fun β hβ => (det_call en62 rfl (fun w hb ho => Cu.Sub_ok ho.blocks))) ?_
        refine HeadR.det rfl (fun β hβ => (det_fieldAddr fl107_2 rfl)) ?_
        refine HeadR.det rfl (fun β hβ => (det_loadA ty29 rfl (List.Mem.tail _ (List.Mem.tail _ (List.Mem.tail _ (List.Mem.tail _ (List.Mem.tail _ (List.Mem.tail _ (List.Mem.tail _ (List.Mem.tail _ (List.Mem.tail _ (List.Mem.tail _ (List.Mem.tail _ (List.Mem.head _)))))))))))) rfl)) ?_
        refine HeadR.det rfl (fun β hβ => (det_loadA ty29 rfl (List.Mem.tail _ (List.Mem.tail _ (List.Mem.tail _ (List.Mem.tail _ (List.Mem.tail _ (List.Mem.tail _ (List.Mem.tail _ (List.Mem.head _)))))))) rfl)) ?_
        refine HeadR.det rfl (fun β hβ => (det_call en18 rfl (fun w hb ho => Cu.Add_ok ho.blocks))) ?_
        refine HeadR.det rfl (fun β hβ => (det_call en16 rfl (fun w hb ho => Cu.Square_ok ho.blocks))) ?_
        refine HeadR.det rfl (fun β hβ => (det_loadA ty29 rfl (List.Mem.tail _ (List.Mem.tail _ (List.Mem.tail _ (List.Mem.tail _ (List.Mem.tail _ (List.Mem.tail _ (List.Mem.tail _ (List.Mem.tail _ (List.Mem.head _))))))))) rfl)) ?_
        refine HeadR.det rfl (fun β hβ => (det_call en62 rfl (fun w hb ho => Cu.Sub_ok ho.blocks))) ?_
        refine HeadR.det rfl (fun β hβ => (det_loadA ty29 rfl (List.Mem.tail _ (List.Mem.tail _ (List.Mem.tail _ (List.Mem.tail _ (List.Mem.tail _ (List.Mem.head _)))))) rfl)) ?_
        refine HeadR.det rfl (fun β hβ => (det_call en62 rfl (fun w hb ho => Cu.Sub_ok ho.blocks))) ?_
        refine HeadR.det rfl (fun β hβ => (det_build rfl bld107)) ?_
        refine HeadR.done ⟨by kernel_rfl, fun β hβ => ?_⟩
        refine OpsW.norm (F' := [(80, _), (81, _), (82, _), (83, _), (84, _), (85, _), (86, _), (87, _), (88, _), (89, _), (90, _), (91, _), (92, _), (93, _), (94, _), (95, _), (96, _), (97, _), (98, _), (99, _), (13, _), (12, _), (11, _), (8, _), (7, _), (6, _), (5, _), (4, _), (2, _)]) (H' := [(_, _), (_, _), (_, _), (_, _), (_, _), (_, _), (_, _), (_, _), (_, _), (_, _), (_, _), (_, _)]) rfl rfl ?_
        refine OpsW.store sz107 rfl rfl rfl rfl rfl (Upd.there (Upd.there (Upd.there (Upd.there (Upd.there (Upd.there (Upd.there (Upd.there (Upd.there (Upd.here)))))))))) rfl ?_
        refine sNext ?_
        refine W.keep (F' := [(4, _)]) ⟨rfl, trivial⟩ ?_
        refine sRet ?_
        exact done1 Tryd.results82 (rv_cellA ty107 rfl (List.Mem.tail _ (List.Mem.tail _ (List.Mem.tail _ (List.Mem.tail _ (List.Mem.tail _ (List.Mem.tail _ (List.Mem.tail _ (List.Mem.tail _ (List.Mem.tail _ (List.Mem.head _)))))))))) rfl) (congrArg encJ (jadd_n hc16 hc20 hc44).symm)

end Go.Cu

/- Words' carries and borrows, in closed form. Conditions: none; plain arithmetic. -/
namespace Go.Cu
open Go Go.Vm
def car (i m k : Nat) : Nat := (m % 18446744073709551616 ^ i + k % 18446744073709551616 ^ i) / 18446744073709551616 ^ i
def bor (i m k : Nat) : Nat := if m % 18446744073709551616 ^ i < k % 18446744073709551616 ^ i then 1 else 0
theorem car_0 (m k : Nat) : car 0 m k = 0 := by simp [car, Nat.mod_one]
theorem bor_0 (m k : Nat) : bor 0 m k = 0 := by simp [bor, Nat.mod_one]
theorem bor_le (i m k : Nat) : bor i m k ≤ 1 := by unfold bor; split <;> omega
theorem car_le (i m k : Nat) : car i m k ≤ 1 := by
  unfold car
  have h0 : 0 < 18446744073709551616 ^ i := Nat.pow_pos (by decide)
  have h1 := Nat.mod_lt m h0
  have h2 := Nat.mod_lt k h0
  have := Nat.div_lt_of_lt_mul (show m % 18446744073709551616 ^ i + k % 18446744073709551616 ^ i < 18446744073709551616 ^ i * 2 by omega)
  omega
theorem mod_succ (m i : Nat) : m % 18446744073709551616 ^ (i + 1) = m % 18446744073709551616 ^ i + 18446744073709551616 ^ i * lim m i := by
  rw [Nat.pow_succ, Nat.mod_mul]; rfl
theorem add_step (i m k : Nat) : lim m i + lim k i + car i m k = lim (m + k) i + 18446744073709551616 * car (i + 1) m k := by
  have h0 : 0 < 18446744073709551616 ^ i := Nat.pow_pos (by decide)
  have h1 : (m + k) / 18446744073709551616 ^ i = m / 18446744073709551616 ^ i + k / 18446744073709551616 ^ i + car i m k := by
    unfold car
    have e1 := Nat.div_add_mod m (18446744073709551616 ^ i)
    have e2 := Nat.div_add_mod k (18446744073709551616 ^ i)
    have : m + k = (m % 18446744073709551616 ^ i + k % 18446744073709551616 ^ i) + 18446744073709551616 ^ i * (m / 18446744073709551616 ^ i + k / 18446744073709551616 ^ i) := by rw [Nat.mul_add]; omega
    rw [this, Nat.add_mul_div_left _ _ h0]; omega
  have h2 : car (i + 1) m k = (lim m i + lim k i + car i m k) / 18446744073709551616 := by
    conv => lhs; unfold car
    rw [mod_succ, mod_succ, Nat.pow_succ, ← Nat.div_div_eq_div_mul,
      show m % 18446744073709551616 ^ i + 18446744073709551616 ^ i * lim m i + (k % 18446744073709551616 ^ i + 18446744073709551616 ^ i * lim k i) = (m % 18446744073709551616 ^ i + k % 18446744073709551616 ^ i) + 18446744073709551616 ^ i * (lim m i + lim k i) by rw [Nat.mul_add]; omega,
      Nat.add_mul_div_left _ _ h0]
    unfold car
    rw [Nat.add_comm]
  have h3 : lim (m + k) i = (lim m i + lim k i + car i m k) % 18446744073709551616 := by
    unfold lim
    rw [h1]; omega
  rw [h2, h3]; omega
theorem lim_big {m i n : Nat} (h : i < n) : lim (m + 18446744073709551616 ^ n) i = lim m i := by
  unfold lim
  obtain ⟨k, rfl⟩ : ∃ k, n = i + 1 + k := ⟨n - i - 1, by omega⟩
  have h0 : 0 < 18446744073709551616 ^ i := Nat.pow_pos (by decide)
  rw [Nat.pow_add, Nat.pow_succ, Nat.mul_assoc, Nat.add_mul_div_left _ _ h0, Nat.add_mul_mod_self_left]
theorem sub_step {i n m k : Nat} (h : i < n) (hk : k ≤ m + 18446744073709551616 ^ n) (hm : m < 18446744073709551616 ^ n) :
    lim (m + 18446744073709551616 ^ n - k) i + lim k i + bor i m k = lim m i + 18446744073709551616 * bor (i + 1) m k := by
  have key : ∀ j, j ≤ n → bor j m k = car j (m + 18446744073709551616 ^ n - k) k := fun j hj => by
    have h0 : 0 < 18446744073709551616 ^ j := Nat.pow_pos (by decide)
    generalize hD : m + 18446744073709551616 ^ n - k = D
    have e : D + k = m + 18446744073709551616 ^ n := by omega
    have e2 : (D % 18446744073709551616 ^ j + k % 18446744073709551616 ^ j) % 18446744073709551616 ^ j = m % 18446744073709551616 ^ j := by
      rw [← Nat.add_mod, e]
      obtain ⟨c, rfl⟩ : ∃ c, n = j + c := ⟨n - j, by omega⟩
      rw [Nat.pow_add, Nat.add_mul_mod_self_left]
    have e3 := Nat.div_add_mod (D % 18446744073709551616 ^ j + k % 18446744073709551616 ^ j) (18446744073709551616 ^ j)
    rw [e2] at e3
    have hc := car_le j D k
    have hd := Nat.mod_lt D h0
    unfold bor
    unfold car at hc ⊢
    generalize (D % 18446744073709551616 ^ j + k % 18446744073709551616 ^ j) / 18446744073709551616 ^ j = c at *
    have : c = 0 ∨ c = 1 := by omega
    rcases this with rfl | rfl
    · rw [if_neg (by omega)]
    · rw [if_pos (by omega)]
  rw [key i (by omega), key (i + 1) (by omega), add_step, Nat.sub_add_cancel hk, lim_big h]
def sel (i s m j : Nat) : Nat := if j < i then lim s j else lim m j
theorem sel_0 {s m j : Nat} : sel 0 s m j = lim m j := if_neg (by omega)
theorem sel_at {i s m : Nat} : sel i s m i = lim m i := if_neg (by omega)
theorem sel_new {i s m : Nat} : sel (i + 1) s m i = lim s i := if_pos (by omega)
theorem sel_old {i s m j : Nat} (h : j ≠ i) : sel (i + 1) s m j = sel i s m j := by
  unfold sel
  by_cases hj : j < i
  · rw [if_pos hj, if_pos (by omega)]
  · rw [if_neg hj, if_neg (by omega)]
abbrev w4 (f : Nat → Nat) : List Value := [u64 (f 0), u64 (f 1), u64 (f 2), u64 (f 3)]
theorem at4 {f : Nat → Nat} {i k : Nat} (h : i < 4) (hk : k = i) : (w4 f)[k]? = some (u64 (f i)) := by
  subst hk
  have : k = 0 ∨ k = 1 ∨ k = 2 ∨ k = 3 := by omega
  rcases this with rfl | rfl | rfl | rfl <;> rfl
theorem put4 {f f' : Nat → Nat} {v i k : Nat} (h : i < 4) (hk : k = i) (hv : f' i = v) (hf : ∀ j, j ≠ i → f' j = f j) : splice k [u64 v] (w4 f) = some (w4 f') := by
  subst hk
  have : k = 0 ∨ k = 1 ∨ k = 2 ∨ k = 3 := by omega
  rcases this with rfl | rfl | rfl | rfl
  · show some [u64 v, u64 (f 1), u64 (f 2), u64 (f 3)] = some [u64 (f' 0), u64 (f' 1), u64 (f' 2), u64 (f' 3)]; rw [hv, hf 1 (by decide), hf 2 (by decide), hf 3 (by decide)]
  · show some [u64 (f 0), u64 v, u64 (f 2), u64 (f 3)] = some [u64 (f' 0), u64 (f' 1), u64 (f' 2), u64 (f' 3)]; rw [hv, hf 0 (by decide), hf 2 (by decide), hf 3 (by decide)]
  · show some [u64 (f 0), u64 (f 1), u64 v, u64 (f 3)] = some [u64 (f' 0), u64 (f' 1), u64 (f' 2), u64 (f' 3)]; rw [hv, hf 0 (by decide), hf 1 (by decide), hf 3 (by decide)]
  · show some [u64 (f 0), u64 (f 1), u64 (f 2), u64 v] = some [u64 (f' 0), u64 (f' 1), u64 (f' 2), u64 (f' 3)]; rw [hv, hf 0 (by decide), hf 1 (by decide), hf 2 (by decide)]
theorem w4_congr {f g : Nat → Nat} (h : ∀ j, j < 4 → f j = g j) : w4 f = w4 g := by
  unfold w4; rw [h 0 (by decide), h 1 (by decide), h 2 (by decide), h 3 (by decide)]
theorem add_pair (i m k : Nat) : Value.tuple #[u64 ((lim m i + lim k i + car i m k) % 18446744073709551616), u64 ((lim m i + lim k i + car i m k) / 18446744073709551616)] = .tuple #[u64 (lim (m + k) i), u64 (car (i + 1) m k)] := by
  have h := add_step i m k
  have h1 := lim_lt (m + k) i
  rw [show (lim m i + lim k i + car i m k) % 18446744073709551616 = lim (m + k) i by omega, show (lim m i + lim k i + car i m k) / 18446744073709551616 = car (i + 1) m k by omega]
theorem sub_pair {i n m k : Nat} (h : i < n) (hk : k ≤ m + 18446744073709551616 ^ n) (hm : m < 18446744073709551616 ^ n) :
    Value.tuple #[u64 ((lim m i + 18446744073709551616 - lim k i - bor i m k) % 18446744073709551616), u64 (if lim m i < lim k i + bor i m k then 1 else 0)] = .tuple #[u64 (lim (m + 18446744073709551616 ^ n - k) i), u64 (bor (i + 1) m k)] := by
  have h := sub_step h hk hm
  have h1 := lim_lt (m + 18446744073709551616 ^ n - k) i
  have h2 := bor_le (i + 1) m k
  have h3 := bor_le i m k
  have h4 := lim_lt k i
  have h5 := lim_lt m i
  generalize lim (m + 18446744073709551616 ^ n - k) i = d at *
  generalize bor (i + 1) m k = b' at *
  rw [show (lim m i + 18446744073709551616 - lim k i - bor i m k) % 18446744073709551616 = d by omega, show (if lim m i < lim k i + bor i m k then 1 else 0) = b' by split <;> omega]
theorem R4_pow : 18446744073709551616 ^ 4 = R4 := by decide
end Go.Cu

/- The scalars: sums and differences: the walks. Conditions: numbers below the order. -/
namespace Go.Cu
open Go Go.Vm Go.RowKit Go.Proofs 
attribute [local irreducible] W OpsW Det Fresh New Writes Vm.Pure Makes Changes ExternTo BuildTo ZeroTo FieldTo IndexTo BinTo SliceTo Vm.Enters
set_option linter.unusedVariables false
set_option linter.unusedSimpArgs false
variable {T : Nat → TypeId × Nat × Nat}

theorem rlo_mod {v : Nat} (h : v < rr) : v % rr = v := Nat.mod_eq_of_lt h
theorem rhi_mod {v : Nat} (h : rr ≤ v) (h2 : v < 2 * rr) : v % rr = v - rr := by rw [Nat.mod_eq_sub_mod h, Nat.mod_eq_of_lt (by omega)]
theorem enc4_congr {m k : Nat} (h : ∀ j, j < 4 → lim m j = lim k j) : enc4 m = enc4 k := by
  unfold enc4; rw [h 0 (by decide), h 1 (by decide), h 2 (by decide), h 3 (by decide)]
theorem sub_w4 {f g : Nat → Nat} {n t : Nat} {r : Hp} (h : ∀ j, j < 4 → f j = g j) : List.Sublist ((n, blk (w4 f) t) :: r) ((n, blk (w4 g) t) :: r) := by rw [w4_congr h]; exact List.Sublist.refl _
theorem bor_4 {m k : Nat} (hm : m < R4) (hk : k < R4) : bor 4 m k = if m < k then 1 else 0 := by
  unfold bor; rw [R4_pow, Nat.mod_eq_of_lt hm, Nat.mod_eq_of_lt hk]
theorem car_4 {m k : Nat} (hm : m < rr) (hk : k < rr) : car 4 m k = 0 := by
  have h1 : m < R4 := Nat.lt_trans hm (by decide)
  have h2 : k < R4 := Nat.lt_trans hk (by decide)
  unfold car; rw [R4_pow, Nat.mod_eq_of_lt h1, Nat.mod_eq_of_lt h2]
  exact Nat.div_eq_of_lt (by unfold rr at hm hk; unfold R4; omega)
theorem z4_w4 : ([.int .u64 0, .int .u64 0, .int .u64 0, .int .u64 0] : List Value) = w4 (sel 0 0 0) := by kernel_rfl
theorem big4 {m j : Nat} (h : j < 4) : lim (m + R4) j = lim m j := by rw [← R4_pow]; exact lim_big h
theorem red_lo {V : Nat} (h : bor 4 V rr = 1) (hV : V < 2 * rr) : V % rr = V := by
  rw [bor_4 (Nat.lt_trans hV (by decide)) (by decide)] at h
  refine rlo_mod ?_
  by_cases hh : V < rr
  · exact hh
  · rw [if_neg hh] at h; cases h
theorem red_hi {V D : Nat} (hD : D + rr = V + R4) (h : bor 4 V rr ≠ 1) (hV : V < 2 * rr) : enc4 D = enc4 (V % rr) := by
  rw [bor_4 (Nat.lt_trans hV (by decide)) (by decide)] at h
  have hh : rr ≤ V := by
    rcases Nat.lt_or_ge V rr with hl | hl
    · rw [if_pos hl] at h; exact absurd rfl h
    · exact hl
  rw [rhi_mod hh hV, show D = (V - rr) + R4 by omega]
  exact enc4_congr fun j hj => big4 hj
theorem sub_pair4 {i m k D : Nat} (h : i < 4) (hD : D + k = m + R4) (hm : m < R4) :
    Value.tuple #[u64 ((lim m i + 18446744073709551616 - lim k i - bor i m k) % 18446744073709551616), u64 (if lim m i < lim k i + bor i m k then 1 else 0)] = .tuple #[u64 (lim D i), u64 (bor (i + 1) m k)] := by
  have h1 := sub_pair (i := i) (n := 4) (m := m) (k := k) h (by rw [R4_pow]; omega) (by rw [R4_pow]; exact hm)
  rwa [R4_pow, show m + R4 - k = D by omega] at h1
theorem add_pairE {m k S : Nat} (hS : S = m + k) (i : Nat) : Value.tuple #[u64 ((lim m i + lim k i + car i m k) % 18446744073709551616), u64 ((lim m i + lim k i + car i m k) / 18446744073709551616)] = .tuple #[u64 (lim S i), u64 (car (i + 1) m k)] := by
  rw [hS]; exact add_pair i m k
theorem sel_full {s m : Nat} : ∀ j, j < 4 → sel 4 s m j = lim s j := fun j hj => if_pos hj

theorem rsub_hi {m k D : Nat} (hD : D + k = m + R4) (h : bor 4 m k ≠ 1) (hm : m < rr) (hk : k < rr) : enc4 D = enc4 ((m + (rr - k)) % rr) := by
  rw [bor_4 (Nat.lt_trans hm (by decide)) (Nat.lt_trans hk (by decide))] at h
  have hh : k ≤ m := by
    rcases Nat.lt_or_ge m k with hl | hl
    · rw [if_pos hl] at h; exact absurd rfl h
    · exact hl
  rw [rhi_mod (by omega) (by omega), show D = (m + (rr - k) - rr) + R4 by omega]
  exact enc4_congr fun j hj => big4 hj
theorem rsub_lo {m k D E : Nat} (hD : D + k = m + R4) (hE : E = D + rr) (h : bor 4 m k = 1) (hm : m < rr) (hk : k < rr) : enc4 E = enc4 ((m + (rr - k)) % rr) := by
  rw [bor_4 (Nat.lt_trans hm (by decide)) (Nat.lt_trans hk (by decide))] at h
  have hh : m < k := by
    rcases Nat.lt_or_ge m k with hl | hl
    · exact hl
    · rw [if_neg (by omega)] at h; cases h
  have h4 : rr < R4 := by decide
  rw [rlo_mod (by omega), show E = (m + (rr - k)) + R4 by omega]
  exact enc4_congr fun j hj => big4 hj

theorem bld67 {v0 v1 v2 v3 : Int} : BuildTo Tryd.prog 67 [(0, (.agg #[.int .u64 v0, .int .u64 v1, .int .u64 v2, .int .u64 v3]))] (.agg #[.int .u64 v0, .int .u64 v1, .int .u64 v2, .int .u64 v3]) := BuildTo.of fun _ => by kernel_rfl
theorem en90 : Vm.Enters Tryd.prog 90 := Vm.Enters.of fun _ _ => by kernel_rfl
theorem fl67_0 : TyF Tryd.prog 67 0 0 4 := ⟨⟨65, by kernel_rfl, by kernel_rfl⟩, by decide⟩
theorem sz65 : sizeIn Tryd.prog 65 = some 4 := by kernel_rfl
theorem sz67 : sizeIn Tryd.prog 67 = some 4 := by kernel_rfl
theorem ty65 : TyA Tryd.prog 65 4 := ⟨by kernel_rfl, by kernel_rfl⟩
theorem ty67 : TyA Tryd.prog 67 4 := ⟨by kernel_rfl, by kernel_rfl⟩
theorem u65 : Tryd.prog.underlying 65 = some (.array 4 26) := by kernel_rfl
theorem z65 : TyZ Tryd.prog 65 (.agg #[.int .u64 0, .int .u64 0, .int .u64 0, .int .u64 0]) [.int .u64 0, .int .u64 0, .int .u64 0, .int .u64 0] := ⟨fun _ => by kernel_rfl, by kernel_rfl⟩
theorem z67 : TyZ Tryd.prog 67 (.agg #[.int .u64 0, .int .u64 0, .int .u64 0, .int .u64 0]) [.int .u64 0, .int .u64 0, .int .u64 0, .int .u64 0] := ⟨fun _ => by kernel_rfl, by kernel_rfl⟩
theorem rreduce_w_ok {V D : Nat} (hD : D + rr = V + R4) (hV : V < 2 * rr) {w : World} (hG : Blocks (GH T) w)  : Vm.Pure Tryd.prog 90 #[.agg #[u64 (lim (V) 0), u64 (lim (V) 1), u64 (lim (V) 2), u64 (lim (V) 3)], u64 0] w (enc4 (V % rr)) := by
  refine pure_of_W (n := 33) (args := [.agg #[u64 (lim (V) 0), u64 (lim (V) 1), u64 (lim (V) 2), u64 (lim (V) 3)], u64 0]) Tryd.func90 rfl Tryd.ntmps90 (Nat.le_of_ble_eq_true rfl) hG ?_
  refine sStart ?_
  refine sSeq ?_
  refine W.region ?_
  refine OpsW.fresh (fr_box rfl rfl) rfl fun b2 => ?_
  refine OpsW.fresh (fr_alloc z65) rfl fun b4 => ?_
  refine sNext ?_
  refine W.keep (F' := [(4, _), (2, _), (1, _)]) ⟨rfl, rfl, rfl, trivial⟩ ?_
  refine sSeq ?_
  refine W.region ?_
  refine OpsW.fresh (fr_alloc z65) rfl fun b5 => ?_
  refine sNext ?_
  refine sSeq ?_
  refine W.region ?_
  refine OpsW.det (det_assign rfl) rfl ?_
  refine sNext ?_
  refine sSeq ?_
  refine sSeq ?_
  refine W.region ?_
  refine OpsW.det (det_move rfl) rfl ?_
  refine sNext ?_
  refine sBlock ?_
  refine sLoop (σ := Nat) (fun i => [(8, .int .i64 (i : Nat)), (6, u64 (bor i V rr)), (5, .pointer (some ⟨b5, 0, none⟩)), (4, .pointer (some ⟨b4, 0, none⟩)), (2, .pointer (some ⟨b2, 0, none⟩)), (1, u64 0)]) (fun i => [(b5, blk (w4 (sel i D 0)) 65), (b4, blk [.int .u64 0, .int .u64 0, .int .u64 0, .int .u64 0] 65), (b2, blk (w4 (lim V)) 65)]) (fun i => i ≤ 4) (fun i => 4 - i) 0 (by decide) ⟨rfl, by rw [bor_0]; rfl, rfl, rfl, rfl, rfl, trivial⟩ (List.Sublist.refl _) ?_
  intro i hi
  refine sSeq ?_
  refine W.region ?_
  refine OpsW.det (det_lss rfl rfl) rfl ?_
  refine sNext ?_
  refine sSeq ?_
  refine W.cond rfl (fun hc9 => ?_) (fun hc9 => ?_)
  · skip
    have hlt : i < 4 := by have h := hc9; simp only [decide_eq_true_eq] at h; omega
    refine sSkip ?_
    refine sSeq ?_
    refine sBlock ?_
    refine sSeq ?_
    refine W.region ?_
    refine OpsW.det (det_move rfl) rfl ?_
    refine OpsW.det (det_assign rfl) rfl ?_
    refine sNext ?_
    refine W.keep (F' := [(7, _), (8, _), (6, _), (5, _), (4, _), (2, _), (1, _)]) ⟨rfl, rfl, rfl, rfl, rfl, rfl, rfl, trivial⟩ ?_
    refine W.draw mixed 13 [[], [], [1], [1, 2], [], [4], [4, 5], [], [1, 2, 3, 4, 5, 6, 7], [1, 2, 3, 4, 5, 6, 7, 8], [1, 2, 3, 4, 5, 6, 7, 8, 9], [1, 2, 3, 4, 5, 6, 7, 8, 9], [0, 1, 2, 3, 4, 5, 6, 7, 8, 9, 10], [0, 1, 2, 3, 4, 5, 6, 7, 8, 9, 10, 12], [0, 1, 2, 3, 4, 5, 6, 7, 8, 9, 10, 11, 12, 13]] (cl_lt (by decide)) ?_
    refine HeadR.start (cl_lt (by decide)) ?_
    refine HeadR.det rfl (fun β hβ => (det_move rfl)) ?_
    refine HeadR.det rfl (fun β hβ => (det_move rfl)) ?_
    refine HeadR.det rfl (fun β hβ => (det_indexAddr_arr u65 sz26 rfl rfl ⟨by omega, by omega⟩)) ?_
    refine HeadR.det rfl (fun β hβ => (det_loadC ty26 rfl (List.Mem.tail _ (List.Mem.tail _ (List.Mem.head _))) (at4 (f := lim V) hlt (by omega)))) ?_
    refine HeadR.det rfl (fun β hβ => (det_move rfl)) ?_
    refine HeadR.det rfl (fun β hβ => (det_indexAddr_arr u65 sz26 rfl rfl ⟨by omega, by omega⟩)) ?_
    refine HeadR.det rfl (fun β hβ => (det_loadC_ro ty26 rfl (List.Mem.tail _ (List.Mem.tail _ (List.Mem.tail _ (List.Mem.head _)))) (at4 (f := lim rr) hlt (by omega)))) ?_
    refine HeadR.det rfl (fun β hβ => (det_move rfl)) ?_
    refine HeadR.det rfl (fun β hβ => ((det_extern rfl (run_Sub64 (lim V i) (lim rr i) (bor i V rr) (bor_le _ _ _))).to (sub_pair4 hlt hD (Nat.lt_trans hV (by decide))))) ?_
    refine HeadR.det rfl (fun β hβ => (det_move rfl)) ?_
    refine HeadR.det rfl (fun β hβ => (det_extract rfl rfl)) ?_
    refine HeadR.flt rfl (fun _ _ _ _ hs => flt_extract hs rfl rfl) ?_
    refine HeadR.det rfl (fun β hβ => (det_indexAddr_arr u65 sz26 rfl rfl ⟨by omega, by omega⟩)) ?_
    refine HeadR.done ⟨by kernel_rfl, fun β hβ => ?_⟩
    refine OpsW.norm (F' := [(12, _), (13, _), (14, _), (15, _), (16, _), (17, _), (18, _), (19, _), (20, _), (11, _), (21, _), (22, _), (23, _), (7, _), (8, _), (6, _), (5, _), (4, _), (2, _), (1, _)]) (H' := [(_, _), (_, _), (_, _)]) rfl rfl ?_
    refine OpsW.store sz26 rfl rfl rfl rfl rfl (Upd.here) (put4 (f' := sel (i + 1) D 0) hlt (by omega) sel_new fun j hj => sel_old hj) ?_
    refine OpsW.det (det_assign rfl) rfl ?_
    refine sLast ?_
    refine bNext ?_
    refine W.keep (F' := [(6, _), (8, _), (5, _), (4, _), (2, _), (1, _)]) ⟨rfl, rfl, rfl, rfl, rfl, rfl, trivial⟩ ?_
    refine W.region ?_
    refine OpsW.det (det_addN (b := 1) rfl rfl (idx_ok hlt (by decide))) rfl ?_
    refine OpsW.det (det_move rfl) rfl ?_
    refine sLast ?_
    exact rEnd (i + 1) hlt ⟨rfl, rfl, rfl, rfl, rfl, rfl, trivial⟩ (List.Sublist.refl _) (step_lt hlt)
  · skip
    have hi4 : i = 4 := by have h := hc9; simp only [decide_eq_false_iff_not] at h; omega
    subst hi4
    refine sExit ?_
    refine xLoop ?_
    refine xHere ?_
    refine W.keep (F' := [(6, _), (5, _), (4, _), (2, _), (1, _)]) ⟨rfl, rfl, rfl, rfl, rfl, trivial⟩ ?_
    refine sSeq ?_
    refine sSeq ?_
    refine W.region ?_
    refine OpsW.det (det_move rfl) rfl ?_
    refine OpsW.det (det_eql rfl rfl) rfl ?_
    refine OpsW.det (det_move rfl) rfl ?_
    refine OpsW.guard_yes rfl rfl ?_
    refine OpsW.det (det_move rfl) rfl ?_
    refine OpsW.guard_yes rfl rfl ?_
    refine OpsW.det (det_eql rfl rfl) rfl ?_
    refine OpsW.det (det_pick rfl rfl) rfl ?_
    refine sNext ?_
    refine W.keep (F' := [(30, _), (5, _), (4, _), (2, _)]) ⟨rfl, rfl, rfl, rfl, trivial⟩ ?_
    refine W.cond rfl (fun hc30 => ?_) (fun hc30 => ?_)
    · skip
      have hb : bor 4 V rr = 1 := by have h := hc30; simp at h; omega
      refine sSeq ?_
      refine W.region ?_
      refine OpsW.det (det_loadA ty65 rfl (List.Mem.tail _ (List.Mem.tail _ (List.Mem.head _))) rfl) rfl ?_
      refine OpsW.store sz65 rfl rfl rfl rfl rfl (Upd.there (Upd.here)) rfl ?_
      refine sNext ?_
      refine W.keep (F' := [(4, _)]) ⟨rfl, trivial⟩ ?_
      refine sRet ?_
      exact done1 Tryd.results90 (rv_cellA ty65 rfl (List.Mem.tail _ (List.Mem.head _)) rfl) (congrArg enc4 (red_lo hb hV).symm)
    · skip
      have hb : bor 4 V rr ≠ 1 := by have h := hc30; simp at h; omega
      refine sSkip ?_
      refine sSeq ?_
      refine W.region ?_
      refine OpsW.det (det_loadA ty65 rfl (List.Mem.head _) rfl) rfl ?_
      refine OpsW.store sz65 rfl rfl rfl rfl rfl (Upd.there (Upd.here)) rfl ?_
      refine sNext ?_
      refine W.keep (F' := [(4, _)]) ⟨rfl, trivial⟩ ?_
      refine sRet ?_
      exact done1 Tryd.results90 (rv_cellA ty65 rfl (List.Mem.tail _ (List.Mem.head _)) rfl) ((congrArg (fun l : List Value => Value.agg l.toArray) (w4_congr sel_full)).trans (red_hi hD hb hV))
theorem rreduce_ok {V : Nat} {w : World} (hV : V < 2 * rr) (hG : Blocks (GH T) w) : Vm.Pure Tryd.prog 90 #[.agg #[u64 (lim (V) 0), u64 (lim (V) 1), u64 (lim (V) 2), u64 (lim (V) 3)], u64 0] w (enc4 (V % rr)) := rreduce_w_ok (D := V + R4 - rr) (Nat.sub_add_cancel (Nat.le_trans (by decide) (Nat.le_add_left R4 V))) hV hG
theorem RAdd_w_ok {m k S : Nat} (hS : S = m + k) (hm : m < rr) (hk : k < rr) {w : World} (hG : Blocks (GH T) w)  : Vm.Pure Tryd.prog 74 #[.agg #[u64 (lim (m) 0), u64 (lim (m) 1), u64 (lim (m) 2), u64 (lim (m) 3)], .agg #[u64 (lim (k) 0), u64 (lim (k) 1), u64 (lim (k) 2), u64 (lim (k) 3)]] w (enc4 (S % rr)) := by
  refine pure_of_W (n := 32) (args := [.agg #[u64 (lim (m) 0), u64 (lim (m) 1), u64 (lim (m) 2), u64 (lim (m) 3)], .agg #[u64 (lim (k) 0), u64 (lim (k) 1), u64 (lim (k) 2), u64 (lim (k) 3)]]) Tryd.func74 rfl Tryd.ntmps74 (Nat.le_of_ble_eq_true rfl) hG ?_
  refine sStart ?_
  refine sSeq ?_
  refine W.region ?_
  refine OpsW.fresh (fr_box rfl rfl) rfl fun b2 => ?_
  refine OpsW.fresh (fr_box rfl rfl) rfl fun b3 => ?_
  refine OpsW.fresh (fr_alloc z67) rfl fun b4 => ?_
  refine sNext ?_
  refine W.keep (F' := [(4, _), (3, _), (2, _)]) ⟨rfl, rfl, rfl, trivial⟩ ?_
  refine sSeq ?_
  refine W.region ?_
  refine OpsW.det (det_assign rfl) rfl ?_
  refine sNext ?_
  refine sSeq ?_
  refine sSeq ?_
  refine W.region ?_
  refine OpsW.det (det_move rfl) rfl ?_
  refine sNext ?_
  refine sBlock ?_
  refine sLoop (σ := Nat) (fun i => [(7, .int .i64 (i : Nat)), (5, u64 (car i m k)), (4, .pointer (some ⟨b4, 0, none⟩)), (3, .pointer (some ⟨b3, 0, none⟩)), (2, .pointer (some ⟨b2, 0, none⟩))]) (fun i => [(b4, blk [.int .u64 0, .int .u64 0, .int .u64 0, .int .u64 0] 67), (b3, blk (w4 (lim k)) 67), (b2, blk (w4 (sel i S m)) 67)]) (fun i => i ≤ 4) (fun i => 4 - i) 0 (by decide) ⟨rfl, by rw [car_0]; rfl, rfl, rfl, rfl, trivial⟩ (List.Sublist.refl _) ?_
  intro i hi
  refine sSeq ?_
  refine W.region ?_
  refine OpsW.det (det_lss rfl rfl) rfl ?_
  refine sNext ?_
  refine sSeq ?_
  refine W.cond rfl (fun hc8 => ?_) (fun hc8 => ?_)
  · skip
    have hlt : i < 4 := by have h := hc8; simp only [decide_eq_true_eq] at h; omega
    refine sSkip ?_
    refine sSeq ?_
    refine sBlock ?_
    refine sSeq ?_
    refine W.region ?_
    refine OpsW.det (det_move rfl) rfl ?_
    refine OpsW.det (det_assign rfl) rfl ?_
    refine sNext ?_
    refine W.keep (F' := [(6, _), (7, _), (5, _), (4, _), (3, _), (2, _)]) ⟨rfl, rfl, rfl, rfl, rfl, rfl, trivial⟩ ?_
    refine W.draw mixed 16 [[], [], [], [1, 2], [1, 2, 3], [], [], [5, 6], [5, 6, 7], [], [1, 2, 3, 4, 5, 6, 7, 8, 9], [1, 2, 3, 4, 5, 6, 7, 8, 9, 10], [1, 2, 3, 4, 5, 6, 7, 8, 9, 10, 11], [1, 2, 3, 4, 5, 6, 7, 8, 9, 10, 11], [], [0, 1, 2, 3, 4, 5, 6, 7, 8, 9, 10, 11, 12, 14], [0, 1, 2, 3, 4, 5, 6, 7, 8, 9, 10, 11, 12, 14, 15], [0, 1, 2, 3, 4, 5, 6, 7, 8, 9, 10, 11, 12, 13, 14, 15, 16]] (cl_lt (by decide)) ?_
    refine HeadR.start (cl_lt (by decide)) ?_
    refine HeadR.det rfl (fun β hβ => (det_move rfl)) ?_
    refine HeadR.det rfl (fun β hβ => (det_move rfl)) ?_
    refine HeadR.det rfl (fun β hβ => (det_fieldAddr fl67_0 rfl)) ?_
    refine HeadR.det rfl (fun β hβ => (det_indexAddr_arr u65 sz26 rfl rfl ⟨by omega, by omega⟩)) ?_
    refine HeadR.det rfl (fun β hβ => ((det_loadC ty26 rfl (List.Mem.tail _ (List.Mem.tail _ (List.Mem.head _))) (at4 (f := sel i S m) hlt (by omega))).to (congrArg u64 sel_at))) ?_
    refine HeadR.det rfl (fun β hβ => (det_move rfl)) ?_
    refine HeadR.det rfl (fun β hβ => (det_fieldAddr fl67_0 rfl)) ?_
    refine HeadR.det rfl (fun β hβ => (det_indexAddr_arr u65 sz26 rfl rfl ⟨by omega, by omega⟩)) ?_
    refine HeadR.det rfl (fun β hβ => (det_loadC ty26 rfl (List.Mem.tail _ (List.Mem.head _)) (at4 (f := lim k) hlt (by omega)))) ?_
    refine HeadR.det rfl (fun β hβ => (det_move rfl)) ?_
    refine HeadR.det rfl (fun β hβ => ((det_extern rfl (run_Add64 (lim m i) (lim k i) (car i m k) (car_le _ _ _))).to (add_pairE hS i))) ?_
    refine HeadR.det rfl (fun β hβ => (det_move rfl)) ?_
    refine HeadR.det rfl (fun β hβ => (det_extract rfl rfl)) ?_
    refine HeadR.flt rfl (fun _ _ _ _ hs => flt_extract hs rfl rfl) ?_
    refine HeadR.det rfl (fun β hβ => (det_fieldAddr fl67_0 rfl)) ?_
    refine HeadR.det rfl (fun β hβ => (det_indexAddr_arr u65 sz26 rfl rfl ⟨by omega, by omega⟩)) ?_
    refine HeadR.done ⟨by kernel_rfl, fun β hβ => ?_⟩
    refine OpsW.norm (F' := [(11, _), (12, _), (13, _), (14, _), (15, _), (16, _), (17, _), (18, _), (19, _), (20, _), (21, _), (10, _), (22, _), (23, _), (24, _), (25, _), (6, _), (7, _), (5, _), (4, _), (3, _), (2, _)]) (H' := [(_, _), (_, _), (_, _)]) rfl rfl ?_
    refine OpsW.store sz26 rfl rfl rfl rfl rfl (Upd.there (Upd.there (Upd.here))) (put4 (f' := sel (i + 1) S m) hlt (by omega) sel_new fun j hj => sel_old hj) ?_
    refine OpsW.det (det_assign rfl) rfl ?_
    refine sLast ?_
    refine bNext ?_
    refine W.keep (F' := [(5, _), (7, _), (4, _), (3, _), (2, _)]) ⟨rfl, rfl, rfl, rfl, rfl, trivial⟩ ?_
    refine W.region ?_
    refine OpsW.det (det_addN (b := 1) rfl rfl (idx_ok hlt (by decide))) rfl ?_
    refine OpsW.det (det_move rfl) rfl ?_
    refine sLast ?_
    exact rEnd (i + 1) hlt ⟨rfl, rfl, rfl, rfl, rfl, trivial⟩ (List.Sublist.refl _) (step_lt hlt)
  · skip
    have hi4 : i = 4 := by have h := hc8; simp only [decide_eq_false_iff_not] at h; omega
    subst hi4
    refine sExit ?_
    refine xLoop ?_
    refine xHere ?_
    refine W.keep (F' := [(5, _), (4, _), (2, _)]) ⟨rfl, rfl, rfl, trivial⟩ ?_
    refine sSeq ?_
    refine W.norm (F' := [(5, u64 0), (4, _), (2, _)]) (H' := [(_, _), (_, _), (b2, blk (w4 (lim S)) 67)]) (by rw [car_4 hm hk]) (by rw [w4_congr sel_full]) ?_
    refine W.region ?_
    refine OpsW.det (det_fieldAddr fl67_0 rfl) rfl ?_
    refine OpsW.det (det_loadA ty65 rfl (List.Mem.tail _ (List.Mem.tail _ (List.Mem.head _))) rfl) rfl ?_
    refine OpsW.det (det_move rfl) rfl ?_
    refine OpsW.det (det_call en90 rfl (fun w hb ho => rreduce_ok (V := S) (by omega) ho.blocks)) rfl ?_
    refine OpsW.det (det_build rfl bld67) rfl ?_
    refine OpsW.store sz67 rfl rfl rfl rfl rfl (Upd.here) rfl ?_
    refine sNext ?_
    refine W.keep (F' := [(4, _)]) ⟨rfl, trivial⟩ ?_
    refine sRet ?_
    exact done1 Tryd.results74 (rv_cellA ty67 rfl (List.Mem.head _) rfl) rfl

end Go.Cu

/- The scalars: products: the walk. Conditions: numbers below the order. -/
namespace Go.Cu
open Go Go.Vm Go.RowKit Go.Proofs 
attribute [local irreducible] W OpsW Det Fresh New Writes Vm.Pure Makes Changes ExternTo BuildTo ZeroTo FieldTo IndexTo BinTo SliceTo Vm.Enters
set_option linter.unusedVariables false
set_option linter.unusedSimpArgs false
variable {T : Nat → TypeId × Nat × Nat}

theorem rreduce_ws {a0 a1 a2 a3 : Nat} (h0 : a0 < 18446744073709551616) (h1 : a1 < 18446744073709551616) (h2 : a2 < 18446744073709551616) (h3 : a3 < 18446744073709551616) (hV : val4 a0 a1 a2 a3 < 2 * rr) {w : World} (hG : Blocks (GH T) w) :
    Vm.Pure Tryd.prog 90 #[.agg #[u64 a0, u64 a1, u64 a2, u64 a3], u64 0] w (enc4 (val4 a0 a1 a2 a3 % rr)) := by
  have h := rreduce_ok (V := val4 a0 a1 a2 a3) hV hG
  have e := lim4 h0 h1 h2 h3
  unfold enc4 at e
  rw [e] at h
  exact h
theorem idx33 {m i : Nat} (h : i < 4) : IndexTo Tryd.prog 65 (.agg #[u64 (lim (m) 0), u64 (lim (m) 1), u64 (lim (m) 2), u64 (lim (m) 3)]) (.int .i64 (i : Nat)) (u64 (lim m i)) := by
  have : i = 0 ∨ i = 1 ∨ i = 2 ∨ i = 3 := by omega
  rcases this with rfl | rfl | rfl | rfl <;> exact IndexTo.of fun _ => by kernel_rfl

theorem bld65 {v0 v1 v2 v3 : Int} : BuildTo Tryd.prog 65 [(0, .int .u64 v0), (1, .int .u64 v1), (2, .int .u64 v2), (3, .int .u64 v3)] (.agg #[.int .u64 v0, .int .u64 v1, .int .u64 v2, .int .u64 v3]) := BuildTo.of fun _ => by kernel_rfl
set_option maxHeartbeats 1000000 in
theorem RMul_w_ok {X Y : Nat} (hX : X < rr) (hY : Y < rr) {w : World} (hG : Blocks (GH T) w)  : Vm.Pure Tryd.prog 73 #[.agg #[u64 (lim (X) 0), u64 (lim (X) 1), u64 (lim (X) 2), u64 (lim (X) 3)], .agg #[u64 (lim (Y) 0), u64 (lim (Y) 1), u64 (lim (Y) 2), u64 (lim (Y) 3)]] w (enc4 (X * Y * inv_rr % rr)) := by
  refine pure_of_W (n := 222) (args := [.agg #[u64 (lim (X) 0), u64 (lim (X) 1), u64 (lim (X) 2), u64 (lim (X) 3)], .agg #[u64 (lim (Y) 0), u64 (lim (Y) 1), u64 (lim (Y) 2), u64 (lim (Y) 3)]]) Tryd.func73 rfl Tryd.ntmps73 (Nat.le_of_ble_eq_true rfl) hG ?_
  refine sStart ?_
  refine sSeq ?_
  refine W.region ?_
  refine OpsW.fresh (fr_box rfl rfl) rfl fun b2 => ?_
  refine OpsW.fresh (fr_box rfl rfl) rfl fun b3 => ?_
  refine OpsW.fresh (fr_alloc z67) rfl fun b4 => ?_
  refine sNext ?_
  refine W.keep (F' := [(4, _), (3, _), (2, _)]) ⟨rfl, rfl, rfl, trivial⟩ ?_
  refine sSeq ?_
  refine W.region ?_
  refine OpsW.det (det_assign rfl) rfl ?_
  refine OpsW.det (det_assign rfl) rfl ?_
  refine OpsW.det (det_assign rfl) rfl ?_
  refine OpsW.det (det_assign rfl) rfl ?_
  refine sNext ?_
  refine sSeq ?_
  refine W.draw mixed 16 [[], [0], [0, 1], [], [3], [3, 4], [], [6], [6, 7], [], [9], [9, 10], [0, 1, 2], [0, 1, 2, 3, 4, 5, 12], [0, 1, 2, 3, 4, 5, 6, 7, 8, 12, 13], [0, 1, 2, 3, 4, 5, 6, 7, 8, 9, 10, 11, 12, 13, 14]] (cl_lt (by decide)) ?_
  refine HeadR.start (cl_lt (by decide)) ?_
  refine HeadR.det rfl (fun β hβ => (det_fieldAddr fl67_0 rfl)) ?_
  refine HeadR.det rfl (fun β hβ => (det_indexAddr_arr u65 sz26 rfl rfl ⟨by decide, by decide⟩)) ?_
  refine HeadR.det rfl (fun β hβ => (det_loadC ty26 rfl (List.Mem.tail _ (List.Mem.tail _ (List.Mem.head _))) rfl)) ?_
  refine HeadR.det rfl (fun β hβ => (det_fieldAddr fl67_0 rfl)) ?_
  refine HeadR.det rfl (fun β hβ => (det_indexAddr_arr u65 sz26 rfl rfl ⟨by decide, by decide⟩)) ?_
  refine HeadR.det rfl (fun β hβ => (det_loadC ty26 rfl (List.Mem.tail _ (List.Mem.tail _ (List.Mem.head _))) rfl)) ?_
  refine HeadR.det rfl (fun β hβ => (det_fieldAddr fl67_0 rfl)) ?_
  refine HeadR.det rfl (fun β hβ => (det_indexAddr_arr u65 sz26 rfl rfl ⟨by decide, by decide⟩)) ?_
  refine HeadR.det rfl (fun β hβ => (det_loadC ty26 rfl (List.Mem.tail _ (List.Mem.tail _ (List.Mem.head _))) rfl)) ?_
  refine HeadR.det rfl (fun β hβ => (det_fieldAddr fl67_0 rfl)) ?_
  refine HeadR.det rfl (fun β hβ => (det_indexAddr_arr u65 sz26 rfl rfl ⟨by decide, by decide⟩)) ?_
  refine HeadR.det rfl (fun β hβ => (det_loadC ty26 rfl (List.Mem.tail _ (List.Mem.tail _ (List.Mem.head _))) rfl)) ?_
  refine HeadR.det rfl (fun β hβ => (det_assign rfl)) ?_
  refine HeadR.det rfl (fun β hβ => (det_assign rfl)) ?_
  refine HeadR.det rfl (fun β hβ => (det_assign rfl)) ?_
  refine HeadR.det rfl (fun β hβ => (det_assign rfl)) ?_
  refine HeadR.done ⟨by kernel_rfl, fun β hβ => ?_⟩
  refine OpsW.norm (F' := [(22, _), (23, _), (24, _), (25, _), (26, _), (27, _), (28, _), (29, _), (30, _), (31, _), (32, _), (33, _), (9, _), (10, _), (11, _), (12, _), (8, _), (7, _), (6, _), (5, _), (4, _), (3, _), (2, _)]) (H' := [(_, _), (_, _), (_, _)]) rfl rfl ?_
  refine sNext ?_
  refine W.keep (F' := [(9, _), (10, _), (11, _), (12, _), (8, _), (7, _), (6, _), (5, _), (4, _), (3, _)]) ⟨rfl, rfl, rfl, rfl, rfl, rfl, rfl, rfl, rfl, rfl, trivial⟩ ?_
  refine sSeq ?_
  refine sSeq ?_
  refine W.region ?_
  refine OpsW.det (det_fieldAddr fl67_0 rfl) rfl ?_
  refine OpsW.det (det_loadA ty65 rfl (List.Mem.tail _ (List.Mem.head _)) rfl) rfl ?_
  refine OpsW.det (det_move rfl) rfl ?_
  refine sNext ?_
  refine W.keep (F' := [(36, _), (35, _), (9, _), (10, _), (11, _), (12, _), (8, _), (7, _), (6, _), (5, _), (4, _)]) ⟨rfl, rfl, rfl, rfl, rfl, rfl, rfl, rfl, rfl, rfl, rfl, trivial⟩ ?_
  refine sBlock ?_
  refine sLoop (σ := Nat × Nat × Nat × Nat × Nat) (fun k => [(36, .int .i64 (k.1 : Nat)), (35, .agg #[u64 (lim (Y) 0), u64 (lim (Y) 1), u64 (lim (Y) 2), u64 (lim (Y) 3)]), (5, u64 k.2.1), (6, u64 k.2.2.1), (7, u64 k.2.2.2.1), (8, u64 k.2.2.2.2), (9, u64 (lim X 0)), (10, u64 (lim X 1)), (11, u64 (lim X 2)), (12, u64 (lim X 3)), (4, .pointer (some ⟨b4, 0, none⟩))]) (fun k => [(b4, blk [.int .u64 0, .int .u64 0, .int .u64 0, .int .u64 0] 67)]) (fun k => k.1 ≤ 4 ∧ k.2.1 < 18446744073709551616 ∧ k.2.2.1 < 18446744073709551616 ∧ k.2.2.2.1 < 18446744073709551616 ∧ k.2.2.2.2 < 18446744073709551616 ∧ ∃ M, M < 18446744073709551616 ^ k.1 ∧ val4 (k.2.1) (k.2.2.1) (k.2.2.2.1) (k.2.2.2.2) * 18446744073709551616 ^ k.1 = X * (Y % 18446744073709551616 ^ k.1) + M * rr) (fun k => 4 - k.1) (0, 0, 0, 0, 0) ⟨by decide, by decide, by decide, by decide, by decide, 0, by decide, by simp [val4, Nat.mod_one]⟩ ⟨rfl, rfl, rfl, rfl, rfl, rfl, rfl, rfl, rfl, rfl, rfl, trivial⟩ (List.Sublist.cons_cons _ (List.nil_sublist _)) ?_
  rintro ⟨i, t0, t1, t2, t3⟩ ⟨hi, ht0, ht1, ht2, ht3, M, hM, hI⟩
  refine W.norm (F' := [(36, .int .i64 (i : Nat)), (35, .agg #[u64 (lim (Y) 0), u64 (lim (Y) 1), u64 (lim (Y) 2), u64 (lim (Y) 3)]), (5, u64 t0), (6, u64 t1), (7, u64 t2), (8, u64 t3), (9, u64 (lim X 0)), (10, u64 (lim X 1)), (11, u64 (lim X 2)), (12, u64 (lim X 3)), (4, .pointer (some ⟨b4, 0, none⟩))]) (H' := [(b4, blk [.int .u64 0, .int .u64 0, .int .u64 0, .int .u64 0] 67)]) rfl rfl ?_
  have hT : val4 t0 t1 t2 t3 < 2 * rr := inv_top hI hM hX
  have hXv : val4 (lim X 0) (lim X 1) (lim X 2) (lim X 3) < rr := by rw [val_lim4 (m := X) (Nat.lt_trans hX (by decide))]; exact hX
  have hy := lim_lt Y i
  refine sSeq ?_
  refine W.region ?_
  refine OpsW.det (det_lss rfl rfl) rfl ?_
  refine sNext ?_
  refine sSeq ?_
  refine W.cond rfl (fun hc37 => ?_) (fun hc37 => ?_)
  · skip
    have hlt : i < 4 := by simp only [decide_eq_true_eq] at hc37; omega
    refine sSkip ?_
    refine sSeq ?_
    refine sBlock ?_
    refine sSeq ?_
    refine W.region ?_
    refine OpsW.det (det_index rfl rfl (idx33 hlt)) rfl ?_
    refine OpsW.det (det_assign rfl) rfl ?_
    refine sNext ?_
    refine W.keep (F' := [(14, _), (36, _), (35, _), (5, _), (6, _), (7, _), (8, _), (9, _), (10, _), (11, _), (12, _), (4, _)]) ⟨rfl, rfl, rfl, rfl, rfl, rfl, rfl, rfl, rfl, rfl, rfl, rfl, trivial⟩ ?_
    refine sSeq ?_
    refine W.region ?_
    refine OpsW.det (det_move rfl) rfl ?_
    refine OpsW.det (det_move rfl) rfl ?_
    refine OpsW.mul64 rfl rfl (by first | assumption | exact lim_lt _ _ | decide) (by first | assumption | exact lim_lt _ _ | decide) rfl fun hi42 lo42 he42 hs42 hk42 => ?_
    refine OpsW.det (det_move rfl) rfl ?_
    refine OpsW.det (det_extract rfl rfl) rfl ?_
    refine OpsW.det (det_extract rfl rfl) rfl ?_
    refine OpsW.det (det_assign rfl) rfl ?_
    refine OpsW.det (det_assign rfl) rfl ?_
    refine sNext ?_
    refine W.keep (F' := [(16, _), (15, _), (14, _), (36, _), (35, _), (5, _), (6, _), (7, _), (8, _), (9, _), (10, _), (11, _), (12, _), (4, _)]) ⟨rfl, rfl, rfl, rfl, rfl, rfl, rfl, rfl, rfl, rfl, rfl, rfl, rfl, rfl, trivial⟩ ?_
    refine sSeq ?_
    refine W.region ?_
    refine OpsW.det (det_move rfl) rfl ?_
    refine OpsW.det (det_move rfl) rfl ?_
    refine OpsW.add64 (e := 0) rfl rfl rfl (by first | assumption | exact lim_lt _ _ | decide) (by first | assumption | exact lim_lt _ _ | decide) (by first | assumption | decide) rfl fun s48 c48 he48 hs48 hk48 => ?_
    refine OpsW.det (det_move rfl) rfl ?_
    refine OpsW.det (det_extract rfl rfl) rfl ?_
    refine OpsW.det (det_extract rfl rfl) rfl ?_
    refine OpsW.det (det_assign rfl) rfl ?_
    refine OpsW.det (det_assign rfl) rfl ?_
    refine sNext ?_
    refine W.keep (F' := [(17, _), (16, _), (15, _), (14, _), (36, _), (35, _), (6, _), (7, _), (8, _), (9, _), (10, _), (11, _), (12, _), (4, _)]) ⟨rfl, rfl, rfl, rfl, rfl, rfl, rfl, rfl, rfl, rfl, rfl, rfl, rfl, rfl, trivial⟩ ?_
    refine sSeq ?_
    refine W.region ?_
    refine OpsW.det (det_move rfl) rfl ?_
    refine OpsW.det (det_move rfl) rfl ?_
    refine OpsW.addw rfl rfl (hi_lt hk42 hk48) rfl fun s53 he53 => ?_
    have E0 := col0 he42 he48 he53
    have hG0 := w_lt hk42 hk48 he53
    refine OpsW.det (det_assign rfl) rfl ?_
    refine sNext ?_
    refine W.keep (F' := [(18, _), (16, _), (14, _), (36, _), (35, _), (6, _), (7, _), (8, _), (9, _), (10, _), (11, _), (12, _), (4, _)]) ⟨rfl, rfl, rfl, rfl, rfl, rfl, rfl, rfl, rfl, rfl, rfl, rfl, rfl, trivial⟩ ?_
    refine sSeq ?_
    refine W.region ?_
    refine OpsW.det (det_move rfl) rfl ?_
    refine OpsW.mulw (b := 18446744069414584319) rfl rfl rfl fun s55 he55 hs55 => ?_
    refine OpsW.det (det_assign rfl) rfl ?_
    refine sNext ?_
    refine W.keep (F' := [(19, _), (18, _), (16, _), (14, _), (36, _), (35, _), (6, _), (7, _), (8, _), (9, _), (10, _), (11, _), (12, _), (4, _)]) ⟨rfl, rfl, rfl, rfl, rfl, rfl, rfl, rfl, rfl, rfl, rfl, rfl, rfl, rfl, trivial⟩ ?_
    refine sSeq ?_
    refine W.region ?_
    refine OpsW.det (det_move rfl) rfl ?_
    refine OpsW.mul64 (b := 18446744069414584321) rfl rfl (by first | assumption | exact lim_lt _ _ | decide) (by first | assumption | exact lim_lt _ _ | decide) rfl fun hi58 lo58 he58 hs58 hk58 => ?_
    refine OpsW.det (det_move rfl) rfl ?_
    refine OpsW.det (det_extract rfl rfl) rfl ?_
    refine OpsW.det (det_extract rfl rfl) rfl ?_
    refine OpsW.det (det_assign rfl) rfl ?_
    refine OpsW.det (det_assign rfl) rfl ?_
    refine sNext ?_
    refine W.keep (F' := [(20, _), (15, _), (19, _), (18, _), (16, _), (14, _), (36, _), (35, _), (6, _), (7, _), (8, _), (9, _), (10, _), (11, _), (12, _), (4, _)]) ⟨rfl, rfl, rfl, rfl, rfl, rfl, rfl, rfl, rfl, rfl, rfl, rfl, rfl, rfl, rfl, rfl, trivial⟩ ?_
    refine sSeq ?_
    refine W.region ?_
    refine OpsW.det (det_move rfl) rfl ?_
    refine OpsW.det (det_move rfl) rfl ?_
    refine OpsW.add64 (e := 0) rfl rfl rfl (by first | assumption | exact lim_lt _ _ | decide) (by first | assumption | exact lim_lt _ _ | decide) (by first | assumption | decide) rfl fun s64 c64 he64 hs64 hk64 => ?_
    refine OpsW.det (det_move rfl) rfl ?_
    refine OpsW.det (det_extract rfl rfl) rfl ?_
    refine OpsW.det (det_extract rfl rfl) rfl ?_
    refine OpsW.det (det_assign rfl) rfl ?_
    refine sNext ?_
    refine W.keep (F' := [(17, _), (15, _), (19, _), (18, _), (14, _), (36, _), (35, _), (6, _), (7, _), (8, _), (9, _), (10, _), (11, _), (12, _), (4, _)]) ⟨rfl, rfl, rfl, rfl, rfl, rfl, rfl, rfl, rfl, rfl, rfl, rfl, rfl, rfl, rfl, trivial⟩ ?_
    refine sSeq ?_
    refine W.region ?_
    refine OpsW.det (det_move rfl) rfl ?_
    refine OpsW.det (det_move rfl) rfl ?_
    refine OpsW.addw rfl rfl (hi_lt hk58 hk64) rfl fun s69 he69 => ?_
    have hz := zero_rr he55 he58 he64 hs64
    have F0 := colz he58 he64 he69 hz
    have hF0 := w_lt hk58 hk64 he69
    clear he42 he48 he53 he55 he58 he64 he69 hz
    refine OpsW.det (det_assign rfl) rfl ?_
    refine sNext ?_
    refine W.keep (F' := [(21, _), (19, _), (18, _), (14, _), (36, _), (35, _), (6, _), (7, _), (8, _), (9, _), (10, _), (11, _), (12, _), (4, _)]) ⟨rfl, rfl, rfl, rfl, rfl, rfl, rfl, rfl, rfl, rfl, rfl, rfl, rfl, rfl, trivial⟩ ?_
    refine sSeq ?_
    refine W.region ?_
    refine OpsW.det (det_move rfl) rfl ?_
    refine OpsW.det (det_move rfl) rfl ?_
    refine OpsW.mul64 rfl rfl (by first | assumption | exact lim_lt _ _ | decide) (by first | assumption | exact lim_lt _ _ | decide) rfl fun hi73 lo73 he73 hs73 hk73 => ?_
    refine OpsW.det (det_move rfl) rfl ?_
    refine OpsW.det (det_extract rfl rfl) rfl ?_
    refine OpsW.det (det_extract rfl rfl) rfl ?_
    refine OpsW.det (det_assign rfl) rfl ?_
    refine OpsW.det (det_assign rfl) rfl ?_
    refine sNext ?_
    refine W.keep (F' := [(16, _), (15, _), (21, _), (19, _), (18, _), (14, _), (36, _), (35, _), (6, _), (7, _), (8, _), (9, _), (10, _), (11, _), (12, _), (4, _)]) ⟨rfl, rfl, rfl, rfl, rfl, rfl, rfl, rfl, rfl, rfl, rfl, rfl, rfl, rfl, rfl, rfl, trivial⟩ ?_
    refine sSeq ?_
    refine W.region ?_
    refine OpsW.det (det_move rfl) rfl ?_
    refine OpsW.det (det_move rfl) rfl ?_
    refine OpsW.add64 (e := 0) rfl rfl rfl (by first | assumption | exact lim_lt _ _ | decide) (by first | assumption | exact lim_lt _ _ | decide) (by first | assumption | decide) rfl fun s79 c79 he79 hs79 hk79 => ?_
    refine OpsW.det (det_move rfl) rfl ?_
    refine OpsW.det (det_extract rfl rfl) rfl ?_
    refine OpsW.det (det_extract rfl rfl) rfl ?_
    refine OpsW.det (det_assign rfl) rfl ?_
    refine OpsW.det (det_assign rfl) rfl ?_
    refine sNext ?_
    refine W.keep (F' := [(17, _), (16, _), (15, _), (21, _), (19, _), (14, _), (36, _), (35, _), (6, _), (7, _), (8, _), (9, _), (10, _), (11, _), (12, _), (4, _)]) ⟨rfl, rfl, rfl, rfl, rfl, rfl, rfl, rfl, rfl, rfl, rfl, rfl, rfl, rfl, rfl, rfl, trivial⟩ ?_
    refine sSeq ?_
    refine W.region ?_
    refine OpsW.det (det_move rfl) rfl ?_
    refine OpsW.det (det_move rfl) rfl ?_
    refine OpsW.addw rfl rfl (hi_lt hk73 hk79) rfl fun s84 he84 => ?_
    refine OpsW.det (det_assign rfl) rfl ?_
    refine sNext ?_
    refine W.keep (F' := [(15, _), (16, _), (21, _), (19, _), (14, _), (36, _), (35, _), (6, _), (7, _), (8, _), (9, _), (10, _), (11, _), (12, _), (4, _)]) ⟨rfl, rfl, rfl, rfl, rfl, rfl, rfl, rfl, rfl, rfl, rfl, rfl, rfl, rfl, rfl, trivial⟩ ?_
    refine sSeq ?_
    refine W.region ?_
    refine OpsW.det (det_move rfl) rfl ?_
    refine OpsW.det (det_move rfl) rfl ?_
    refine OpsW.add64 (e := 0) rfl rfl rfl (by first | assumption | exact lim_lt _ _ | decide) (by first | assumption | exact lim_lt _ _ | decide) (by first | assumption | decide) rfl fun s88 c88 he88 hs88 hk88 => ?_
    refine OpsW.det (det_move rfl) rfl ?_
    refine OpsW.det (det_extract rfl rfl) rfl ?_
    refine OpsW.det (det_extract rfl rfl) rfl ?_
    refine OpsW.det (det_assign rfl) rfl ?_
    refine OpsW.det (det_assign rfl) rfl ?_
    refine sNext ?_
    refine W.keep (F' := [(17, _), (16, _), (15, _), (21, _), (19, _), (14, _), (36, _), (35, _), (7, _), (8, _), (9, _), (10, _), (11, _), (12, _), (4, _)]) ⟨rfl, rfl, rfl, rfl, rfl, rfl, rfl, rfl, rfl, rfl, rfl, rfl, rfl, rfl, rfl, trivial⟩ ?_
    refine sSeq ?_
    refine W.region ?_
    refine OpsW.det (det_move rfl) rfl ?_
    refine OpsW.det (det_move rfl) rfl ?_
    refine OpsW.addw rfl rfl (col_lt (lim_lt _ _) hy hG0 ht1 he73 he79 he84 he88) rfl fun s93 he93 => ?_
    have E1 := col he73 he79 he84 he88 he93
    have hG1 : s93 < 18446744073709551616 := by rw [he93]; exact col_lt (lim_lt _ _) hy hG0 ht1 he73 he79 he84 he88
    clear he73 he79 he84 he88 he93
    refine OpsW.det (det_assign rfl) rfl ?_
    refine sNext ?_
    refine W.keep (F' := [(18, _), (16, _), (21, _), (19, _), (14, _), (36, _), (35, _), (7, _), (8, _), (9, _), (10, _), (11, _), (12, _), (4, _)]) ⟨rfl, rfl, rfl, rfl, rfl, rfl, rfl, rfl, rfl, rfl, rfl, rfl, rfl, rfl, trivial⟩ ?_
    refine sSeq ?_
    refine W.region ?_
    refine OpsW.det (det_move rfl) rfl ?_
    refine OpsW.mul64 (b := 6034159408538082302) rfl rfl (by first | assumption | exact lim_lt _ _ | decide) (by first | assumption | exact lim_lt _ _ | decide) rfl fun hi96 lo96 he96 hs96 hk96 => ?_
    refine OpsW.det (det_move rfl) rfl ?_
    refine OpsW.det (det_extract rfl rfl) rfl ?_
    refine OpsW.det (det_extract rfl rfl) rfl ?_
    refine OpsW.det (det_assign rfl) rfl ?_
    refine OpsW.det (det_assign rfl) rfl ?_
    refine sNext ?_
    refine W.keep (F' := [(20, _), (15, _), (18, _), (16, _), (21, _), (19, _), (14, _), (36, _), (35, _), (7, _), (8, _), (9, _), (10, _), (11, _), (12, _), (4, _)]) ⟨rfl, rfl, rfl, rfl, rfl, rfl, rfl, rfl, rfl, rfl, rfl, rfl, rfl, rfl, rfl, rfl, trivial⟩ ?_
    refine sSeq ?_
    refine W.region ?_
    refine OpsW.det (det_move rfl) rfl ?_
    refine OpsW.det (det_move rfl) rfl ?_
    refine OpsW.add64 (e := 0) rfl rfl rfl (by first | assumption | exact lim_lt _ _ | decide) (by first | assumption | exact lim_lt _ _ | decide) (by first | assumption | decide) rfl fun s102 c102 he102 hs102 hk102 => ?_
    refine OpsW.det (det_move rfl) rfl ?_
    refine OpsW.det (det_extract rfl rfl) rfl ?_
    refine OpsW.det (det_extract rfl rfl) rfl ?_
    refine OpsW.det (det_assign rfl) rfl ?_
    refine OpsW.det (det_assign rfl) rfl ?_
    refine sNext ?_
    refine W.keep (F' := [(17, _), (20, _), (15, _), (18, _), (16, _), (19, _), (14, _), (36, _), (35, _), (7, _), (8, _), (9, _), (10, _), (11, _), (12, _), (4, _)]) ⟨rfl, rfl, rfl, rfl, rfl, rfl, rfl, rfl, rfl, rfl, rfl, rfl, rfl, rfl, rfl, rfl, trivial⟩ ?_
    refine sSeq ?_
    refine W.region ?_
    refine OpsW.det (det_move rfl) rfl ?_
    refine OpsW.det (det_move rfl) rfl ?_
    refine OpsW.addw rfl rfl (hi_lt hk96 hk102) rfl fun s107 he107 => ?_
    refine OpsW.det (det_assign rfl) rfl ?_
    refine sNext ?_
    refine W.keep (F' := [(15, _), (20, _), (18, _), (16, _), (19, _), (14, _), (36, _), (35, _), (7, _), (8, _), (9, _), (10, _), (11, _), (12, _), (4, _)]) ⟨rfl, rfl, rfl, rfl, rfl, rfl, rfl, rfl, rfl, rfl, rfl, rfl, rfl, rfl, rfl, trivial⟩ ?_
    refine sSeq ?_
    refine W.region ?_
    refine OpsW.det (det_move rfl) rfl ?_
    refine OpsW.det (det_move rfl) rfl ?_
    refine OpsW.add64 (e := 0) rfl rfl rfl (by first | assumption | exact lim_lt _ _ | decide) (by first | assumption | exact lim_lt _ _ | decide) (by first | assumption | decide) rfl fun s111 c111 he111 hs111 hk111 => ?_
    refine OpsW.det (det_move rfl) rfl ?_
    refine OpsW.det (det_extract rfl rfl) rfl ?_
    refine OpsW.det (det_extract rfl rfl) rfl ?_
    refine OpsW.det (det_assign rfl) rfl ?_
    refine OpsW.det (det_assign rfl) rfl ?_
    refine sNext ?_
    refine W.keep (F' := [(17, _), (5, _), (15, _), (18, _), (19, _), (14, _), (36, _), (35, _), (7, _), (8, _), (9, _), (10, _), (11, _), (12, _), (4, _)]) ⟨rfl, rfl, rfl, rfl, rfl, rfl, rfl, rfl, rfl, rfl, rfl, rfl, rfl, rfl, rfl, trivial⟩ ?_
    refine sSeq ?_
    refine W.region ?_
    refine OpsW.det (det_move rfl) rfl ?_
    refine OpsW.det (det_move rfl) rfl ?_
    refine OpsW.addw rfl rfl (col_lt hs55 (by decide) hF0 hs88 he96 he102 he107 he111) rfl fun s116 he116 => ?_
    have F1 := col he96 he102 he107 he111 he116
    have hF1 : s116 < 18446744073709551616 := by rw [he116]; exact col_lt hs55 (by decide) hF0 hs88 he96 he102 he107 he111
    clear he96 he102 he107 he111 he116
    refine OpsW.det (det_assign rfl) rfl ?_
    refine sNext ?_
    refine W.keep (F' := [(21, _), (5, _), (18, _), (19, _), (14, _), (36, _), (35, _), (7, _), (8, _), (9, _), (10, _), (11, _), (12, _), (4, _)]) ⟨rfl, rfl, rfl, rfl, rfl, rfl, rfl, rfl, rfl, rfl, rfl, rfl, rfl, rfl, trivial⟩ ?_
    refine sSeq ?_
    refine W.region ?_
    refine OpsW.det (det_move rfl) rfl ?_
    refine OpsW.det (det_move rfl) rfl ?_
    refine OpsW.mul64 rfl rfl (by first | assumption | exact lim_lt _ _ | decide) (by first | assumption | exact lim_lt _ _ | decide) rfl fun hi120 lo120 he120 hs120 hk120 => ?_
    refine OpsW.det (det_move rfl) rfl ?_
    refine OpsW.det (det_extract rfl rfl) rfl ?_
    refine OpsW.det (det_extract rfl rfl) rfl ?_
    refine OpsW.det (det_assign rfl) rfl ?_
    refine OpsW.det (det_assign rfl) rfl ?_
    refine sNext ?_
    refine W.keep (F' := [(16, _), (15, _), (21, _), (5, _), (18, _), (19, _), (14, _), (36, _), (35, _), (7, _), (8, _), (9, _), (10, _), (11, _), (12, _), (4, _)]) ⟨rfl, rfl, rfl, rfl, rfl, rfl, rfl, rfl, rfl, rfl, rfl, rfl, rfl, rfl, rfl, rfl, trivial⟩ ?_
    refine sSeq ?_
    refine W.region ?_
    refine OpsW.det (det_move rfl) rfl ?_
    refine OpsW.det (det_move rfl) rfl ?_
    refine OpsW.add64 (e := 0) rfl rfl rfl (by first | assumption | exact lim_lt _ _ | decide) (by first | assumption | exact lim_lt _ _ | decide) (by first | assumption | decide) rfl fun s126 c126 he126 hs126 hk126 => ?_
    refine OpsW.det (det_move rfl) rfl ?_
    refine OpsW.det (det_extract rfl rfl) rfl ?_
    refine OpsW.det (det_extract rfl rfl) rfl ?_
    refine OpsW.det (det_assign rfl) rfl ?_
    refine OpsW.det (det_assign rfl) rfl ?_
    refine sNext ?_
    refine W.keep (F' := [(17, _), (16, _), (15, _), (21, _), (5, _), (19, _), (14, _), (36, _), (35, _), (7, _), (8, _), (9, _), (10, _), (11, _), (12, _), (4, _)]) ⟨rfl, rfl, rfl, rfl, rfl, rfl, rfl, rfl, rfl, rfl, rfl, rfl, rfl, rfl, rfl, rfl, trivial⟩ ?_
    refine sSeq ?_
    refine W.region ?_
    refine OpsW.det (det_move rfl) rfl ?_
    refine OpsW.det (det_move rfl) rfl ?_
    refine OpsW.addw rfl rfl (hi_lt hk120 hk126) rfl fun s131 he131 => ?_
    refine OpsW.det (det_assign rfl) rfl ?_
    refine sNext ?_
    refine W.keep (F' := [(15, _), (16, _), (21, _), (5, _), (19, _), (14, _), (36, _), (35, _), (7, _), (8, _), (9, _), (10, _), (11, _), (12, _), (4, _)]) ⟨rfl, rfl, rfl, rfl, rfl, rfl, rfl, rfl, rfl, rfl, rfl, rfl, rfl, rfl, rfl, trivial⟩ ?_
    refine sSeq ?_
    refine W.region ?_
    refine OpsW.det (det_move rfl) rfl ?_
    refine OpsW.det (det_move rfl) rfl ?_
    refine OpsW.add64 (e := 0) rfl rfl rfl (by first | assumption | exact lim_lt _ _ | decide) (by first | assumption | exact lim_lt _ _ | decide) (by first | assumption | decide) rfl fun s135 c135 he135 hs135 hk135 => ?_
    refine OpsW.det (det_move rfl) rfl ?_
    refine OpsW.det (det_extract rfl rfl) rfl ?_
    refine OpsW.det (det_extract rfl rfl) rfl ?_
    refine OpsW.det (det_assign rfl) rfl ?_
    refine OpsW.det (det_assign rfl) rfl ?_
    refine sNext ?_
    refine W.keep (F' := [(17, _), (16, _), (15, _), (21, _), (5, _), (19, _), (14, _), (36, _), (35, _), (8, _), (9, _), (10, _), (11, _), (12, _), (4, _)]) ⟨rfl, rfl, rfl, rfl, rfl, rfl, rfl, rfl, rfl, rfl, rfl, rfl, rfl, rfl, rfl, trivial⟩ ?_
    refine sSeq ?_
    refine W.region ?_
    refine OpsW.det (det_move rfl) rfl ?_
    refine OpsW.det (det_move rfl) rfl ?_
    refine OpsW.addw rfl rfl (col_lt (lim_lt _ _) hy hG1 ht2 he120 he126 he131 he135) rfl fun s140 he140 => ?_
    have E2 := col he120 he126 he131 he135 he140
    have hG2 : s140 < 18446744073709551616 := by rw [he140]; exact col_lt (lim_lt _ _) hy hG1 ht2 he120 he126 he131 he135
    clear he120 he126 he131 he135 he140
    refine OpsW.det (det_assign rfl) rfl ?_
    refine sNext ?_
    refine W.keep (F' := [(18, _), (16, _), (21, _), (5, _), (19, _), (14, _), (36, _), (35, _), (8, _), (9, _), (10, _), (11, _), (12, _), (4, _)]) ⟨rfl, rfl, rfl, rfl, rfl, rfl, rfl, rfl, rfl, rfl, rfl, rfl, rfl, rfl, trivial⟩ ?_
    refine sSeq ?_
    refine W.region ?_
    refine OpsW.det (det_move rfl) rfl ?_
    refine OpsW.mul64 (b := 3691218898639771653) rfl rfl (by first | assumption | exact lim_lt _ _ | decide) (by first | assumption | exact lim_lt _ _ | decide) rfl fun hi143 lo143 he143 hs143 hk143 => ?_
    refine OpsW.det (det_move rfl) rfl ?_
    refine OpsW.det (det_extract rfl rfl) rfl ?_
    refine OpsW.det (det_extract rfl rfl) rfl ?_
    refine OpsW.det (det_assign rfl) rfl ?_
    refine OpsW.det (det_assign rfl) rfl ?_
    refine sNext ?_
    refine W.keep (F' := [(20, _), (15, _), (18, _), (16, _), (21, _), (5, _), (19, _), (14, _), (36, _), (35, _), (8, _), (9, _), (10, _), (11, _), (12, _), (4, _)]) ⟨rfl, rfl, rfl, rfl, rfl, rfl, rfl, rfl, rfl, rfl, rfl, rfl, rfl, rfl, rfl, rfl, trivial⟩ ?_
    refine sSeq ?_
    refine W.region ?_
    refine OpsW.det (det_move rfl) rfl ?_
    refine OpsW.det (det_move rfl) rfl ?_
    refine OpsW.add64 (e := 0) rfl rfl rfl (by first | assumption | exact lim_lt _ _ | decide) (by first | assumption | exact lim_lt _ _ | decide) (by first | assumption | decide) rfl fun s149 c149 he149 hs149 hk149 => ?_
    refine OpsW.det (det_move rfl) rfl ?_
    refine OpsW.det (det_extract rfl rfl) rfl ?_
    refine OpsW.det (det_extract rfl rfl) rfl ?_
    refine OpsW.det (det_assign rfl) rfl ?_
    refine OpsW.det (det_assign rfl) rfl ?_
    refine sNext ?_
    refine W.keep (F' := [(17, _), (20, _), (15, _), (18, _), (16, _), (5, _), (19, _), (14, _), (36, _), (35, _), (8, _), (9, _), (10, _), (11, _), (12, _), (4, _)]) ⟨rfl, rfl, rfl, rfl, rfl, rfl, rfl, rfl, rfl, rfl, rfl, rfl, rfl, rfl, rfl, rfl, trivial⟩ ?_
    refine sSeq ?_
    refine W.region ?_
    refine OpsW.det (det_move rfl) rfl ?_
    refine OpsW.det (det_move rfl) rfl ?_
    refine OpsW.addw rfl rfl (hi_lt hk143 hk149) rfl fun s154 he154 => ?_
    refine OpsW.det (det_assign rfl) rfl ?_
    refine sNext ?_
    refine W.keep (F' := [(15, _), (20, _), (18, _), (16, _), (5, _), (19, _), (14, _), (36, _), (35, _), (8, _), (9, _), (10, _), (11, _), (12, _), (4, _)]) ⟨rfl, rfl, rfl, rfl, rfl, rfl, rfl, rfl, rfl, rfl, rfl, rfl, rfl, rfl, rfl, trivial⟩ ?_
    refine sSeq ?_
    refine W.region ?_
    refine OpsW.det (det_move rfl) rfl ?_
    refine OpsW.det (det_move rfl) rfl ?_
    refine OpsW.add64 (e := 0) rfl rfl rfl (by first | assumption | exact lim_lt _ _ | decide) (by first | assumption | exact lim_lt _ _ | decide) (by first | assumption | decide) rfl fun s158 c158 he158 hs158 hk158 => ?_
    refine OpsW.det (det_move rfl) rfl ?_
    refine OpsW.det (det_extract rfl rfl) rfl ?_
    refine OpsW.det (det_extract rfl rfl) rfl ?_
    refine OpsW.det (det_assign rfl) rfl ?_
    refine OpsW.det (det_assign rfl) rfl ?_
    refine sNext ?_
    refine W.keep (F' := [(17, _), (6, _), (15, _), (18, _), (5, _), (19, _), (14, _), (36, _), (35, _), (8, _), (9, _), (10, _), (11, _), (12, _), (4, _)]) ⟨rfl, rfl, rfl, rfl, rfl, rfl, rfl, rfl, rfl, rfl, rfl, rfl, rfl, rfl, rfl, trivial⟩ ?_
    refine sSeq ?_
    refine W.region ?_
    refine OpsW.det (det_move rfl) rfl ?_
    refine OpsW.det (det_move rfl) rfl ?_
    refine OpsW.addw rfl rfl (col_lt hs55 (by decide) hF1 hs135 he143 he149 he154 he158) rfl fun s163 he163 => ?_
    have F2 := col he143 he149 he154 he158 he163
    have hF2 : s163 < 18446744073709551616 := by rw [he163]; exact col_lt hs55 (by decide) hF1 hs135 he143 he149 he154 he158
    clear he143 he149 he154 he158 he163
    refine OpsW.det (det_assign rfl) rfl ?_
    refine sNext ?_
    refine W.keep (F' := [(21, _), (6, _), (18, _), (5, _), (19, _), (14, _), (36, _), (35, _), (8, _), (9, _), (10, _), (11, _), (12, _), (4, _)]) ⟨rfl, rfl, rfl, rfl, rfl, rfl, rfl, rfl, rfl, rfl, rfl, rfl, rfl, rfl, trivial⟩ ?_
    refine sSeq ?_
    refine W.region ?_
    refine OpsW.det (det_move rfl) rfl ?_
    refine OpsW.det (det_move rfl) rfl ?_
    refine OpsW.mul64 rfl rfl (by first | assumption | exact lim_lt _ _ | decide) (by first | assumption | exact lim_lt _ _ | decide) rfl fun hi167 lo167 he167 hs167 hk167 => ?_
    refine OpsW.det (det_move rfl) rfl ?_
    refine OpsW.det (det_extract rfl rfl) rfl ?_
    refine OpsW.det (det_extract rfl rfl) rfl ?_
    refine OpsW.det (det_assign rfl) rfl ?_
    refine OpsW.det (det_assign rfl) rfl ?_
    refine sNext ?_
    refine W.keep (F' := [(16, _), (15, _), (21, _), (6, _), (18, _), (5, _), (19, _), (36, _), (35, _), (8, _), (9, _), (10, _), (11, _), (12, _), (4, _)]) ⟨rfl, rfl, rfl, rfl, rfl, rfl, rfl, rfl, rfl, rfl, rfl, rfl, rfl, rfl, rfl, trivial⟩ ?_
    refine sSeq ?_
    refine W.region ?_
    refine OpsW.det (det_move rfl) rfl ?_
    refine OpsW.det (det_move rfl) rfl ?_
    refine OpsW.add64 (e := 0) rfl rfl rfl (by first | assumption | exact lim_lt _ _ | decide) (by first | assumption | exact lim_lt _ _ | decide) (by first | assumption | decide) rfl fun s173 c173 he173 hs173 hk173 => ?_
    refine OpsW.det (det_move rfl) rfl ?_
    refine OpsW.det (det_extract rfl rfl) rfl ?_
    refine OpsW.det (det_extract rfl rfl) rfl ?_
    refine OpsW.det (det_assign rfl) rfl ?_
    refine OpsW.det (det_assign rfl) rfl ?_
    refine sNext ?_
    refine W.keep (F' := [(17, _), (16, _), (15, _), (21, _), (6, _), (5, _), (19, _), (36, _), (35, _), (8, _), (9, _), (10, _), (11, _), (12, _), (4, _)]) ⟨rfl, rfl, rfl, rfl, rfl, rfl, rfl, rfl, rfl, rfl, rfl, rfl, rfl, rfl, rfl, trivial⟩ ?_
    refine sSeq ?_
    refine W.region ?_
    refine OpsW.det (det_move rfl) rfl ?_
    refine OpsW.det (det_move rfl) rfl ?_
    refine OpsW.addw rfl rfl (hi_lt hk167 hk173) rfl fun s178 he178 => ?_
    refine OpsW.det (det_assign rfl) rfl ?_
    refine sNext ?_
    refine W.keep (F' := [(15, _), (16, _), (21, _), (6, _), (5, _), (19, _), (36, _), (35, _), (8, _), (9, _), (10, _), (11, _), (12, _), (4, _)]) ⟨rfl, rfl, rfl, rfl, rfl, rfl, rfl, rfl, rfl, rfl, rfl, rfl, rfl, rfl, trivial⟩ ?_
    refine sSeq ?_
    refine W.region ?_
    refine OpsW.det (det_move rfl) rfl ?_
    refine OpsW.det (det_move rfl) rfl ?_
    refine OpsW.add64 (e := 0) rfl rfl rfl (by first | assumption | exact lim_lt _ _ | decide) (by first | assumption | exact lim_lt _ _ | decide) (by first | assumption | decide) rfl fun s182 c182 he182 hs182 hk182 => ?_
    refine OpsW.det (det_move rfl) rfl ?_
    refine OpsW.det (det_extract rfl rfl) rfl ?_
    refine OpsW.det (det_extract rfl rfl) rfl ?_
    refine OpsW.det (det_assign rfl) rfl ?_
    refine OpsW.det (det_assign rfl) rfl ?_
    refine sNext ?_
    refine W.keep (F' := [(17, _), (16, _), (15, _), (21, _), (6, _), (5, _), (19, _), (36, _), (35, _), (9, _), (10, _), (11, _), (12, _), (4, _)]) ⟨rfl, rfl, rfl, rfl, rfl, rfl, rfl, rfl, rfl, rfl, rfl, rfl, rfl, rfl, trivial⟩ ?_
    refine sSeq ?_
    refine W.region ?_
    refine OpsW.det (det_move rfl) rfl ?_
    refine OpsW.det (det_move rfl) rfl ?_
    refine OpsW.addw rfl rfl (col_lt (lim_lt _ _) hy hG2 ht3 he167 he173 he178 he182) rfl fun s187 he187 => ?_
    have E3 := col he167 he173 he178 he182 he187
    have hG3 : s187 < 18446744073709551616 := by rw [he187]; exact col_lt (lim_lt _ _) hy hG2 ht3 he167 he173 he178 he182
    clear he167 he173 he178 he182 he187
    refine OpsW.det (det_assign rfl) rfl ?_
    refine sNext ?_
    refine W.keep (F' := [(18, _), (16, _), (21, _), (6, _), (5, _), (19, _), (36, _), (35, _), (9, _), (10, _), (11, _), (12, _), (4, _)]) ⟨rfl, rfl, rfl, rfl, rfl, rfl, rfl, rfl, rfl, rfl, rfl, rfl, rfl, trivial⟩ ?_
    refine sSeq ?_
    refine W.region ?_
    refine OpsW.det (det_move rfl) rfl ?_
    refine OpsW.mul64 (b := 8353516859464449352) rfl rfl (by first | assumption | exact lim_lt _ _ | decide) (by first | assumption | exact lim_lt _ _ | decide) rfl fun hi190 lo190 he190 hs190 hk190 => ?_
    refine OpsW.det (det_move rfl) rfl ?_
    refine OpsW.det (det_extract rfl rfl) rfl ?_
    refine OpsW.det (det_extract rfl rfl) rfl ?_
    refine OpsW.det (det_assign rfl) rfl ?_
    refine OpsW.det (det_assign rfl) rfl ?_
    refine sNext ?_
    refine W.keep (F' := [(20, _), (15, _), (18, _), (16, _), (21, _), (6, _), (5, _), (36, _), (35, _), (9, _), (10, _), (11, _), (12, _), (4, _)]) ⟨rfl, rfl, rfl, rfl, rfl, rfl, rfl, rfl, rfl, rfl, rfl, rfl, rfl, rfl, trivial⟩ ?_
    refine sSeq ?_
    refine W.region ?_
    refine OpsW.det (det_move rfl) rfl ?_
    refine OpsW.det (det_move rfl) rfl ?_
    refine OpsW.add64 (e := 0) rfl rfl rfl (by first | assumption | exact lim_lt _ _ | decide) (by first | assumption | exact lim_lt _ _ | decide) (by first | assumption | decide) rfl fun s196 c196 he196 hs196 hk196 => ?_
    refine OpsW.det (det_move rfl) rfl ?_
    refine OpsW.det (det_extract rfl rfl) rfl ?_
    refine OpsW.det (det_extract rfl rfl) rfl ?_
    refine OpsW.det (det_assign rfl) rfl ?_
    refine OpsW.det (det_assign rfl) rfl ?_
    refine sNext ?_
    refine W.keep (F' := [(17, _), (20, _), (15, _), (18, _), (16, _), (6, _), (5, _), (36, _), (35, _), (9, _), (10, _), (11, _), (12, _), (4, _)]) ⟨rfl, rfl, rfl, rfl, rfl, rfl, rfl, rfl, rfl, rfl, rfl, rfl, rfl, rfl, trivial⟩ ?_
    refine sSeq ?_
    refine W.region ?_
    refine OpsW.det (det_move rfl) rfl ?_
    refine OpsW.det (det_move rfl) rfl ?_
    refine OpsW.addw rfl rfl (hi_lt hk190 hk196) rfl fun s201 he201 => ?_
    refine OpsW.det (det_assign rfl) rfl ?_
    refine sNext ?_
    refine W.keep (F' := [(15, _), (20, _), (18, _), (16, _), (6, _), (5, _), (36, _), (35, _), (9, _), (10, _), (11, _), (12, _), (4, _)]) ⟨rfl, rfl, rfl, rfl, rfl, rfl, rfl, rfl, rfl, rfl, rfl, rfl, rfl, trivial⟩ ?_
    refine sSeq ?_
    refine W.region ?_
    refine OpsW.det (det_move rfl) rfl ?_
    refine OpsW.det (det_move rfl) rfl ?_
    refine OpsW.add64 (e := 0) rfl rfl rfl (by first | assumption | exact lim_lt _ _ | decide) (by first | assumption | exact lim_lt _ _ | decide) (by first | assumption | decide) rfl fun s205 c205 he205 hs205 hk205 => ?_
    refine OpsW.det (det_move rfl) rfl ?_
    refine OpsW.det (det_extract rfl rfl) rfl ?_
    refine OpsW.det (det_extract rfl rfl) rfl ?_
    refine OpsW.det (det_assign rfl) rfl ?_
    refine OpsW.det (det_assign rfl) rfl ?_
    refine sNext ?_
    refine W.keep (F' := [(17, _), (7, _), (15, _), (18, _), (6, _), (5, _), (36, _), (35, _), (9, _), (10, _), (11, _), (12, _), (4, _)]) ⟨rfl, rfl, rfl, rfl, rfl, rfl, rfl, rfl, rfl, rfl, rfl, rfl, rfl, trivial⟩ ?_
    refine sSeq ?_
    refine W.region ?_
    refine OpsW.det (det_move rfl) rfl ?_
    refine OpsW.det (det_move rfl) rfl ?_
    refine OpsW.addw rfl rfl (col_lt hs55 (by decide) hF2 hs182 he190 he196 he201 he205) rfl fun s210 he210 => ?_
    have F3 := col he190 he196 he201 he205 he210
    have hF3 : s210 < 18446744073709551616 := by rw [he210]; exact col_lt hs55 (by decide) hF2 hs182 he190 he196 he201 he205
    clear he190 he196 he201 he205 he210
    refine OpsW.det (det_assign rfl) rfl ?_
    refine sNext ?_
    refine W.keep (F' := [(21, _), (7, _), (18, _), (6, _), (5, _), (36, _), (35, _), (9, _), (10, _), (11, _), (12, _), (4, _)]) ⟨rfl, rfl, rfl, rfl, rfl, rfl, rfl, rfl, rfl, rfl, rfl, rfl, trivial⟩ ?_
    refine W.region ?_
    refine OpsW.det (det_move rfl) rfl ?_
    refine OpsW.det (det_move rfl) rfl ?_
    refine OpsW.addw rfl rfl (top_rr E0 E1 E2 E3 F0 F1 F2 F3 hT hXv hy hs55) rfl fun s213 he213 => ?_
    have hl213 : s213 < 18446744073709551616 := by rw [he213]; exact (top_rr E0 E1 E2 E3 F0 F1 F2 F3 hT hXv hy hs55)
    refine OpsW.det (det_assign rfl) rfl ?_
    refine sLast ?_
    refine bNext ?_
    refine W.keep (F' := [(8, _), (7, _), (6, _), (5, _), (36, _), (35, _), (9, _), (10, _), (11, _), (12, _), (4, _)]) ⟨rfl, rfl, rfl, rfl, rfl, rfl, rfl, rfl, rfl, rfl, rfl, trivial⟩ ?_
    refine W.region ?_
    refine OpsW.det (det_addN (b := 1) rfl rfl (idx_ok hlt (by decide))) rfl ?_
    refine OpsW.det (det_move rfl) rfl ?_
    refine sLast ?_
    have hS := sum_rr E0 E1 E2 E3 F0 F1 F2 F3 he213
    rw [val_lim4 (m := X) (Nat.lt_trans hX (by decide))] at hS
    exact rEnd (i + 1, s111, s158, s205, s213) ⟨hlt, hs111, hs158, hs205, hl213, _, inv_lt hM hs55, inv_step hI hS⟩ ⟨rfl, rfl, rfl, rfl, rfl, rfl, rfl, rfl, rfl, rfl, rfl, trivial⟩ (List.Sublist.refl _) (step_lt hlt)
  · skip
    have hi6 : i = 4 := by simp only [decide_eq_false_iff_not] at hc37; omega
    subst hi6
    have hE := end_rr hI hY
    refine sExit ?_
    refine xLoop ?_
    refine xHere ?_
    refine W.keep (F' := [(5, _), (6, _), (7, _), (8, _), (4, _)]) ⟨rfl, rfl, rfl, rfl, rfl, trivial⟩ ?_
    refine sSeq ?_
    refine W.region ?_
    refine OpsW.det (det_move rfl) rfl ?_
    refine OpsW.det (det_move rfl) rfl ?_
    refine OpsW.det (det_move rfl) rfl ?_
    refine OpsW.det (det_move rfl) rfl ?_
    refine OpsW.det (det_build rfl bld65) rfl ?_
    refine OpsW.det (det_call en90 rfl (fun w hb ho => rreduce_ws ht0 ht1 ht2 ht3 hT ho.blocks)) rfl ?_
    refine OpsW.det (det_build rfl bld67) rfl ?_
    refine OpsW.store sz67 rfl rfl rfl rfl rfl (Upd.here) rfl ?_
    refine sNext ?_
    refine W.keep (F' := [(4, _)]) ⟨rfl, trivial⟩ ?_
    refine sRet ?_
    exact done1 Tryd.results73 (rv_cellA ty67 rfl (List.Mem.head _) rfl) (congrArg enc4 hE)

end Go.Cu

/- The scalars: what the functions compute: the walks. Conditions: none. -/
namespace Go.Cu
open Go Go.Vm Go.RowKit Go.Proofs 
attribute [local irreducible] W OpsW Det Fresh New Writes Vm.Pure Makes Changes ExternTo BuildTo ZeroTo FieldTo IndexTo BinTo SliceTo Vm.Enters
set_option linter.unusedVariables false
set_option linter.unusedSimpArgs false
variable {T : Nat → TypeId × Nat × Nat}

theorem montr_mul (x y : Fs) : montr x * montr y * inv_rr % rr = montr (x * y) := by
  unfold montr
  rw [Zp.mul_val, Nat.mul_mod, ← Nat.mul_mod (x.val * R4), ← Nat.mul_mod, Nat.mod_mul_mod,
    show x.val * R4 * (y.val * R4) * inv_rr = x.val * y.val * R4 * (R4 * inv_rr) from by ac_rfl, Nat.mul_mod, show R4 * inv_rr % rr = 1 from by decide +kernel, Nat.mul_one, Nat.mod_mod]
theorem montr_add (x y : Fs) : (montr x + montr y) % rr = montr (x + y) := by
  unfold montr
  rw [Zp.add_val, ← Nat.add_mod, ← Nat.add_mul, Nat.mod_mul_mod]
theorem montr_sub (x y : Fs) : (montr x + (rr - montr y)) % rr = montr (x - y) := by
  unfold montr
  rw [Zp.sub_val, Nat.mod_mul_mod]
  have h1 := Nat.mod_lt (y.val * R4) rr_pos
  have h2 := Nat.div_add_mod (y.val * R4) rr
  have hy := y.lt
  have h3 : (x.val + (rr - y.val)) * R4 + rr * (y.val * R4 / rr) = (x.val * R4 + (rr - y.val * R4 % rr)) + rr * (R4 - 1) := by
    have : (rr - y.val) * R4 + y.val * R4 = rr * R4 := by rw [← Nat.add_mul, Nat.sub_add_cancel (Nat.le_of_lt hy)]
    have h5 : rr * R4 = rr * (R4 - 1) + rr := by rw [← Nat.mul_succ]; rfl
    rw [Nat.add_mul]
    generalize rr * (R4 - 1) = z at *
    omega
  have h4 := congrArg (· % rr) h3
  simp only [Nat.add_mul_mod_self_left] at h4
  rw [h4, Nat.add_mod, Nat.mod_mod, ← Nat.add_mod]
theorem RAdd_ok {x y : Fs} {w : World} (hG : Blocks (GH T) w) : Vm.Pure Tryd.prog 74 #[encR x, encR y] w (encR (x + y)) := (RAdd_w_ok (S := montr x + montr y) rfl (montr_lt x) (montr_lt y) hG).same (congrArg enc4 (montr_add x y))
theorem RMul_ok {x y : Fs} {w : World} (hG : Blocks (GH T) w) : Vm.Pure Tryd.prog 73 #[encR x, encR y] w (encR (x * y)) := (RMul_w_ok (montr_lt x) (montr_lt y) hG).same (congrArg enc4 (montr_mul x y))
theorem rof_words {n : Nat} (h : n < 18446744073709551616) : enc4 n = .agg #[u64 n, .int .u64 0, .int .u64 0, .int .u64 0] := by
  have := lim4 h (by decide : 0 < 18446744073709551616) (by decide : 0 < 18446744073709551616) (by decide : 0 < 18446744073709551616)
  have hv : val4 n 0 0 0 = n := by simp [val4]
  rw [hv] at this
  exact this
def R44 : Nat := val4 14526898881837571181 3129137299524312099 419701826671360399 524908885293268753
theorem ROf_call {n : Nat} {w : World} (hn : n < 18446744073709551616) (hG : Blocks (GH T) w) : Vm.Pure Tryd.prog 73 #[.agg #[u64 n, .int .u64 0, .int .u64 0, .int .u64 0], .agg glo0.toArray] w (encR (Zp.of n)) := by
  have h := RMul_w_ok (X := n) (Y := R44) (Nat.lt_trans hn (by decide)) (by decide) hG
  rw [← rof_words hn]
  refine h.same (congrArg enc4 ?_)
  unfold montr
  show _ = (n % rr) * R4 % rr
  rw [Nat.mod_mul_mod, Nat.mul_assoc, Nat.mul_mod, show R44 * inv_rr % rr = R4 % rr from by decide +kernel, ← Nat.mul_mod]
theorem RPlain_call {x : Fs} {w : World} (hG : Blocks (GH T) w) : Vm.Pure Tryd.prog 73 #[encR x, .agg #[u64 1, .int .u64 0, .int .u64 0, .int .u64 0]] w (enc4 x.val) := by
  have h := RMul_w_ok (X := montr x) (Y := 1) (montr_lt x) (by decide) hG
  rw [← rof_words (n := 1) (by decide)]
  refine h.same (congrArg enc4 ?_)
  unfold montr
  rw [Nat.mul_one, Nat.mod_mul_mod, Nat.mul_assoc, Nat.mul_mod, show R4 * inv_rr % rr = 1 from by decide +kernel, Nat.mul_one, Nat.mod_mod, Nat.mod_eq_of_lt x.lt]
theorem zR : (.agg #[.int .u64 0, .int .u64 0, .int .u64 0, .int .u64 0] : Value) = encR 0 := by kernel_rfl

theorem bld65_0 {v0 : Int} : BuildTo Tryd.prog 65 [(0, .int .u64 v0)] (.agg #[.int .u64 v0, .int .u64 0, .int .u64 0, .int .u64 0]) := BuildTo.of fun _ => by kernel_rfl
theorem en73 : Vm.Enters Tryd.prog 73 := Vm.Enters.of fun _ _ => by kernel_rfl
theorem ROf_ok {n : Nat} (hn : n < 18446744073709551616) {w : World} (hG : Blocks (GH T) w)  : Vm.Pure Tryd.prog 48 #[u64 n] w (encR (Zp.of n)) := by
  refine pure_of_W (n := 9) (args := [u64 n]) Tryd.func48 rfl Tryd.ntmps48 (Nat.le_of_ble_eq_true rfl) hG ?_
  refine sStart ?_
  refine sSeq ?_
  refine W.region ?_
  refine OpsW.fresh (fr_alloc z67) rfl fun b2 => ?_
  refine sNext ?_
  refine sSeq ?_
  refine W.region ?_
  refine OpsW.det (det_move rfl) rfl ?_
  refine OpsW.det (det_build rfl bld65_0) rfl ?_
  refine OpsW.det (det_build rfl bld67) rfl ?_
  refine OpsW.det (det_loadA_ro ty65 rfl (List.Mem.tail _ (List.Mem.tail _ (List.Mem.head _))) rfl) rfl ?_
  refine OpsW.det (det_build rfl bld67) rfl ?_
  refine OpsW.det (det_call en73 rfl (fun w hb ho => ROf_call hn ho.blocks)) rfl ?_
  refine OpsW.store sz67 rfl rfl rfl rfl rfl (Upd.here) rfl ?_
  refine sNext ?_
  refine W.keep (F' := [(2, _)]) ⟨rfl, trivial⟩ ?_
  refine sRet ?_
  exact done1 Tryd.results48 (rv_cellA ty67 rfl (List.Mem.head _) rfl) rfl
theorem fld35 {a b c d : Int} : FieldTo Tryd.prog 67 (.agg #[.int .u64 a, .int .u64 b, .int .u64 c, .int .u64 d]) 0 (.agg #[.int .u64 a, .int .u64 b, .int .u64 c, .int .u64 d]) := FieldTo.of fun _ => by kernel_rfl
theorem RPlain_ok {x : Fs} {w : World} (hG : Blocks (GH T) w)  : Vm.Pure Tryd.prog 91 #[encR x] w (enc4 x.val) := by
  refine pure_of_W (n := 8) (args := [encR x]) Tryd.func91 rfl Tryd.ntmps91 (Nat.le_of_ble_eq_true rfl) hG ?_
  refine sStart ?_
  refine sSeq ?_
  refine W.region ?_
  refine OpsW.fresh (fr_box rfl rfl) rfl fun b1 => ?_
  refine OpsW.fresh (fr_alloc z65) rfl fun b2 => ?_
  refine sNext ?_
  refine W.keep (F' := [(2, _), (1, _)]) ⟨rfl, rfl, trivial⟩ ?_
  refine sSeq ?_
  refine W.region ?_
  refine OpsW.det (det_loadA ty67 rfl (List.Mem.tail _ (List.Mem.head _)) rfl) rfl ?_
  refine OpsW.det (det_build rfl bld65_0) rfl ?_
  refine OpsW.det (det_build rfl bld67) rfl ?_
  refine OpsW.det (det_call en73 rfl (fun w hb ho => RPlain_call ho.blocks)) rfl ?_
  refine OpsW.det (det_field rfl fld35) rfl ?_
  refine OpsW.store sz65 rfl rfl rfl rfl rfl (Upd.here) rfl ?_
  refine sNext ?_
  refine W.keep (F' := [(2, _)]) ⟨rfl, trivial⟩ ?_
  refine sRet ?_
  exact done1 Tryd.results91 (rv_cellA ty65 rfl (List.Mem.head _) rfl) rfl
end Go.Cu

/- The scalars: their bytes: the walks. Conditions: none. -/
namespace Go.Cu
open Go Go.Vm Go.RowKit Go.Proofs 
attribute [local irreducible] W OpsW Det Fresh New Writes Vm.Pure Makes Changes ExternTo BuildTo ZeroTo FieldTo IndexTo BinTo SliceTo Vm.Enters
set_option linter.unusedVariables false
set_option linter.unusedSimpArgs false
variable {T : Nat → TypeId × Nat × Nat}

/-- Byte j of x, the lowest first. -/
def byt (x j : Nat) : Nat := x / 256 ^ j % 256
def u8 (n : Nat) : Value := .int .u8 (n : Int)
/-- The bytes of x from the n-th down to the k-th. -/
def bytes (x n : Nat) : Nat → List Value
  | 0 => []
  | k + 1 => bytes x n k ++ [u8 (byt x (n - 1 - k))]
theorem bytes_len (x n k : Nat) : (bytes x n k).length = k := by
  induction k with
  | zero => rfl
  | succ k ih => simp [bytes, ih]
theorem slice22 {v : Int} : SliceTo Tryd.prog 22 1 [(0, .int .u8 v)] [.int .u8 v] 5 := SliceTo.of fun _ => by kernel_rfl
theorem wrap_u8 {a : Nat} : IntKind.u8.wrap (a : Int) = ((a % 256 : Nat) : Int) := by simp [IntKind.wrap, IntKind.signed, IntKind.bits]
theorem ty22 : TyS Tryd.prog 22 5 1 1 [.int .u8 0] := ⟨by kernel_rfl, by kernel_rfl, by kernel_rfl, ⟨.int .u8 0, by kernel_rfl, by kernel_rfl⟩, rfl, by decide⟩
theorem byt_eq (x i : Nat) : x / 2 ^ (8 * i) % 256 = byt x i := by unfold byt; rw [Nat.pow_mul]
theorem isSl_at {el s len : Nat} {v : Value} {hp : Hp} {xs : List Value} (h : IsSl el s v len hp xs) (h0 : 0 < len) : ∃ p : Prm, v = .slice (some ⟨p.1, 0, none⟩) len p.2.1 ∧ hp = [(p.1, blk (xs ++ p.2.2) el)] ∧ (xs ++ p.2.2).length = p.2.1 * s := by
  cases h with
  | nil => omega
  | at_ h1 h2 h3 => exact ⟨(_, _, _), rfl, rfl, h2⟩

theorem u26 : Tryd.prog.underlying 26 = some (.int .u64) := by kernel_rfl
theorem u5 : Tryd.prog.underlying 5 = some (.int .u8) := by kernel_rfl
theorem put_ok {x n : Nat} (hx : x < 18446744073709551616) (hn : 0 < n ∧ n ≤ 8) {w : World} (hG : Blocks (GH T) w)  : Makes Tryd.prog 92 #[.slice none 0 0, u64 x, .int .i64 (n : Nat)] w (fun p => .slice (some ⟨p.1, 0, none⟩) n p.2.1) (fun p => [(p.1, blk (bytes x n n ++ p.2.2) 5)]) (fun p => (bytes x n n ++ p.2.2).length = p.2.1 * 1) := by
  refine makes_of_W (n := 23) (args := [.slice none 0 0, u64 x, .int .i64 (n : Nat)]) Tryd.func92 rfl Tryd.ntmps92 (Nat.le_of_ble_eq_true rfl) hG ?_
  refine sStart ?_
  refine sSeq ?_
  refine W.region ?_
  refine OpsW.det (det_assign rfl) rfl ?_
  refine sNext ?_
  refine W.keep (F' := [(0, _), (1, _), (2, _)]) ⟨rfl, rfl, rfl, trivial⟩ ?_
  refine sSeq ?_
  refine sSeq ?_
  refine W.region ?_
  refine OpsW.det (det_move rfl) rfl ?_
  refine OpsW.det (det_subZ (c := ((n - 0 : Nat) : Int) - 1) rfl rfl (by omega) (by omega)) rfl ?_
  refine OpsW.det (det_assign rfl) rfl ?_
  refine sNext ?_
  refine W.keep (F' := [(7, _), (0, _), (1, _)]) ⟨rfl, rfl, rfl, trivial⟩ ?_
  refine sBlock ?_
  refine sLoop (σ := Nat × Value × Hp) (fun s => [(7, .int .i64 (((n - s.1 : Nat) : Int) - 1)), (1, u64 x), (0, s.2.1)]) (fun s => s.2.2) (fun s => s.1 ≤ n ∧ IsSl 5 1 s.2.1 s.1 s.2.2 (bytes x n s.1)) (fun s => n - s.1) (0, .slice none 0 0, []) ⟨Nat.zero_le _, .nil⟩ ⟨rfl, rfl, rfl, trivial⟩ (List.Sublist.refl _) ?_
  rintro ⟨k, v, hp⟩ ⟨hk, hsl⟩
  change IsSl 5 1 v k hp (bytes x n k) at hsl
  change k ≤ n at hk
  refine W.norm (F' := [(7, .int .i64 (((n - k : Nat) : Int) - 1)), (1, u64 x), (0, v)]) (H' := hp) rfl rfl ?_
  refine sSeq ?_
  refine sSeq ?_
  refine W.region ?_
  refine OpsW.det (det_move rfl) rfl ?_
  refine OpsW.det (det_geq rfl rfl) rfl ?_
  refine sNext ?_
  refine W.keep (F' := [(11, _), (7, _), (1, _), (0, _)]) ⟨rfl, rfl, rfl, rfl, trivial⟩ ?_
  refine W.cond rfl (fun hc11 => ?_) (fun hc11 => ?_)
  · skip
    have hkn : k < n := by have h := hc11; simp only [decide_eq_true_eq] at h; omega
    refine W.norm (F' := [(11, _), (7, .int .i64 ((n - 1 - k : Nat) : Int)), (1, u64 x), (0, v)]) (H' := hp) (by rw [show ((n - k : Nat) : Int) - 1 = ((n - 1 - k : Nat) : Int) by omega]) rfl ?_
    refine sSkip ?_
    refine sSeq ?_
    refine sBlock ?_
    refine W.region ?_
    refine OpsW.det (det_move rfl) rfl ?_
    refine OpsW.det (det_move rfl) rfl ?_
    refine OpsW.det (det_move rfl) rfl ?_
    refine OpsW.det ((det_mul rfl rfl).to (v := .int .i64 ((8 * (n - 1 - k) : Nat) : Int)) (by rw [wrap_i64 (by omega)]; congr 1)) rfl ?_
    refine OpsW.det (det_shrN rfl rfl (by omega)) rfl ?_
    refine OpsW.det ((det_conv u26 u5 rfl).to (v := u8 (byt x (n - 1 - k))) (by rw [wrap_u8, byt_eq]; rfl)) rfl ?_
    refine OpsW.fresh (fr_buildSlice rfl slice22) rfl fun b20 => ?_
    refine OpsW.perm (H' := hp ++ [(b20, blk [u8 (byt x (n - 1 - k))] 5)]) List.perm_append_comm ?_
    refine OpsW.append (dd := 21) ty22 rfl hsl rfl (.inl (List.mem_append_right _ (List.Mem.head _))) rfl (fun j u h => by simpa using h) rfl (by show k + 1 ≤ 9223372036854775807; omega) (by show (k + 1) * 1 ≤ 140737488355328; omega) rfl fun v' hp' hsl' => ?_
    refine OpsW.det (det_assign rfl) rfl ?_
    refine sLast ?_
    refine bNext ?_
    refine W.keep (F' := [(0, _), (7, _), (1, _)]) ⟨rfl, rfl, rfl, trivial⟩ ?_
    refine W.region ?_
    refine OpsW.det (det_move rfl) rfl ?_
    refine OpsW.det (det_subZ (c := ((n - (k + 1) : Nat) : Int) - 1) rfl rfl (by omega) (by omega)) rfl ?_
    refine OpsW.det (det_assign rfl) rfl ?_
    refine sLast ?_
    exact rEnd (k + 1, v', hp') ⟨by omega, hsl'⟩ ⟨rfl, rfl, rfl, trivial⟩ (List.sublist_append_left _ _) (by show n - (k + 1) < n - k; omega)
  · skip
    have hkn : k = n := by have h := hc11; simp only [decide_eq_false_iff_not] at h; omega
    subst hkn
    obtain ⟨p, rfl, rfl, hpp⟩ := isSl_at hsl hn.1
    refine sExit ?_
    refine xLoop ?_
    refine xHere ?_
    refine W.keep (F' := [(0, _)]) ⟨rfl, trivial⟩ ?_
    refine sSeq ?_
    refine W.region ?_
    refine OpsW.det (det_move rfl) rfl ?_
    refine OpsW.det (det_assign rfl) rfl ?_
    refine sNext ?_
    refine W.keep (F' := [(6, _)]) ⟨rfl, trivial⟩ ?_
    refine sRet ?_
    exact done1 Tryd.results92 (rv_tmp rfl) ⟨p, hpp, rfl, List.Sublist.refl _⟩

end Go.Cu

/- The scalars: how they are written: the walk. Conditions: none. -/
namespace Go.Cu
open Go Go.Vm Go.RowKit Go.Proofs 
attribute [local irreducible] W OpsW Det Fresh New Writes Vm.Pure Makes Changes ExternTo BuildTo ZeroTo FieldTo IndexTo BinTo SliceTo Vm.Enters
set_option linter.unusedVariables false
set_option linter.unusedSimpArgs false
variable {T : Nat → TypeId × Nat × Nat}

theorem over_app : ∀ {new c : List Value}, new.length ≤ c.length → over new c = some (new ++ c.drop new.length)
  | [], c, _ => by simp [over]
  | v :: new, [], h => by simp at h
  | v :: new, x :: c, h => by
    have := over_app (new := new) (c := c) (by simpa using h)
    simp [over, this]
theorem splice_app {new c : List Value} (h : new.length ≤ c.length) : ∀ {a : List Value}, splice a.length new (a ++ c) = some (a ++ new ++ c.drop new.length)
  | [] => by simpa [splice] using over_app h
  | x :: a => by
    have := splice_app h (a := a)
    simp [splice, this]
theorem byt_lim {V w j : Nat} (hj : j < 8) : byt (lim V w) j = byt V (8 * w + j) := by
  unfold byt lim
  have h1 : 18446744073709551616 ^ w = 256 ^ (8 * w) := by rw [Nat.pow_mul]
  have h2 : (18446744073709551616 : Nat) = 256 ^ j * 256 ^ (8 - j) := by rw [← Nat.pow_add, show j + (8 - j) = 8 by omega]
  rw [h1, h2, Nat.mod_mul_right_div_self, Nat.div_div_eq_div_mul, ← Nat.pow_add]
  exact Nat.mod_mod_of_dvd _ (by rw [show 8 - j = (7 - j) + 1 by omega, Nat.pow_succ]; exact Nat.dvd_mul_left _ _)
theorem bytes_more (x n k : Nat) : ∀ j, bytes x n (k + j) = bytes x n k ++ (List.range j).map fun i => u8 (byt x (n - 1 - (k + i)))
  | 0 => by simp
  | j + 1 => by rw [← Nat.add_assoc, bytes, bytes_more x n k j, List.range_succ]; simp
theorem bytes_all (x n : Nat) : bytes x n n = (List.range n).map fun i => u8 (byt x (n - 1 - i)) := by
  have := bytes_more x n 0 n
  simpa [bytes] using this
theorem bytes_word {V i : Nat} (h : i < 4) : bytes V 32 (8 * i) ++ bytes (lim V (3 - i)) 8 8 = bytes V 32 (8 * (i + 1)) := by
  rw [Nat.mul_succ, bytes_more V 32 (8 * i) 8, bytes_all]
  congr 1
  refine List.map_congr_left fun j hj => ?_
  have hj : j < 8 := by simpa using hj
  rw [byt_lim (by omega)]
  congr 2
  omega
/-- The first i words' bytes, and noughts. -/
def bst (V i : Nat) : List Value := bytes V 32 (8 * i) ++ List.replicate (32 - 8 * i) (u8 0)
theorem bst_put {V i : Nat} (h : i < 4) : splice (8 * i) (bytes (lim V (3 - i)) 8 8) (bst V i) = some (bst V (i + 1)) := by
  have := splice_app (a := bytes V 32 (8 * i)) (new := bytes (lim V (3 - i)) 8 8) (c := List.replicate (32 - 8 * i) (u8 0)) (by rw [bytes_len, List.length_replicate]; omega)
  rw [bytes_len] at this
  unfold bst
  rw [this, bytes_word h, bytes_len, List.drop_replicate]
  congr 3
theorem bytes_one (x n k : Nat) : (bytes x n k).all (·.oneCell') = true := by
  induction k with
  | zero => rfl
  | succ k ih => rw [bytes, List.all_append, ih]; rfl
theorem u101 : Tryd.prog.underlying 101 = some (.array 32 5) := by kernel_rfl
theorem u22 : Tryd.prog.underlying 22 = some (.slice 5) := by kernel_rfl
theorem sz5 : sizeIn Tryd.prog 5 = some 1 := by kernel_rfl
theorem z101 : TyZ Tryd.prog 101 (.agg (bst 0 0).toArray) (bst 0 0) := ⟨fun _ => by kernel_rfl, by kernel_rfl⟩
theorem bst_4 {V : Nat} : bst V 4 = bytes V 32 32 := by unfold bst; simp
/-- How a scalar is written. -/
def rbytes (x : Fs) : List Value := bytes x.val 32 32
theorem rbytes_len (x : Fs) : (rbytes x).length = 32 := bytes_len _ _ _
theorem bst_len {V i : Nat} (h : i ≤ 4) : (bst V i).length = 32 := by unfold bst; rw [List.length_append, bytes_len, List.length_replicate]; omega
theorem cut_all : ∀ {n : Nat} {l : List Value}, l.length = n → takeN n l = some l
  | 0, l, h => by simp [takeN, List.eq_nil_of_length_eq_zero h]
  | n + 1, [], h => by simp at h
  | n + 1, c :: l, h => by simp [takeN, cut_all (n := n) (l := l) (by simpa using h)]
theorem splice_all {new c : List Value} (h : new.length = c.length) : splice 0 new c = some new := by
  have := splice_app (a := []) (new := new) (c := c) (by omega)
  simpa [h] using this
theorem bst_one {V i : Nat} : (bst V i).all (·.oneCell') = true := by
  unfold bst; rw [List.all_append, bytes_one, List.all_replicate]; simp; exact .inr rfl

theorem en91 : Vm.Enters Tryd.prog 91 := Vm.Enters.of fun _ _ => by kernel_rfl
theorem en92 : Vm.Enters Tryd.prog 92 := Vm.Enters.of fun _ _ => by kernel_rfl
theorem sz101 : sizeIn Tryd.prog 101 = some 32 := by kernel_rfl
theorem ty101 : TyA Tryd.prog 101 32 := ⟨by kernel_rfl, by kernel_rfl⟩
theorem RBytes_ok {x : Fs} {w : World} (hG : Blocks (GH T) w)  : Vm.Pure Tryd.prog 75 #[encR x] w (.agg (rbytes x).toArray) := by
  refine pure_of_W (n := 22) (args := [encR x]) Tryd.func75 rfl Tryd.ntmps75 (Nat.le_of_ble_eq_true rfl) hG ?_
  refine sStart ?_
  refine sSeq ?_
  refine W.region ?_
  refine OpsW.fresh (fr_box rfl rfl) rfl fun b1 => ?_
  refine OpsW.fresh (fr_alloc z101) rfl fun b2 => ?_
  refine sNext ?_
  refine W.keep (F' := [(2, _), (1, _)]) ⟨rfl, rfl, trivial⟩ ?_
  refine sSeq ?_
  refine W.region ?_
  refine OpsW.fresh (fr_alloc z101) rfl fun b3 => ?_
  refine sNext ?_
  refine sSeq ?_
  refine W.region ?_
  refine OpsW.det (det_loadA ty67 rfl (List.Mem.tail _ (List.Mem.tail _ (List.Mem.head _))) rfl) rfl ?_
  refine OpsW.det (det_call en91 rfl (fun w hb ho => Cu.RPlain_ok ho.blocks)) rfl ?_
  refine OpsW.fresh (fr_alloc z65) rfl fun b4 => ?_
  refine OpsW.store sz65 rfl rfl rfl rfl rfl (Upd.here) rfl ?_
  refine sNext ?_
  refine W.keep (F' := [(4, _), (3, _), (2, _)]) ⟨rfl, rfl, rfl, trivial⟩ ?_
  refine sSeq ?_
  refine sSeq ?_
  refine W.region ?_
  refine OpsW.det (det_move rfl) rfl ?_
  refine sNext ?_
  refine sBlock ?_
  refine sLoop (σ := Nat) (fun i => [(8, .int .i64 (i : Nat)), (4, .pointer (some ⟨b4, 0, none⟩)), (3, .pointer (some ⟨b3, 0, none⟩)), (2, .pointer (some ⟨b2, 0, none⟩))]) (fun i => [(b4, blk (w4 (lim x.val)) 65), (b3, blk (bst x.val i) 101), (b2, blk (bst 0 0) 101), (b1, blk (w4 (lim (montr x))) 67)]) (fun i => i ≤ 4) (fun i => 4 - i) 0 (by decide) ⟨rfl, rfl, rfl, rfl, trivial⟩ (List.Sublist.refl _) ?_
  intro i hi
  refine sSeq ?_
  refine W.region ?_
  refine OpsW.det (det_lss rfl rfl) rfl ?_
  refine sNext ?_
  refine sSeq ?_
  refine W.cond rfl (fun hc9 => ?_) (fun hc9 => ?_)
  · skip
    have hlt : i < 4 := by have h := hc9; simp only [decide_eq_true_eq] at h; omega
    refine sSkip ?_
    refine sSeq ?_
    refine sBlock ?_
    refine sSeq ?_
    refine W.region ?_
    refine OpsW.det (det_move rfl) rfl ?_
    refine OpsW.det (det_assign rfl) rfl ?_
    refine sNext ?_
    refine W.keep (F' := [(5, _), (8, _), (4, _), (3, _), (2, _)]) ⟨rfl, rfl, rfl, rfl, rfl, trivial⟩ ?_
    refine W.draw mixed 8 [[], [0], [0, 1], [], [3], [3, 4], [3, 4, 5], [3, 4, 5, 6], [0, 1, 2, 3, 4, 5, 6, 7]] (cl_lt (by decide)) ?_
    refine HeadR.start (cl_lt (by decide)) ?_
    refine HeadR.det rfl (fun β hβ => (det_move rfl)) ?_
    refine HeadR.det rfl (fun β hβ => ((det_mul rfl rfl).to (v := .int .i64 ((8 * i : Nat) : Int)) (by rw [wrap_i64 (by omega)]; congr 1))) ?_
    refine HeadR.det rfl (fun β hβ => ((det_sliceArr (lo := some (.tmp 12)) (hi := none) (l := 8 * i) (h := 32) u101 sz5 rfl ⟨_, rfl⟩ rfl (by omega) (by omega)).to (v := .slice (some ⟨b3, 8 * i, none⟩) (32 - 8 * i) (32 - 8 * i)) (by rw [if_neg (by omega)]; simp))) ?_
    refine HeadR.det rfl (fun β hβ => (det_move rfl)) ?_
    refine HeadR.det rfl (fun β hβ => (det_subZ (c := ((3 - i : Nat) : Int)) rfl rfl (by omega) (by omega))) ?_
    refine HeadR.det rfl (fun β hβ => (det_indexAddr_arr u65 sz26 rfl rfl ⟨by omega, by omega⟩)) ?_
    refine HeadR.det rfl (fun β hβ => (det_loadC ty26 rfl (List.Mem.head _) (at4 (f := lim x.val) (i := 3 - i) (by omega) (by omega)))) ?_
    refine HeadR.fresh rfl (fun β hβ => (new_call en92 rfl (fun w hb ho => put_ok (x := lim x.val (3 - i)) (n := 8) (lim_lt _ _) (by decide) ho.blocks))) ?_
    refine HeadR.done ⟨by kernel_rfl, fun β hβ => ?_⟩
    refine OpsW.norm (F' := [(11, _), (12, _), (13, _), (14, _), (15, _), (16, _), (17, _), (18, .slice (some ⟨(β 18).1, 0, none⟩) 8 (β 18).2.1), (5, _), (8, _), (4, _), (3, _), (2, _)]) (H' := [(_, _), (_, _), (_, _), (_, _), (_, _)]) rfl rfl ?_
    generalize β 18 = p18
    refine OpsW.copy u22 sz5 rfl rfl (.inl (List.Mem.head _)) (by rw [bytes_len]; show 8 = min 8 (32 - 8 * i); omega) (fun j u h => by rw [Nat.zero_add, List.getElem?_append_left (List.getElem?_eq_some_iff.1 h).1]; exact h) (bytes_one _ _ _) (Upd.there (Upd.there Upd.here)) (bst_put hlt) rfl ?_
    refine sLast ?_
    refine bNext ?_
    refine W.keep (F' := [(8, _), (4, _), (3, _), (2, _)]) ⟨rfl, rfl, rfl, rfl, trivial⟩ ?_
    refine W.region ?_
    refine OpsW.det (det_addN (b := 1) rfl rfl (idx_ok hlt (by decide))) rfl ?_
    refine OpsW.det (det_move rfl) rfl ?_
    refine sLast ?_
    exact rEnd (i + 1) hlt ⟨rfl, rfl, rfl, rfl, trivial⟩ (List.Sublist.cons _ (List.Sublist.refl _)) (step_lt hlt)
  · skip
    have hi4 : i = 4 := by have h := hc9; simp only [decide_eq_false_iff_not] at h; omega
    subst hi4
    refine sExit ?_
    refine xLoop ?_
    refine xHere ?_
    refine W.keep (F' := [(3, _), (2, _)]) ⟨rfl, rfl, trivial⟩ ?_
    refine sSeq ?_
    refine W.region ?_
    refine OpsW.det (det_loadA ty101 rfl (List.Mem.tail _ (List.Mem.head _)) (show cut 0 32 (bst x.val 4) = some (bst x.val 4) from cut_all (bst_len (Nat.le_refl _)))) rfl ?_
    refine OpsW.store sz101 rfl rfl rfl (bst_len (Nat.le_refl _)) bst_one (Upd.there (Upd.there (Upd.here))) (splice_all (by rw [bst_len (Nat.le_refl _), bst_len (Nat.zero_le _)])) ?_
    refine sNext ?_
    refine W.keep (F' := [(2, _)]) ⟨rfl, trivial⟩ ?_
    refine sRet ?_
    exact done1 Tryd.results75 (rv_cellA ty101 rfl (List.Mem.tail _ (List.Mem.tail _ (List.Mem.head _))) (show cut 0 32 (bst x.val 4) = some (bst x.val 4) from cut_all (bst_len (Nat.le_refl _)))) (congrArg (fun l : List Value => Value.agg l.toArray) bst_4)

end Go.Cu
