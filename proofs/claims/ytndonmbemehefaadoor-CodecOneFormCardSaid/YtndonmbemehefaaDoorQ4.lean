/-
  Part 4 of the joined texts of the curves' laws: The first group's points: what Neg, On, Add compute: the walks. Conditions: none.
  Conditions: those that each theorem states.
-/
import Derived.Test.YtndonmbemehefaaDoorQ3
import Derived.Test.YtndonmbemehefaaDoorQ2
/- The first group's points: what Neg, On, Add compute: the walks. Conditions: none. -/
namespace Go.Cu
open Go Go.Vm Go.RowKit Go.Proofs 
attribute [local irreducible] W OpsW Det Fresh New Writes Vm.Pure Makes Changes ExternTo BuildTo ZeroTo FieldTo IndexTo BinTo SliceTo Vm.Enters
set_option linter.unusedVariables false
set_option linter.unusedSimpArgs false
variable {T : Nat → TypeId × Nat × Nat}

def inv (x : Fq) : Fq := pw x (pp - 2)
def four : Fq := Zp.of 4
def pneg (p : Pt) : Pt := if p = (0, 0) then p else (p.1, 0 - p.2)
def onB (p : Pt) : Bool := decide (p = (0, 0)) || decide (p.2 * p.2 = p.1 * p.1 * p.1 + four)
def tojac (p : Pt) : Jac := if p = (0, 0) then (0, 0, 0) else (p.1, p.2, Zp.of 1)
def jdbl (p : Jac) : Jac :=
  if p.2.2 = 0 then (0, 0, 0) else if p.2.1 = 0 then (0, 0, 0) else
    let a := p.1 * p.1
    let b := p.2.1 * p.2.1
    let c := b * b
    let d0 := (p.1 + b) * (p.1 + b) - a - c
    let d := d0 + d0
    let e := a + a + a
    let f := e * e - d - d
    let c4 := (c + c) + (c + c)
    (f, e * (d - f) - c4 - c4, p.2.1 * p.2.2 + p.2.1 * p.2.2)
def jaddH (p : Jac) (q : Pt) : Fq := q.1 * (p.2.2 * p.2.2) - p.1
def jaddR (p : Jac) (q : Pt) : Fq := q.2 * p.2.2 * (p.2.2 * p.2.2) - p.2.1
def jaddN (p : Jac) (q : Pt) : Jac :=
  let zz := p.2.2 * p.2.2
  let h := jaddH p q
  let r := jaddR p q + jaddR p q
  let hh := h * h
  let i := (hh + hh) + (hh + hh)
  let j := h * i
  let v := p.1 * i
  let x := r * r - j - v - v
  let yj := p.2.1 * j
  (x, r * (v - x) - yj - yj, (p.2.2 + h) * (p.2.2 + h) - zz - hh)
def jadd (p : Jac) (q : Pt) : Jac :=
  if q = (0, 0) then p else if p.2.2 = 0 then tojac q else if jaddH p q = 0 then (if jaddR p q = 0 then jdbl p else (0, 0, 0)) else jaddN p q
def point (p : Jac) : Pt := if p.2.2 = 0 then (0, 0) else
  let i := inv p.2.2
  let i2 := i * i
  (p.1 * i2, p.2.1 * i2 * i)
def padd (p q : Pt) : Pt := point (jadd (tojac p) q)
theorem Inv_call {x : Fq} {w : World} (hG : Blocks (GH T) w) : Vm.Pure Tryd.prog 60 #[encF x, .agg #[u64 13402431016077863593, u64 2210141511517208575, u64 7435674573564081700, u64 7239337960414712511, u64 5412103778470702295, u64 1873798617647539866]] w (encF (inv x)) := by
  have h := power_ok (x := x) (E := pp - 2) (by decide) hG
  have e : Value.agg #[u64 (lim (pp - 2) 0), u64 (lim (pp - 2) 1), u64 (lim (pp - 2) 2), u64 (lim (pp - 2) 3), u64 (lim (pp - 2) 4), u64 (lim (pp - 2) 5)] = .agg #[u64 13402431016077863593, u64 2210141511517208575, u64 7435674573564081700, u64 7239337960414712511, u64 5412103778470702295, u64 1873798617647539866] := by kernel_rfl
  rw [e] at h
  exact h
theorem dt {p : Prop} [Decidable p] (h : decide p = true) : p := of_decide_eq_true h
theorem df {p : Prop} [Decidable p] (h : decide p = false) : ¬ p := of_decide_eq_false h
theorem pneg_yes {p : Pt} (h : decide (p = (0, 0)) = true) : pneg p = p := if_pos (dt h)
theorem pneg_no {p : Pt} (h : decide (p = (0, 0)) = false) : pneg p = (p.1, 0 - p.2) := if_neg (df h)
theorem tojac_yes {p : Pt} (h : decide (p = (0, 0)) = true) : tojac p = (0, 0, 0) := if_pos (dt h)
theorem tojac_no {p : Pt} (h : decide (p = (0, 0)) = false) : tojac p = (p.1, p.2, Zp.of 1) := if_neg (df h)
theorem point_yes {p : Jac} (h : decide (p.2.2 = 0) = true) : point p = (0, 0) := if_pos (dt h)
theorem point_no {p : Jac} (h : decide (p.2.2 = 0) = false) : point p = (p.1 * (inv p.2.2 * inv p.2.2), p.2.1 * (inv p.2.2 * inv p.2.2) * inv p.2.2) := if_neg (df h)
theorem jdbl_z {p : Jac} (h : decide (p.2.2 = 0) = true) : jdbl p = (0, 0, 0) := if_pos (dt h)
theorem jdbl_y {p : Jac} (h : decide (p.2.2 = 0) = false) (h2 : decide (p.2.1 = 0) = true) : jdbl p = (0, 0, 0) := (if_neg (df h)).trans (if_pos (dt h2))
theorem jdbl_no {p : Jac} (h : decide (p.2.2 = 0) = false) (h2 : decide (p.2.1 = 0) = false) : jdbl p = (
    let a := p.1 * p.1
    let b := p.2.1 * p.2.1
    let c := b * b
    let d0 := (p.1 + b) * (p.1 + b) - a - c
    let d := d0 + d0
    let e := a + a + a
    let f := e * e - d - d
    let c4 := (c + c) + (c + c)
    (f, e * (d - f) - c4 - c4, p.2.1 * p.2.2 + p.2.1 * p.2.2)) := (if_neg (df h)).trans (if_neg (df h2))
theorem jadd_q {p : Jac} {q : Pt} (h : decide (q = (0, 0)) = true) : jadd p q = p := if_pos (dt h)
theorem jadd_p {p : Jac} {q : Pt} (h : decide (q = (0, 0)) = false) (h2 : decide (p.2.2 = 0) = true) : jadd p q = tojac q := (if_neg (df h)).trans (if_pos (dt h2))
theorem jadd_d {p : Jac} {q : Pt} (h : decide (q = (0, 0)) = false) (h2 : decide (p.2.2 = 0) = false) (h3 : decide (jaddH p q = 0) = true) (h4 : decide (jaddR p q = 0) = true) : jadd p q = jdbl p :=
  (if_neg (df h)).trans ((if_neg (df h2)).trans ((if_pos (dt h3)).trans (if_pos (dt h4))))
theorem jadd_o {p : Jac} {q : Pt} (h : decide (q = (0, 0)) = false) (h2 : decide (p.2.2 = 0) = false) (h3 : decide (jaddH p q = 0) = true) (h4 : decide (jaddR p q = 0) = false) : jadd p q = (0, 0, 0) :=
  (if_neg (df h)).trans ((if_neg (df h2)).trans ((if_pos (dt h3)).trans (if_neg (df h4))))
theorem jadd_n {p : Jac} {q : Pt} (h : decide (q = (0, 0)) = false) (h2 : decide (p.2.2 = 0) = false) (h3 : decide (jaddH p q = 0) = false) : jadd p q = jaddN p q :=
  (if_neg (df h)).trans ((if_neg (df h2)).trans (if_neg (df h3)))

theorem bld31 {x y : Fq} : BuildTo Tryd.prog 31 [(0, encF x), (1, encF y)] (encP (x, y)) := BuildTo.of fun _ => by kernel_rfl
theorem bld107 {x y z : Fq} : BuildTo Tryd.prog 107 [(0, encF x), (1, encF y), (2, encF z)] (encJ (x, y, z)) := BuildTo.of fun _ => by kernel_rfl
theorem bz31 : ZeroTo Tryd.prog 31 (encP (0, 0)) := ZeroTo.of fun _ => by kernel_rfl
theorem bz107 : ZeroTo Tryd.prog 107 (encJ (0, 0, 0)) := ZeroTo.of fun _ => by kernel_rfl
theorem en18 : Vm.Enters Tryd.prog 18 := Vm.Enters.of fun _ _ => by kernel_rfl
theorem en93 : Vm.Enters Tryd.prog 93 := Vm.Enters.of fun _ _ => by kernel_rfl
theorem en23 : Vm.Enters Tryd.prog 23 := Vm.Enters.of fun _ _ => by kernel_rfl
theorem en70 : Vm.Enters Tryd.prog 70 := Vm.Enters.of fun _ _ => by kernel_rfl
theorem en65 : Vm.Enters Tryd.prog 65 := Vm.Enters.of fun _ _ => by kernel_rfl
theorem en81 : Vm.Enters Tryd.prog 81 := Vm.Enters.of fun _ _ => by kernel_rfl
theorem en98 : Vm.Enters Tryd.prog 98 := Vm.Enters.of fun _ _ => by kernel_rfl
theorem en67 : Vm.Enters Tryd.prog 67 := Vm.Enters.of fun _ _ => by kernel_rfl
theorem en60 : Vm.Enters Tryd.prog 60 := Vm.Enters.of fun _ _ => by kernel_rfl
theorem fl31_0 : TyF Tryd.prog 31 0 0 6 := ⟨⟨29, by kernel_rfl, by kernel_rfl⟩, by decide⟩
theorem fl31_1 : TyF Tryd.prog 31 1 6 6 := ⟨⟨29, by kernel_rfl, by kernel_rfl⟩, by decide⟩
theorem fl107_0 : TyF Tryd.prog 107 0 0 6 := ⟨⟨29, by kernel_rfl, by kernel_rfl⟩, by decide⟩
theorem fl107_1 : TyF Tryd.prog 107 1 6 6 := ⟨⟨29, by kernel_rfl, by kernel_rfl⟩, by decide⟩
theorem fl107_2 : TyF Tryd.prog 107 2 12 6 := ⟨⟨29, by kernel_rfl, by kernel_rfl⟩, by decide⟩
theorem sz31 : sizeIn Tryd.prog 31 = some 12 := by kernel_rfl
theorem sz107 : sizeIn Tryd.prog 107 = some 18 := by kernel_rfl
theorem ty31 : TyA Tryd.prog 31 12 := ⟨by kernel_rfl, by kernel_rfl⟩
theorem ty107 : TyA Tryd.prog 107 18 := ⟨by kernel_rfl, by kernel_rfl⟩
theorem z31 : TyZ Tryd.prog 31 (.agg #[.int .u64 0, .int .u64 0, .int .u64 0, .int .u64 0, .int .u64 0, .int .u64 0, .int .u64 0, .int .u64 0, .int .u64 0, .int .u64 0, .int .u64 0, .int .u64 0]) [.int .u64 0, .int .u64 0, .int .u64 0, .int .u64 0, .int .u64 0, .int .u64 0, .int .u64 0, .int .u64 0, .int .u64 0, .int .u64 0, .int .u64 0, .int .u64 0] := ⟨fun _ => by kernel_rfl, by kernel_rfl⟩
theorem z107 : TyZ Tryd.prog 107 (.agg #[.int .u64 0, .int .u64 0, .int .u64 0, .int .u64 0, .int .u64 0, .int .u64 0, .int .u64 0, .int .u64 0, .int .u64 0, .int .u64 0, .int .u64 0, .int .u64 0, .int .u64 0, .int .u64 0, .int .u64 0, .int .u64 0, .int .u64 0, .int .u64 0]) [.int .u64 0, .int .u64 0, .int .u64 0, .int .u64 0, .int .u64 0, .int .u64 0, .int .u64 0, .int .u64 0, .int .u64 0, .int .u64 0, .int .u64 0, .int .u64 0, .int .u64 0, .int .u64 0, .int .u64 0, .int .u64 0, .int .u64 0, .int .u64 0] := ⟨fun _ => by kernel_rfl, by kernel_rfl⟩
theorem Inv_ok {x : Fq} {w : World} (hG : Blocks (GH T) w)  : Vm.Pure Tryd.prog 67 #[encF x] w (encF (inv x)) := by
  refine pure_of_W (n := 12) (args := [encF x]) Tryd.func67 rfl Tryd.ntmps67 (Nat.le_of_ble_eq_true rfl) hG ?_
  refine sStart ?_
  refine sSeq ?_
  refine W.region ?_
  refine OpsW.fresh (fr_box rfl rfl) rfl fun b1 => ?_
  refine OpsW.fresh (fr_alloc z29) rfl fun b2 => ?_
  refine sNext ?_
  refine W.keep (F' := [(2, _), (1, _)]) ⟨rfl, rfl, trivial⟩ ?_
  refine sSeq ?_
  refine W.region ?_
  refine OpsW.det (det_loadA_ro ty27 rfl (List.Mem.tail _ (List.Mem.head _)) rfl) rfl ?_
  refine OpsW.fresh (fr_alloc z27) rfl fun b3 => ?_
  refine OpsW.store sz27 rfl rfl rfl rfl rfl (Upd.here) rfl ?_
  refine sNext ?_
  refine W.keep (F' := [(3, _), (2, _), (1, _)]) ⟨rfl, rfl, rfl, trivial⟩ ?_
  refine sSeq ?_
  refine W.region ?_
  refine OpsW.det (det_indexAddr_arr u27 sz26 rfl rfl ⟨by decide, by decide⟩) rfl ?_
  refine OpsW.det (det_loadC ty26 rfl (List.Mem.head _) rfl) rfl ?_
  refine OpsW.det ((det_sub (a := 13402431016077863595) (b := 2) rfl rfl).to (v := u64 13402431016077863593) (by kernel_rfl)) rfl ?_
  refine OpsW.det (det_indexAddr_arr u27 sz26 rfl rfl ⟨by decide, by decide⟩) rfl ?_
  refine OpsW.store sz26 rfl rfl rfl rfl rfl (Upd.here) rfl ?_
  refine sNext ?_
  refine W.keep (F' := [(3, _), (2, _), (1, _)]) ⟨rfl, rfl, rfl, trivial⟩ ?_
  refine sSeq ?_
  refine W.region ?_
  refine OpsW.det (det_loadA ty29 rfl (List.Mem.tail _ (List.Mem.tail _ (List.Mem.head _))) rfl) rfl ?_
  refine OpsW.det (det_loadA ty27 rfl (List.Mem.head _) rfl) rfl ?_
  refine OpsW.det (det_call en60 rfl (fun w hb ho => Inv_call ho.blocks)) rfl ?_
  refine OpsW.store sz29 rfl rfl rfl rfl rfl (Upd.there (Upd.here)) rfl ?_
  refine sNext ?_
  refine W.keep (F' := [(2, _)]) ⟨rfl, trivial⟩ ?_
  refine sRet ?_
  exact done1 Tryd.results67 (rv_cellA ty29 rfl (List.Mem.tail _ (List.Mem.head _)) rfl) rfl
theorem PNeg_ok {p : Pt} {w : World} (hG : Blocks (GH T) w)  : Vm.Pure Tryd.prog 45 #[encP p] w (encP (pneg p)) := by
  refine pure_of_W (n := 13) (args := [encP p]) Tryd.func45 rfl Tryd.ntmps45 (Nat.le_of_ble_eq_true rfl) hG ?_
  refine sStart ?_
  refine sSeq ?_
  refine W.region ?_
  refine OpsW.fresh (fr_box rfl rfl) rfl fun b1 => ?_
  refine OpsW.fresh (fr_alloc z31) rfl fun b2 => ?_
  refine sNext ?_
  refine W.keep (F' := [(2, _), (1, _)]) ⟨rfl, rfl, trivial⟩ ?_
  refine sSeq ?_
  refine sSeq ?_
  refine W.region ?_
  refine OpsW.det (det_loadA ty31 rfl (List.Mem.tail _ (List.Mem.head _)) rfl) rfl ?_
  refine OpsW.det (det_zero bz31) rfl ?_
  refine OpsW.det (det_eql31 rfl rfl) rfl ?_
  refine sNext ?_
  refine W.keep (F' := [(5, _), (2, _), (1, _)]) ⟨rfl, rfl, rfl, trivial⟩ ?_
  refine W.cond rfl (fun hc5 => ?_) (fun hc5 => ?_)
  · skip
    refine sSeq ?_
    refine W.region ?_
    refine OpsW.det (det_loadA ty31 rfl (List.Mem.tail _ (List.Mem.head _)) rfl) rfl ?_
    refine OpsW.store sz31 rfl rfl rfl rfl rfl (Upd.here) rfl ?_
    refine sNext ?_
    refine W.keep (F' := [(2, _)]) ⟨rfl, trivial⟩ ?_
    refine sRet ?_
    exact done1 Tryd.results45 (rv_cellA ty31 rfl (List.Mem.head _) rfl) (congrArg encP (pneg_yes hc5).symm)
  · skip
    refine sSkip ?_
    refine sSeq ?_
    refine W.draw mixed 6 [[], [0], [], [2], [2, 3], [0, 1, 2, 3, 4], [0, 1, 2, 3, 4, 5]] (cl_lt (by decide)) ?_
    refine HeadR.start (cl_lt (by decide)) ?_
    refine HeadR.det rfl (fun β hβ => (det_fieldAddr fl31_0 rfl)) ?_
    refine HeadR.det rfl (fun β hβ => (det_loadA ty29 rfl (List.Mem.tail _ (List.Mem.head _)) rfl)) ?_
    refine HeadR.det rfl (fun β hβ => (det_fieldAddr fl31_1 rfl)) ?_
    refine HeadR.det rfl (fun β hβ => (det_loadA ty29 rfl (List.Mem.tail _ (List.Mem.head _)) rfl)) ?_
    refine HeadR.det rfl (fun β hβ => (det_call en23 rfl (fun w hb ho => Cu.Neg_ok ho.blocks))) ?_
    refine HeadR.det rfl (fun β hβ => (det_build rfl bld31)) ?_
    refine HeadR.done ⟨by kernel_rfl, fun β hβ => ?_⟩
    refine OpsW.norm (F' := [(7, _), (8, _), (9, _), (10, _), (11, _), (12, _), (5, _), (2, _), (1, _)]) (H' := [(_, _), (_, _)]) rfl rfl ?_
    refine OpsW.store sz31 rfl rfl rfl rfl rfl (Upd.here) rfl ?_
    refine sNext ?_
    refine W.keep (F' := [(2, _)]) ⟨rfl, trivial⟩ ?_
    refine sRet ?_
    exact done1 Tryd.results45 (rv_cellA ty31 rfl (List.Mem.head _) rfl) (congrArg encP (pneg_no hc5).symm)
theorem POn_ok {p : Pt} {w : World} (hG : Blocks (GH T) w)  : Vm.Pure Tryd.prog 36 #[encP p] w (.bool (onB p)) := by
  refine pure_of_W (n := 20) (args := [encP p]) Tryd.func36 rfl Tryd.ntmps36 (Nat.le_of_ble_eq_true rfl) hG ?_
  refine sStart ?_
  refine sSeq ?_
  refine W.region ?_
  refine OpsW.fresh (fr_box rfl rfl) rfl fun b1 => ?_
  refine OpsW.det (det_assign rfl) rfl ?_
  refine sNext ?_
  refine W.keep (F' := [(1, _)]) ⟨rfl, trivial⟩ ?_
  refine sSeq ?_
  cases hp : decide (p = (0, 0))
  · skip
    refine W.draw mixed 18 [[], [], [0, 1], [0, 1, 2], [0, 1, 2, 3], [0, 1, 2, 3, 4], [0, 1, 2, 3, 4, 5], [0, 1, 2, 3], [0, 1, 2, 3, 7], [0, 1, 2, 3, 4, 5, 6, 7, 8], [0, 1, 2, 3], [0, 1, 2, 3, 10], [0, 1, 2, 3, 4, 5, 6, 7, 8, 9, 10, 11], [0, 1, 2, 3, 4, 5, 6, 7, 8, 9, 10, 11, 12], [0, 1, 2, 3, 4, 5, 6, 7, 8, 9, 10, 11, 12, 13], [0, 1, 2, 3, 4, 5, 6, 7, 8, 9, 10, 11, 12, 13, 14], [0, 1, 2, 3, 4, 5, 6, 7, 8, 9, 10, 11, 12, 13, 14, 15], [0, 1, 2, 3, 4, 5, 6, 7, 8, 9, 10, 11, 12, 13, 14, 15, 16]] (cl_lt (by decide)) ?_
    refine HeadR.start (cl_lt (by decide)) ?_
    refine HeadR.det rfl (fun β hβ => (det_loadA ty31 rfl (List.Mem.head _) rfl)) ?_
    refine HeadR.det rfl (fun β hβ => (det_zero bz31)) ?_
    refine HeadR.det rfl (fun β hβ => ((det_eql31 (a := p) rfl rfl).to (congrArg Value.bool hp))) ?_
    refine HeadR.det rfl (fun β hβ => (det_move rfl)) ?_
    refine HeadR.yes rfl rfl (fun _ _ => rfl) (fun β hβ => (det_fieldAddr fl31_1 rfl)) ?_
    refine HeadR.yes rfl rfl (fun _ _ => rfl) (fun β hβ => (det_loadA ty29 rfl (List.Mem.head _) rfl)) ?_
    refine HeadR.yes rfl rfl (fun _ _ => rfl) (fun β hβ => (det_call en16 rfl (fun w hb ho => Cu.Square_ok ho.blocks))) ?_
    refine HeadR.yes rfl rfl (fun _ _ => rfl) (fun β hβ => (det_fieldAddr fl31_0 rfl)) ?_
    refine HeadR.yes rfl rfl (fun _ _ => rfl) (fun β hβ => (det_loadA ty29 rfl (List.Mem.head _) rfl)) ?_
    refine HeadR.yes rfl rfl (fun _ _ => rfl) (fun β hβ => (det_call en16 rfl (fun w hb ho => Cu.Square_ok ho.blocks))) ?_
    refine HeadR.yes rfl rfl (fun _ _ => rfl) (fun β hβ => (det_fieldAddr fl31_0 rfl)) ?_
    refine HeadR.yes rfl rfl (fun _ _ => rfl) (fun β hβ => (det_loadA ty29 rfl (List.Mem.head _) rfl)) ?_
    refine HeadR.yes rfl rfl (fun _ _ => rfl) (fun β hβ => (det_call en17 rfl (fun w hb ho => Cu.Mul_ok ho.blocks))) ?_
    refine HeadR.yes rfl rfl (fun _ _ => rfl) (fun β hβ => (det_call en70 rfl (fun w hb ho => four_ok ho.blocks))) ?_
    refine HeadR.yes rfl rfl (fun _ _ => rfl) (fun β hβ => (det_call en18 rfl (fun w hb ho => Cu.Add_ok ho.blocks))) ?_
    refine HeadR.yes rfl rfl (fun _ _ => rfl) (fun β hβ => (det_eql29 rfl rfl)) ?_
    refine HeadR.det rfl (fun β hβ => (det_pick rfl rfl)) ?_
    refine HeadR.det rfl (fun β hβ => (det_assign rfl)) ?_
    refine HeadR.done ⟨by kernel_rfl, fun β hβ => ?_⟩
    refine OpsW.norm (F' := [(3, _), (4, _), (5, _), (6, _), (7, _), (8, _), (9, _), (10, _), (11, _), (12, _), (13, _), (14, _), (15, _), (16, _), (17, _), (18, _), (19, _), (2, _), (1, _)]) (H' := [(_, _)]) rfl rfl ?_
    refine sNext ?_
    refine W.keep (F' := [(2, _)]) ⟨rfl, trivial⟩ ?_
    refine sRet ?_
    exact done1 Tryd.results36 (rv_tmp rfl) (by rw [onB, hp]; rfl)
  · skip
    refine W.draw mixed 18 [[], [], [0, 1], [0, 1, 2], [0, 1, 2, 3], [0, 1, 2, 3, 4], [0, 1, 2, 3, 4, 5], [0, 1, 2, 3], [0, 1, 2, 3, 7], [0, 1, 2, 3, 4, 5, 6, 7, 8], [0, 1, 2, 3], [0, 1, 2, 3, 10], [0, 1, 2, 3, 4, 5, 6, 7, 8, 9, 10, 11], [0, 1, 2, 3, 4, 5, 6, 7, 8, 9, 10, 11, 12], [0, 1, 2, 3, 4, 5, 6, 7, 8, 9, 10, 11, 12, 13], [0, 1, 2, 3, 4, 5, 6, 7, 8, 9, 10, 11, 12, 13, 14], [0, 1, 2, 3, 4, 5, 6, 7, 8, 9, 10, 11, 12, 13, 14, 15], [0, 1, 2, 3, 4, 5, 6, 7, 8, 9, 10, 11, 12, 13, 14, 15, 16]] (cl_lt (by decide)) ?_
    refine HeadR.start (cl_lt (by decide)) ?_
    refine HeadR.det rfl (fun β hβ => (det_loadA ty31 rfl (List.Mem.head _) rfl)) ?_
    refine HeadR.det rfl (fun β hβ => (det_zero bz31)) ?_
    refine HeadR.det rfl (fun β hβ => ((det_eql31 (a := p) rfl rfl).to (congrArg Value.bool hp))) ?_
    refine HeadR.det rfl (fun β hβ => (det_move rfl)) ?_
    refine HeadR.no rfl rfl (fun _ _ => rfl) ?_
    refine HeadR.no rfl rfl (fun _ _ => rfl) ?_
    refine HeadR.no rfl rfl (fun _ _ => rfl) ?_
    refine HeadR.no rfl rfl (fun _ _ => rfl) ?_
    refine HeadR.no rfl rfl (fun _ _ => rfl) ?_
    refine HeadR.no rfl rfl (fun _ _ => rfl) ?_
    refine HeadR.no rfl rfl (fun _ _ => rfl) ?_
    refine HeadR.no rfl rfl (fun _ _ => rfl) ?_
    refine HeadR.no rfl rfl (fun _ _ => rfl) ?_
    refine HeadR.no rfl rfl (fun _ _ => rfl) ?_
    refine HeadR.no rfl rfl (fun _ _ => rfl) ?_
    refine HeadR.no rfl rfl (fun _ _ => rfl) ?_
    refine HeadR.det rfl (fun β hβ => (det_pick rfl rfl)) ?_
    refine HeadR.det rfl (fun β hβ => (det_assign rfl)) ?_
    refine HeadR.done ⟨by kernel_rfl, fun β hβ => ?_⟩
    refine OpsW.norm (F' := [(3, _), (4, _), (5, _), (6, _), (7, _), (8, _), (9, _), (10, _), (11, _), (12, _), (13, _), (14, _), (15, _), (16, _), (17, _), (18, _), (19, _), (2, _), (1, _)]) (H' := [(_, _)]) rfl rfl ?_
    refine sNext ?_
    refine W.keep (F' := [(2, _)]) ⟨rfl, trivial⟩ ?_
    refine sRet ?_
    exact done1 Tryd.results36 (rv_tmp rfl) (by rw [onB, hp]; rfl)
theorem tojac_ok {p : Pt} {w : World} (hG : Blocks (GH T) w)  : Vm.Pure Tryd.prog 93 #[encP p] w (encJ (tojac p)) := by
  refine pure_of_W (n := 13) (args := [encP p]) Tryd.func93 rfl Tryd.ntmps93 (Nat.le_of_ble_eq_true rfl) hG ?_
  refine sStart ?_
  refine sSeq ?_
  refine W.region ?_
  refine OpsW.fresh (fr_box rfl rfl) rfl fun b1 => ?_
  refine OpsW.fresh (fr_alloc z107) rfl fun b2 => ?_
  refine sNext ?_
  refine W.keep (F' := [(2, _), (1, _)]) ⟨rfl, rfl, trivial⟩ ?_
  refine sSeq ?_
  refine sSeq ?_
  refine W.region ?_
  refine OpsW.det (det_loadA ty31 rfl (List.Mem.tail _ (List.Mem.head _)) rfl) rfl ?_
  refine OpsW.det (det_zero bz31) rfl ?_
  refine OpsW.det (det_eql31 rfl rfl) rfl ?_
  refine sNext ?_
  refine W.keep (F' := [(5, _), (2, _), (1, _)]) ⟨rfl, rfl, rfl, trivial⟩ ?_
  refine W.cond rfl (fun hc5 => ?_) (fun hc5 => ?_)
  · skip
    refine sSeq ?_
    refine W.region ?_
    refine OpsW.det (det_zero bz107) rfl ?_
    refine OpsW.store sz107 rfl rfl rfl rfl rfl (Upd.here) rfl ?_
    refine sNext ?_
    refine W.keep (F' := [(2, _)]) ⟨rfl, trivial⟩ ?_
    refine sRet ?_
    exact done1 Tryd.results93 (rv_cellA ty107 rfl (List.Mem.head _) rfl) (congrArg encJ (tojac_yes hc5).symm)
  · skip
    refine sSkip ?_
    refine sSeq ?_
    refine W.draw mixed 6 [[], [0], [], [2], [], [0, 1, 2, 3, 4], [0, 1, 2, 3, 4, 5]] (cl_lt (by decide)) ?_
    refine HeadR.start (cl_lt (by decide)) ?_
    refine HeadR.det rfl (fun β hβ => (det_fieldAddr fl31_0 rfl)) ?_
    refine HeadR.det rfl (fun β hβ => (det_loadA ty29 rfl (List.Mem.tail _ (List.Mem.head _)) rfl)) ?_
    refine HeadR.det rfl (fun β hβ => (det_fieldAddr fl31_1 rfl)) ?_
    refine HeadR.det rfl (fun β hβ => (det_loadA ty29 rfl (List.Mem.tail _ (List.Mem.head _)) rfl)) ?_
    refine HeadR.det rfl (fun β hβ => (det_call en98 rfl (fun w hb ho => one_ok ho.blocks))) ?_
    refine HeadR.det rfl (fun β hβ => (det_build rfl bld107)) ?_
    refine HeadR.done ⟨by kernel_rfl, fun β hβ => ?_⟩
    refine OpsW.norm (F' := [(7, _), (8, _), (9, _), (10, _), (11, _), (12, _), (5, _), (2, _), (1, _)]) (H' := [(_, _), (_, _)]) rfl rfl ?_
    refine OpsW.store sz107 rfl rfl rfl rfl rfl (Upd.here) rfl ?_
    refine sNext ?_
    refine W.keep (F' := [(2, _)]) ⟨rfl, trivial⟩ ?_
    refine sRet ?_
    exact done1 Tryd.results93 (rv_cellA ty107 rfl (List.Mem.head _) rfl) (congrArg encJ (tojac_no hc5).symm)
theorem jdbl_ok {p : Jac} {w : World} (hG : Blocks (GH T) w)  : Vm.Pure Tryd.prog 81 #[encJ p] w (encJ (jdbl p)) := by
  refine pure_of_W (n := 75) (args := [encJ p]) Tryd.func81 rfl Tryd.ntmps81 (Nat.le_of_ble_eq_true rfl) hG ?_
  refine sStart ?_
  refine sSeq ?_
  refine W.region ?_
  refine OpsW.fresh (fr_box rfl rfl) rfl fun b1 => ?_
  refine OpsW.fresh (fr_alloc z107) rfl fun b2 => ?_
  refine sNext ?_
  refine W.keep (F' := [(2, _), (1, _)]) ⟨rfl, rfl, trivial⟩ ?_
  refine sSeq ?_
  refine sSeq ?_
  refine W.region ?_
  refine OpsW.det (det_fieldAddr fl107_2 rfl) rfl ?_
  refine OpsW.det (det_loadA ty29 rfl (List.Mem.tail _ (List.Mem.head _)) rfl) rfl ?_
  refine OpsW.test (det_call en65 rfl (fun w hb ho => Cu.Zero_ok ho.blocks)) rfl (fun hc12 => ?_) (fun hc12 => ?_)
  · skip
    refine OpsW.det (det_move rfl) rfl ?_
    refine OpsW.guard_no rfl rfl rfl ?_
    refine OpsW.guard_no rfl rfl rfl ?_
    refine OpsW.guard_no rfl rfl rfl ?_
    refine OpsW.det (det_pick rfl rfl) rfl ?_
    refine sNext ?_
    refine W.keep (F' := [(17, _), (2, _), (1, _)]) ⟨rfl, rfl, rfl, trivial⟩ ?_
    refine W.cond_true rfl ?_
    refine sSeq ?_
    refine W.region ?_
    refine OpsW.det (det_zero bz107) rfl ?_
    refine OpsW.store sz107 rfl rfl rfl rfl rfl (Upd.here) rfl ?_
    refine sNext ?_
    refine W.keep (F' := [(2, _)]) ⟨rfl, trivial⟩ ?_
    refine sRet ?_
    exact done1 Tryd.results81 (rv_cellA ty107 rfl (List.Mem.head _) rfl) (congrArg encJ (jdbl_z hc12).symm)
  · skip
    refine OpsW.det (det_move rfl) rfl ?_
    refine OpsW.guard_yes rfl rfl ?_
    refine OpsW.det (det_fieldAddr fl107_1 rfl) rfl ?_
    refine OpsW.guard_yes rfl rfl ?_
    refine OpsW.det (det_loadA ty29 rfl (List.Mem.tail _ (List.Mem.head _)) rfl) rfl ?_
    refine OpsW.guard_yes rfl rfl ?_
    refine OpsW.det (det_call en65 rfl (fun w hb ho => Cu.Zero_ok ho.blocks)) rfl ?_
    refine OpsW.det (det_pick rfl rfl) rfl ?_
    refine sNext ?_
    refine W.keep (F' := [(17, _), (2, _), (1, _)]) ⟨rfl, rfl, rfl, trivial⟩ ?_
    refine W.cond rfl (fun hc17 => ?_) (fun hc17 => ?_)
    · skip
      refine sSeq ?_
      refine W.region ?_
      refine OpsW.det (det_zero bz107) rfl ?_
      refine OpsW.store sz107 rfl rfl rfl rfl rfl (Upd.here) rfl ?_
      refine sNext ?_
      refine W.keep (F' := [(2, _)]) ⟨rfl, trivial⟩ ?_
      refine sRet ?_
      exact done1 Tryd.results81 (rv_cellA ty107 rfl (List.Mem.head _) rfl) (congrArg encJ (jdbl_y hc12 hc17).symm)
    · skip
      refine sSkip ?_
      refine sSeq ?_
      refine W.draw mixed 8 [[], [0], [0, 1], [], [3], [0, 1, 2, 3, 4], [], [], [0, 1, 2, 3, 4, 5, 6, 7], [0, 1, 2, 3, 4, 5, 6, 7, 8]] (cl_lt (by decide)) ?_
      refine HeadR.start (cl_lt (by decide)) ?_
      refine HeadR.det rfl (fun β hβ => (det_fieldAddr fl107_0 rfl)) ?_
      refine HeadR.det rfl (fun β hβ => (det_loadA ty29 rfl (List.Mem.tail _ (List.Mem.head _)) rfl)) ?_
      refine HeadR.det rfl (fun β hβ => (det_call en16 rfl (fun w hb ho => Cu.Square_ok ho.blocks))) ?_
      refine HeadR.det rfl (fun β hβ => (det_fieldAddr fl107_1 rfl)) ?_
      refine HeadR.det rfl (fun β hβ => (det_loadA ty29 rfl (List.Mem.tail _ (List.Mem.head _)) rfl)) ?_
      refine HeadR.det rfl (fun β hβ => (det_call en16 rfl (fun w hb ho => Cu.Square_ok ho.blocks))) ?_
      refine HeadR.fresh rfl (fun β hβ => (fr_alloc z29).new) ?_
      refine HeadR.fresh rfl (fun β hβ => (fr_alloc z29).new) ?_
      refine HeadR.done ⟨by kernel_rfl, fun β hβ => ?_⟩
      refine OpsW.norm (F' := [(19, _), (20, _), (21, _), (22, _), (23, _), (24, _), (3, .pointer (some ⟨(β 3).1, 0, none⟩)), (4, .pointer (some ⟨(β 4).1, 0, none⟩)), (17, _), (2, _), (1, _)]) (H' := [(_, _), (_, _), (_, _), (_, _)]) rfl rfl ?_
      generalize (β 3).1 = b3
      generalize (β 4).1 = b4
      refine OpsW.store sz29 rfl rfl rfl rfl rfl (Upd.here) rfl ?_
      refine OpsW.store sz29 rfl rfl rfl rfl rfl (Upd.there (Upd.here)) rfl ?_
      refine sNext ?_
      refine W.keep (F' := [(3, _), (4, _), (2, _), (1, _)]) ⟨rfl, rfl, rfl, rfl, trivial⟩ ?_
      refine sSeq ?_
      refine W.region ?_
      refine OpsW.det (det_loadA ty29 rfl (List.Mem.tail _ (List.Mem.head _)) rfl) rfl ?_
      refine OpsW.det (det_call en16 rfl (fun w hb ho => Cu.Square_ok ho.blocks)) rfl ?_
      refine OpsW.fresh (fr_alloc z29) rfl fun b5 => ?_
      refine OpsW.store sz29 rfl rfl rfl rfl rfl (Upd.here) rfl ?_
      refine sNext ?_
      refine W.keep (F' := [(5, _), (3, _), (4, _), (2, _), (1, _)]) ⟨rfl, rfl, rfl, rfl, rfl, trivial⟩ ?_
      refine sSeq ?_
      refine W.draw mixed 10 [[], [0], [], [0, 1, 2], [0, 1, 2, 3], [], [0, 1, 2, 3, 4, 5], [], [0, 1, 2, 3, 4, 5, 6, 7], [], [0, 1, 2, 3, 4, 5, 6, 7, 8, 9]] (cl_lt (by decide)) ?_
      refine HeadR.start (cl_lt (by decide)) ?_
      refine HeadR.det rfl (fun β hβ => (det_fieldAddr fl107_0 rfl)) ?_
      refine HeadR.det rfl (fun β hβ => (det_loadA ty29 rfl (List.Mem.tail _ (List.Mem.tail _ (List.Mem.tail _ (List.Mem.tail _ (List.Mem.head _))))) rfl)) ?_
      refine HeadR.det rfl (fun β hβ => (det_loadA ty29 rfl (List.Mem.tail _ (List.Mem.tail _ (List.Mem.head _))) rfl)) ?_
      refine HeadR.det rfl (fun β hβ => (det_call en18 rfl (fun w hb ho => Cu.Add_ok ho.blocks))) ?_
      refine HeadR.det rfl (fun β hβ => (det_call en16 rfl (fun w hb ho => Cu.Square_ok ho.blocks))) ?_
      refine HeadR.det rfl (fun β hβ => (det_loadA ty29 rfl (List.Mem.tail _ (List.Mem.head _)) rfl)) ?_
      refine HeadR.det rfl (fun β hβ => (det_call en62 rfl (fun w hb ho => Cu.Sub_ok ho.blocks))) ?_
      refine HeadR.det rfl (fun β hβ => (det_loadA ty29 rfl (List.Mem.head _) rfl)) ?_
      refine HeadR.det rfl (fun β hβ => (det_call en62 rfl (fun w hb ho => Cu.Sub_ok ho.blocks))) ?_
      refine HeadR.fresh rfl (fun β hβ => (fr_alloc z29).new) ?_
      refine HeadR.done ⟨by kernel_rfl, fun β hβ => ?_⟩
      refine OpsW.norm (F' := [(27, _), (28, _), (29, _), (30, _), (31, _), (32, _), (33, _), (34, _), (35, _), (6, .pointer (some ⟨(β 6).1, 0, none⟩)), (5, _), (3, _), (4, _), (2, _), (1, _)]) (H' := [(_, _), (_, _), (_, _), (_, _), (_, _), (_, _)]) rfl rfl ?_
      generalize (β 6).1 = b6
      refine OpsW.store sz29 rfl rfl rfl rfl rfl (Upd.here) rfl ?_
      refine sNext ?_
      refine W.keep (F' := [(6, _), (5, _), (3, _), (2, _), (1, _)]) ⟨rfl, rfl, rfl, rfl, rfl, trivial⟩ ?_
      refine sSeq ?_
      refine W.region ?_
      refine OpsW.det (det_loadA ty29 rfl (List.Mem.head _) rfl) rfl ?_
      refine OpsW.det (det_loadA ty29 rfl (List.Mem.head _) rfl) rfl ?_
      refine OpsW.det (det_call en18 rfl (fun w hb ho => Cu.Add_ok ho.blocks)) rfl ?_
      refine OpsW.store sz29 rfl rfl rfl rfl rfl (Upd.here) rfl ?_
      refine sNext ?_
      refine W.keep (F' := [(6, _), (5, _), (3, _), (2, _), (1, _)]) ⟨rfl, rfl, rfl, rfl, rfl, trivial⟩ ?_
      refine sSeq ?_
      refine W.draw mixed 6 [[], [], [0, 1], [], [0, 1, 2, 3], [], [0, 1, 2, 3, 4, 5]] (cl_lt (by decide)) ?_
      refine HeadR.start (cl_lt (by decide)) ?_
      refine HeadR.det rfl (fun β hβ => (det_loadA ty29 rfl (List.Mem.tail _ (List.Mem.tail _ (List.Mem.head _))) rfl)) ?_
      refine HeadR.det rfl (fun β hβ => (det_loadA ty29 rfl (List.Mem.tail _ (List.Mem.tail _ (List.Mem.head _))) rfl)) ?_
      refine HeadR.det rfl (fun β hβ => (det_call en18 rfl (fun w hb ho => Cu.Add_ok ho.blocks))) ?_
      refine HeadR.det rfl (fun β hβ => (det_loadA ty29 rfl (List.Mem.tail _ (List.Mem.tail _ (List.Mem.head _))) rfl)) ?_
      refine HeadR.det rfl (fun β hβ => (det_call en18 rfl (fun w hb ho => Cu.Add_ok ho.blocks))) ?_
      refine HeadR.fresh rfl (fun β hβ => (fr_alloc z29).new) ?_
      refine HeadR.done ⟨by kernel_rfl, fun β hβ => ?_⟩
      refine OpsW.norm (F' := [(39, _), (40, _), (41, _), (42, _), (43, _), (7, .pointer (some ⟨(β 7).1, 0, none⟩)), (6, _), (5, _), (3, _), (2, _), (1, _)]) (H' := [(_, _), (_, _), (_, _), (_, _), (_, _), (_, _), (_, _)]) rfl rfl ?_
      generalize (β 7).1 = b7
      refine OpsW.store sz29 rfl rfl rfl rfl rfl (Upd.here) rfl ?_
      refine sNext ?_
      refine W.keep (F' := [(7, _), (6, _), (5, _), (2, _), (1, _)]) ⟨rfl, rfl, rfl, rfl, rfl, trivial⟩ ?_
      refine sSeq ?_
      refine W.draw mixed 7 [[], [0], [], [0, 1, 2], [], [0, 1, 2, 3, 4], [], [0, 1, 2, 3, 4, 5, 6]] (cl_lt (by decide)) ?_
      refine HeadR.start (cl_lt (by decide)) ?_
      refine HeadR.det rfl (fun β hβ => (det_loadA ty29 rfl (List.Mem.head _) rfl)) ?_
      refine HeadR.det rfl (fun β hβ => (det_call en16 rfl (fun w hb ho => Cu.Square_ok ho.blocks))) ?_
      refine HeadR.det rfl (fun β hβ => (det_loadA ty29 rfl (List.Mem.tail _ (List.Mem.head _)) rfl)) ?_
      refine HeadR.det rfl (fun β hβ => (det_call en62 rfl (fun w hb ho => Cu.Sub_ok ho.blocks))) ?_
      refine HeadR.det rfl (fun β hβ => (det_loadA ty29 rfl (List.Mem.tail _ (List.Mem.head _)) rfl)) ?_
      refine HeadR.det rfl (fun β hβ => (det_call en62 rfl (fun w hb ho => Cu.Sub_ok ho.blocks))) ?_
      refine HeadR.fresh rfl (fun β hβ => (fr_alloc z29).new) ?_
      refine HeadR.done ⟨by kernel_rfl, fun β hβ => ?_⟩
      refine OpsW.norm (F' := [(44, _), (45, _), (46, _), (47, _), (48, _), (49, _), (8, .pointer (some ⟨(β 8).1, 0, none⟩)), (7, _), (6, _), (5, _), (2, _), (1, _)]) (H' := [(_, _), (_, _), (_, _), (_, _), (_, _), (_, _), (_, _), (_, _)]) rfl rfl ?_
      generalize (β 8).1 = b8
      refine OpsW.store sz29 rfl rfl rfl rfl rfl (Upd.here) rfl ?_
      refine sNext ?_
      refine W.keep (F' := [(8, _), (7, _), (6, _), (5, _), (2, _), (1, _)]) ⟨rfl, rfl, rfl, rfl, rfl, rfl, trivial⟩ ?_
      refine sSeq ?_
      refine W.region ?_
      refine OpsW.det (det_loadA ty29 rfl (List.Mem.tail _ (List.Mem.tail _ (List.Mem.tail _ (List.Mem.head _)))) rfl) rfl ?_
      refine OpsW.det (det_loadA ty29 rfl (List.Mem.tail _ (List.Mem.tail _ (List.Mem.tail _ (List.Mem.head _)))) rfl) rfl ?_
      refine OpsW.det (det_call en18 rfl (fun w hb ho => Cu.Add_ok ho.blocks)) rfl ?_
      refine OpsW.store sz29 rfl rfl rfl rfl rfl (Upd.there (Upd.there (Upd.there (Upd.here)))) rfl ?_
      refine sNext ?_
      refine W.keep (F' := [(8, _), (7, _), (6, _), (5, _), (2, _), (1, _)]) ⟨rfl, rfl, rfl, rfl, rfl, rfl, trivial⟩ ?_
      refine sSeq ?_
      refine W.region ?_
      refine OpsW.det (det_loadA ty29 rfl (List.Mem.tail _ (List.Mem.tail _ (List.Mem.tail _ (List.Mem.head _)))) rfl) rfl ?_
      refine OpsW.det (det_loadA ty29 rfl (List.Mem.tail _ (List.Mem.tail _ (List.Mem.tail _ (List.Mem.head _)))) rfl) rfl ?_
      refine OpsW.det (det_call en18 rfl (fun w hb ho => Cu.Add_ok ho.blocks)) rfl ?_
      refine OpsW.store sz29 rfl rfl rfl rfl rfl (Upd.there (Upd.there (Upd.there (Upd.here)))) rfl ?_
      refine sNext ?_
      refine W.keep (F' := [(8, _), (7, _), (6, _), (5, _), (2, _), (1, _)]) ⟨rfl, rfl, rfl, rfl, rfl, rfl, trivial⟩ ?_
      refine sSeq ?_
      refine W.region ?_
      refine OpsW.det (det_fieldAddr fl107_1 rfl) rfl ?_
      refine OpsW.det (det_loadA ty29 rfl (List.Mem.tail _ (List.Mem.tail _ (List.Mem.tail _ (List.Mem.tail _ (List.Mem.tail _ (List.Mem.tail _ (List.Mem.tail _ (List.Mem.head _)))))))) rfl) rfl ?_
      refine OpsW.det (det_fieldAddr fl107_2 rfl) rfl ?_
      refine OpsW.det (det_loadA ty29 rfl (List.Mem.tail _ (List.Mem.tail _ (List.Mem.tail _ (List.Mem.tail _ (List.Mem.tail _ (List.Mem.tail _ (List.Mem.tail _ (List.Mem.head _)))))))) rfl) rfl ?_
      refine OpsW.det (det_call en17 rfl (fun w hb ho => Cu.Mul_ok ho.blocks)) rfl ?_
      refine OpsW.fresh (fr_alloc z29) rfl fun b9 => ?_
      refine OpsW.store sz29 rfl rfl rfl rfl rfl (Upd.here) rfl ?_
      refine sNext ?_
      refine W.keep (F' := [(9, _), (8, _), (7, _), (6, _), (5, _), (2, _)]) ⟨rfl, rfl, rfl, rfl, rfl, rfl, trivial⟩ ?_
      refine sSeq ?_
      refine W.draw mixed 14 [[], [], [], [], [2, 3], [1, 2, 3, 4], [], [1, 2, 3, 4, 5, 6], [], [1, 2, 3, 4, 5, 6, 7, 8], [], [], [1, 2, 3, 4, 5, 6, 7, 8, 9, 10, 11], [0, 1, 2, 3, 4, 5, 6, 7, 8, 9, 10, 11, 12], [0, 1, 2, 3, 4, 5, 6, 7, 8, 9, 10, 11, 12, 13]] (cl_lt (by decide)) ?_
      refine HeadR.start (cl_lt (by decide)) ?_
      refine HeadR.det rfl (fun β hβ => (det_loadA ty29 rfl (List.Mem.tail _ (List.Mem.head _)) rfl)) ?_
      refine HeadR.det rfl (fun β hβ => (det_loadA ty29 rfl (List.Mem.tail _ (List.Mem.tail _ (List.Mem.head _))) rfl)) ?_
      refine HeadR.det rfl (fun β hβ => (det_loadA ty29 rfl (List.Mem.tail _ (List.Mem.tail _ (List.Mem.tail _ (List.Mem.head _)))) rfl)) ?_
      refine HeadR.det rfl (fun β hβ => (det_loadA ty29 rfl (List.Mem.tail _ (List.Mem.head _)) rfl)) ?_
      refine HeadR.det rfl (fun β hβ => (det_call en62 rfl (fun w hb ho => Cu.Sub_ok ho.blocks))) ?_
      refine HeadR.det rfl (fun β hβ => (det_call en17 rfl (fun w hb ho => Cu.Mul_ok ho.blocks))) ?_
      refine HeadR.det rfl (fun β hβ => (det_loadA ty29 rfl (List.Mem.tail _ (List.Mem.tail _ (List.Mem.tail _ (List.Mem.tail _ (List.Mem.head _))))) rfl)) ?_
      refine HeadR.det rfl (fun β hβ => (det_call en62 rfl (fun w hb ho => Cu.Sub_ok ho.blocks))) ?_
      refine HeadR.det rfl (fun β hβ => (det_loadA ty29 rfl (List.Mem.tail _ (List.Mem.tail _ (List.Mem.tail _ (List.Mem.tail _ (List.Mem.head _))))) rfl)) ?_
      refine HeadR.det rfl (fun β hβ => (det_call en62 rfl (fun w hb ho => Cu.Sub_ok ho.blocks))) ?_
      refine HeadR.det rfl (fun β hβ => (det_loadA ty29 rfl (List.Mem.head _) rfl)) ?_
      refine HeadR.det rfl (fun β hβ => (det_loadA ty29 rfl (List.Mem.head _) rfl)) ?_
      refine HeadR.det rfl (fun β hβ => (det_call en18 rfl (fun w hb ho => Cu.Add_ok ho.blocks))) ?_
      refine HeadR.det rfl (fun β hβ => (det_build rfl bld107)) ?_
      refine HeadR.done ⟨by kernel_rfl, fun β hβ => ?_⟩
      refine OpsW.norm (F' := [(61, _), (62, _), (63, _), (64, _), (65, _), (66, _), (67, _), (68, _), (69, _), (70, _), (71, _), (72, _), (73, _), (74, _), (9, _), (8, _), (7, _), (6, _), (5, _), (2, _)]) (H' := [(_, _), (_, _), (_, _), (_, _), (_, _), (_, _), (_, _), (_, _), (_, _)]) rfl rfl ?_
      refine OpsW.store sz107 rfl rfl rfl rfl rfl (Upd.there (Upd.there (Upd.there (Upd.there (Upd.there (Upd.there (Upd.there (Upd.here)))))))) rfl ?_
      refine sNext ?_
      refine W.keep (F' := [(2, _)]) ⟨rfl, trivial⟩ ?_
      refine sRet ?_
      exact done1 Tryd.results81 (rv_cellA ty107 rfl (List.Mem.tail _ (List.Mem.tail _ (List.Mem.tail _ (List.Mem.tail _ (List.Mem.tail _ (List.Mem.tail _ (List.Mem.tail _ (List.Mem.head _)))))))) rfl) (congrArg encJ (jdbl_no hc12 hc17).symm)
theorem point_ok {p : Jac} {w : World} (hG : Blocks (GH T) w)  : Vm.Pure Tryd.prog 83 #[encJ p] w (encP (point p)) := by
  refine pure_of_W (n := 25) (args := [encJ p]) Tryd.func83 rfl Tryd.ntmps83 (Nat.le_of_ble_eq_true rfl) hG ?_
  refine sStart ?_
  refine sSeq ?_
  refine W.region ?_
  refine OpsW.fresh (fr_box rfl rfl) rfl fun b1 => ?_
  refine OpsW.fresh (fr_alloc z31) rfl fun b2 => ?_
  refine sNext ?_
  refine W.keep (F' := [(2, _), (1, _)]) ⟨rfl, rfl, trivial⟩ ?_
  refine sSeq ?_
  refine sSeq ?_
  refine W.region ?_
  refine OpsW.det (det_fieldAddr fl107_2 rfl) rfl ?_
  refine OpsW.det (det_loadA ty29 rfl (List.Mem.tail _ (List.Mem.head _)) rfl) rfl ?_
  refine OpsW.det (det_call en65 rfl (fun w hb ho => Cu.Zero_ok ho.blocks)) rfl ?_
  refine sNext ?_
  refine W.keep (F' := [(7, _), (2, _), (1, _)]) ⟨rfl, rfl, rfl, trivial⟩ ?_
  refine W.cond rfl (fun hc7 => ?_) (fun hc7 => ?_)
  · skip
    refine sSeq ?_
    refine W.region ?_
    refine OpsW.det (det_zero bz31) rfl ?_
    refine OpsW.store sz31 rfl rfl rfl rfl rfl (Upd.here) rfl ?_
    refine sNext ?_
    refine W.keep (F' := [(2, _)]) ⟨rfl, trivial⟩ ?_
    refine sRet ?_
    exact done1 Tryd.results83 (rv_cellA ty31 rfl (List.Mem.head _) rfl) (congrArg encP (point_yes hc7).symm)
  · skip
    refine sSkip ?_
    refine sSeq ?_
    refine W.region ?_
    refine OpsW.det (det_fieldAddr fl107_2 rfl) rfl ?_
    refine OpsW.det (det_loadA ty29 rfl (List.Mem.tail _ (List.Mem.head _)) rfl) rfl ?_
    refine OpsW.det (det_call en67 rfl (fun w hb ho => Cu.Inv_ok ho.blocks)) rfl ?_
    refine OpsW.fresh (fr_alloc z29) rfl fun b3 => ?_
    refine OpsW.store sz29 rfl rfl rfl rfl rfl (Upd.here) rfl ?_
    refine sNext ?_
    refine W.keep (F' := [(3, _), (2, _), (1, _)]) ⟨rfl, rfl, rfl, trivial⟩ ?_
    refine sSeq ?_
    refine W.region ?_
    refine OpsW.det (det_loadA ty29 rfl (List.Mem.head _) rfl) rfl ?_
    refine OpsW.det (det_call en16 rfl (fun w hb ho => Cu.Square_ok ho.blocks)) rfl ?_
    refine OpsW.fresh (fr_alloc z29) rfl fun b4 => ?_
    refine OpsW.store sz29 rfl rfl rfl rfl rfl (Upd.here) rfl ?_
    refine sNext ?_
    refine W.keep (F' := [(4, _), (3, _), (2, _), (1, _)]) ⟨rfl, rfl, rfl, rfl, trivial⟩ ?_
    refine sSeq ?_
    refine W.draw mixed 11 [[], [0], [], [0, 1, 2], [], [4], [], [0, 1, 2, 3, 4, 5, 6], [], [0, 1, 2, 3, 4, 5, 6, 7, 8], [0, 1, 2, 3, 4, 5, 6, 7, 8, 9], [0, 1, 2, 3, 4, 5, 6, 7, 8, 9, 10]] (cl_lt (by decide)) ?_
    refine HeadR.start (cl_lt (by decide)) ?_
    refine HeadR.det rfl (fun β hβ => (det_fieldAddr fl107_0 rfl)) ?_
    refine HeadR.det rfl (fun β hβ => (det_loadA ty29 rfl (List.Mem.tail _ (List.Mem.tail _ (List.Mem.tail _ (List.Mem.head _)))) rfl)) ?_
    refine HeadR.det rfl (fun β hβ => (det_loadA ty29 rfl (List.Mem.head _) rfl)) ?_
    refine HeadR.det rfl (fun β hβ => (det_call en17 rfl (fun w hb ho => Cu.Mul_ok ho.blocks))) ?_
    refine HeadR.det rfl (fun β hβ => (det_fieldAddr fl107_1 rfl)) ?_
    refine HeadR.det rfl (fun β hβ => (det_loadA ty29 rfl (List.Mem.tail _ (List.Mem.tail _ (List.Mem.tail _ (List.Mem.head _)))) rfl)) ?_
    refine HeadR.det rfl (fun β hβ => (det_loadA ty29 rfl (List.Mem.head _) rfl)) ?_
    refine HeadR.det rfl (fun β hβ => (det_call en17 rfl (fun w hb ho => Cu.Mul_ok ho.blocks))) ?_
    refine HeadR.det rfl (fun β hβ => (det_loadA ty29 rfl (List.Mem.tail _ (List.Mem.head _)) rfl)) ?_
    refine HeadR.det rfl (fun β hβ => (det_call en17 rfl (fun w hb ho => Cu.Mul_ok ho.blocks))) ?_
    refine HeadR.det rfl (fun β hβ => (det_build rfl bld31)) ?_
    refine HeadR.done ⟨by kernel_rfl, fun β hβ => ?_⟩
    refine OpsW.norm (F' := [(14, _), (15, _), (16, _), (17, _), (18, _), (19, _), (20, _), (21, _), (22, _), (23, _), (24, _), (4, _), (3, _), (2, _), (1, _)]) (H' := [(_, _), (_, _), (_, _), (_, _)]) rfl rfl ?_
    refine OpsW.store sz31 rfl rfl rfl rfl rfl (Upd.there (Upd.there (Upd.here))) rfl ?_
    refine sNext ?_
    refine W.keep (F' := [(2, _)]) ⟨rfl, trivial⟩ ?_
    refine sRet ?_
    exact done1 Tryd.results83 (rv_cellA ty31 rfl (List.Mem.tail _ (List.Mem.tail _ (List.Mem.head _))) rfl) (congrArg encP (point_no hc7).symm)
theorem jadd_ok {p : Jac} {q : Pt} {w : World} (hG : Blocks (GH T) w)  : Vm.Pure Tryd.prog 82 #[encJ p, encP q] w (encJ (jadd p q)) := by
  refine pure_of_W (n := 100) (args := [encJ p, encP q]) Tryd.func82 rfl Tryd.ntmps82 (Nat.le_of_ble_eq_true rfl) hG ?_
  refine sStart ?_
  refine sSeq ?_
  refine W.region ?_
  refine OpsW.fresh (fr_box rfl rfl) rfl fun b2 => ?_
  refine OpsW.fresh (fr_box rfl rfl) rfl fun b3 => ?_
  refine OpsW.fresh (fr_alloc z107) rfl fun b4 => ?_
  refine sNext ?_
  refine W.keep (F' := [(4, _), (3, _), (2, _)]) ⟨rfl, rfl, rfl, trivial⟩ ?_
  refine sSeq ?_
  refine sSeq ?_
  refine W.region ?_
  refine OpsW.det (det_loadA ty31 rfl (List.Mem.tail _ (List.Mem.head _)) rfl) rfl ?_
  refine OpsW.det (det_zero bz31) rfl ?_
  refine OpsW.det (det_eql31 rfl rfl) rfl ?_
  refine sNext ?_
  refine W.keep (F' := [(16, _), (4, _), (3, _), (2, _)]) ⟨rfl, rfl, rfl, rfl, trivial⟩ ?_
  refine W.cond rfl (fun hc16 => ?_) (fun hc16 => ?_)
  · skip
    refine sSeq ?_
    refine W.region ?_
    refine OpsW.det (det_loadA ty107 rfl (List.Mem.tail _ (List.Mem.tail _ (List.Mem.head _))) rfl) rfl ?_
    refine OpsW.store sz107 rfl rfl rfl rfl rfl (Upd.here) rfl ?_
    refine sNext ?_
    refine W.keep (F' := [(4, _)]) ⟨rfl, trivial⟩ ?_
    refine sRet ?_
    exact done1 Tryd.results82 (rv_cellA ty107 rfl (List.Mem.head _) rfl) (congrArg encJ (jadd_q hc16).symm)
  · skip
    refine sSkip ?_
    refine sSeq ?_
    refine sSeq ?_
    refine W.region ?_
    refine OpsW.det (det_fieldAddr fl107_2 rfl) rfl ?_
    refine OpsW.det (det_loadA ty29 rfl (List.Mem.tail _ (List.Mem.tail _ (List.Mem.head _))) rfl) rfl ?_
    refine OpsW.det (det_call en65 rfl (fun w hb ho => Cu.Zero_ok ho.blocks)) rfl ?_
    refine sNext ?_
    refine W.keep (F' := [(20, _), (4, _), (3, _), (2, _)]) ⟨rfl, rfl, rfl, rfl, trivial⟩ ?_
    refine W.cond rfl (fun hc20 => ?_) (fun hc20 => ?_)
    · skip
      refine sSeq ?_
      refine W.region ?_
      refine OpsW.det (det_loadA ty31 rfl (List.Mem.tail _ (List.Mem.head _)) rfl) rfl ?_
      refine OpsW.det (det_call en93 rfl (fun w hb ho => tojac_ok ho.blocks)) rfl ?_
      refine OpsW.store sz107 rfl rfl rfl rfl rfl (Upd.here) rfl ?_
      refine sNext ?_
      refine W.keep (F' := [(4, _)]) ⟨rfl, trivial⟩ ?_
      refine sRet ?_
      exact done1 Tryd.results82 (rv_cellA ty107 rfl (List.Mem.head _) rfl) (congrArg encJ (jadd_p hc16 hc20).symm)
    · skip
      refine sSkip ?_
      refine sSeq ?_
      refine W.region ?_
      refine OpsW.det (det_fieldAddr fl107_2 rfl) rfl ?_
      refine OpsW.det (det_loadA ty29 rfl (List.Mem.tail _ (List.Mem.tail _ (List.Mem.head _))) rfl) rfl ?_
      refine OpsW.det (det_call en16 rfl (fun w hb ho => Cu.Square_ok ho.blocks)) rfl ?_
      refine OpsW.fresh (fr_alloc z29) rfl fun b5 => ?_
      refine OpsW.store sz29 rfl rfl rfl rfl rfl (Upd.here) rfl ?_
      refine sNext ?_
      refine W.keep (F' := [(5, _), (4, _), (3, _), (2, _)]) ⟨rfl, rfl, rfl, rfl, trivial⟩ ?_
      refine sSeq ?_
      refine W.draw mixed 8 [[], [0], [], [0, 1, 2], [], [4], [0, 1, 2, 3, 4, 5], [], [0, 1, 2, 3, 4, 5, 6, 7]] (cl_lt (by decide)) ?_
      refine HeadR.start (cl_lt (by decide)) ?_
      refine HeadR.det rfl (fun β hβ => (det_fieldAddr fl31_0 rfl)) ?_
      refine HeadR.det rfl (fun β hβ => (det_loadA ty29 rfl (List.Mem.tail _ (List.Mem.tail _ (List.Mem.head _))) rfl)) ?_
      refine HeadR.det rfl (fun β hβ => (det_loadA ty29 rfl (List.Mem.head _) rfl)) ?_
      refine HeadR.det rfl (fun β hβ => (det_call en17 rfl (fun w hb ho => Cu.Mul_ok ho.blocks))) ?_
      refine HeadR.det rfl (fun β hβ => (det_fieldAddr fl107_0 rfl)) ?_
      refine HeadR.det rfl (fun β hβ => (det_loadA ty29 rfl (List.Mem.tail _ (List.Mem.tail _ (List.Mem.tail _ (List.Mem.head _)))) rfl)) ?_
      refine HeadR.det rfl (fun β hβ => (det_call en62 rfl (fun w hb ho => Cu.Sub_ok ho.blocks))) ?_
      refine HeadR.fresh rfl (fun β hβ => (fr_alloc z29).new) ?_
      refine HeadR.done ⟨by kernel_rfl, fun β hβ => ?_⟩
      refine OpsW.norm (F' := [(26, _), (27, _), (28, _), (29, _), (30, _), (31, _), (32, _), (6, .pointer (some ⟨(β 6).1, 0, none⟩)), (5, _), (4, _), (3, _), (2, _)]) (H' := [(_, _), (_, _), (_, _), (_, _), (_, _)]) rfl rfl ?_
      generalize (β 6).1 = b6
      refine OpsW.store sz29 rfl rfl rfl rfl rfl (Upd.here) rfl ?_
      refine sNext ?_
      refine W.keep (F' := [(6, _), (5, _), (4, _), (3, _), (2, _)]) ⟨rfl, rfl, rfl, rfl, rfl, trivial⟩ ?_
      refine sSeq ?_
      refine W.draw mixed 11 [[], [0], [], [2], [0, 1, 2, 3], [], [0, 1, 2, 3, 4, 5], [], [7], [0, 1, 2, 3, 4, 5, 6, 7, 8], [], [0, 1, 2, 3, 4, 5, 6, 7, 8, 9, 10]] (cl_lt (by decide)) ?_
      refine HeadR.start (cl_lt (by decide)) ?_
      refine HeadR.det rfl (fun β hβ => (det_fieldAddr fl31_1 rfl)) ?_
      refine HeadR.det rfl (fun β hβ => (det_loadA ty29 rfl (List.Mem.tail _ (List.Mem.tail _ (List.Mem.tail _ (List.Mem.head _)))) rfl)) ?_
      refine HeadR.det rfl (fun β hβ => (det_fieldAddr fl107_2 rfl)) ?_
      refine HeadR.det rfl (fun β hβ => (det_loadA ty29 rfl (List.Mem.tail _ (List.Mem.tail _ (List.Mem.tail _ (List.Mem.tail _ (List.Mem.head _))))) rfl)) ?_
      refine HeadR.det rfl (fun β hβ => (det_call en17 rfl (fun w hb ho => Cu.Mul_ok ho.blocks))) ?_
      refine HeadR.det rfl (fun β hβ => (det_loadA ty29 rfl (List.Mem.tail _ (List.Mem.head _)) rfl)) ?_
      refine HeadR.det rfl (fun β hβ => (det_call en17 rfl (fun w hb ho => Cu.Mul_ok ho.blocks))) ?_
      refine HeadR.det rfl (fun β hβ => (det_fieldAddr fl107_1 rfl)) ?_
      refine HeadR.det rfl (fun β hβ => (det_loadA ty29 rfl (List.Mem.tail _ (List.Mem.tail _ (List.Mem.tail _ (List.Mem.tail _ (List.Mem.head _))))) rfl)) ?_
      refine HeadR.det rfl (fun β hβ => (det_call en62 rfl (fun w hb ho => Cu.Sub_ok ho.blocks))) ?_
      refine HeadR.fresh rfl (fun β hβ => (fr_alloc z29).new) ?_
      refine HeadR.done ⟨by kernel_rfl, fun β hβ => ?_⟩
      refine OpsW.norm (F' := [(33, _), (34, _), (35, _), (36, _), (37, _), (38, _), (39, _), (40, _), (41, _), (42, _), (7, .pointer (some ⟨(β 7).1, 0, none⟩)), (6, _), (5, _), (4, _), (3, _), (2, _)]) (H' := [(_, _), (_, _), (_, _), (_, _), (_, _), (_, _)]) rfl rfl ?_
      generalize (β 7).1 = b7
      refine OpsW.store sz29 rfl rfl rfl rfl rfl (Upd.here) rfl ?_
      refine sNext ?_
      refine W.keep (F' := [(7, _), (6, _), (5, _), (4, _), (2, _)]) ⟨rfl, rfl, rfl, rfl, rfl, trivial⟩ ?_
      refine sSeq ?_
      refine sSeq ?_
      refine W.region ?_
      refine OpsW.det (det_loadA ty29 rfl (List.Mem.tail _ (List.Mem.head _)) rfl) rfl ?_
      refine OpsW.det (det_call en65 rfl (fun w hb ho => Cu.Zero_ok ho.blocks)) rfl ?_
      refine sNext ?_
      refine W.keep (F' := [(44, _), (7, _), (6, _), (5, _), (4, _), (2, _)]) ⟨rfl, rfl, rfl, rfl, rfl, rfl, trivial⟩ ?_
      refine W.cond rfl (fun hc44 => ?_) (fun hc44 => ?_)
      · skip
        refine sSeq ?_
        refine sSeq ?_
        refine W.region ?_
        refine OpsW.det (det_loadA ty29 rfl (List.Mem.head _) rfl) rfl ?_
        refine OpsW.det (det_call en65 rfl (fun w hb ho => Cu.Zero_ok ho.blocks)) rfl ?_
        refine sNext ?_
        refine W.keep (F' := [(46, _), (4, _), (2, _)]) ⟨rfl, rfl, rfl, trivial⟩ ?_
        refine W.cond rfl (fun hc46 => ?_) (fun hc46 => ?_)
        · skip
          refine sSeq ?_
          refine W.region ?_
          refine OpsW.det (det_loadA ty107 rfl (List.Mem.tail _ (List.Mem.tail _ (List.Mem.tail _ (List.Mem.tail _ (List.Mem.tail _ (List.Mem.head _)))))) rfl) rfl ?_
          refine OpsW.det (det_call en81 rfl (fun w hb ho => jdbl_ok ho.blocks)) rfl ?_
          refine OpsW.store sz107 rfl rfl rfl rfl rfl (Upd.there (Upd.there (Upd.there (Upd.here)))) rfl ?_
          refine sNext ?_
          refine W.keep (F' := [(4, _)]) ⟨rfl, trivial⟩ ?_
          refine sRet ?_
          exact done1 Tryd.results82 (rv_cellA ty107 rfl (List.Mem.tail _ (List.Mem.tail _ (List.Mem.tail _ (List.Mem.head _)))) rfl) (congrArg encJ (jadd_d hc16 hc20 hc44 hc46).symm)
        · skip
          refine sSkip ?_
          refine sSeq ?_
          refine W.region ?_
          refine OpsW.det (det_zero bz107) rfl ?_
          refine OpsW.store sz107 rfl rfl rfl rfl rfl (Upd.there (Upd.there (Upd.there (Upd.here)))) rfl ?_
          refine sNext ?_
          refine W.keep (F' := [(4, _)]) ⟨rfl, trivial⟩ ?_
          refine sRet ?_
          exact done1 Tryd.results82 (rv_cellA ty107 rfl (List.Mem.tail _ (List.Mem.tail _ (List.Mem.tail _ (List.Mem.head _)))) rfl) (congrArg encJ (jadd_o hc16 hc20 hc44 hc46).symm)
      · skip
        refine sSkip ?_
        refine sSeq ?_
        refine W.region ?_
        refine OpsW.det (det_loadA ty29 rfl (List.Mem.head _) rfl) rfl ?_
        refine OpsW.det (det_loadA ty29 rfl (List.Mem.head _) rfl) rfl ?_
        refine OpsW.det (det_call en18 rfl (fun w hb ho => Cu.Add_ok ho.blocks)) rfl ?_
        refine OpsW.store sz29 rfl rfl rfl rfl rfl (Upd.here) rfl ?_
        refine sNext ?_
        refine W.keep (F' := [(7, _), (6, _), (5, _), (4, _), (2, _)]) ⟨rfl, rfl, rfl, rfl, rfl, trivial⟩ ?_
        refine sSeq ?_
        refine W.region ?_
        refine OpsW.det (det_loadA ty29 rfl (List.Mem.tail _ (List.Mem.head _)) rfl) rfl ?_
        refine OpsW.det (det_call en16 rfl (fun w hb ho => Cu.Square_ok ho.blocks)) rfl ?_
        refine OpsW.fresh (fr_alloc z29) rfl fun b8 => ?_
        refine OpsW.store sz29 rfl rfl rfl rfl rfl (Upd.here) rfl ?_
        refine sNext ?_
        refine W.keep (F' := [(8, _), (7, _), (6, _), (5, _), (4, _), (2, _)]) ⟨rfl, rfl, rfl, rfl, rfl, rfl, trivial⟩ ?_
        refine sSeq ?_
        refine W.region ?_
        refine OpsW.det (det_loadA ty29 rfl (List.Mem.head _) rfl) rfl ?_
        refine OpsW.det (det_loadA ty29 rfl (List.Mem.head _) rfl) rfl ?_
        refine OpsW.det (det_call en18 rfl (fun w hb ho => Cu.Add_ok ho.blocks)) rfl ?_
        refine OpsW.fresh (fr_alloc z29) rfl fun b9 => ?_
        refine OpsW.store sz29 rfl rfl rfl rfl rfl (Upd.here) rfl ?_
        refine sNext ?_
        refine W.keep (F' := [(9, _), (8, _), (7, _), (6, _), (5, _), (4, _), (2, _)]) ⟨rfl, rfl, rfl, rfl, rfl, rfl, rfl, trivial⟩ ?_
        refine sSeq ?_
        refine W.region ?_
        refine OpsW.det (det_loadA ty29 rfl (List.Mem.head _) rfl) rfl ?_
        refine OpsW.det (det_loadA ty29 rfl (List.Mem.head _) rfl) rfl ?_
        refine OpsW.det (det_call en18 rfl (fun w hb ho => Cu.Add_ok ho.blocks)) rfl ?_
        refine OpsW.store sz29 rfl rfl rfl rfl rfl (Upd.here) rfl ?_
        refine sNext ?_
        refine W.keep (F' := [(9, _), (8, _), (7, _), (6, _), (5, _), (4, _), (2, _)]) ⟨rfl, rfl, rfl, rfl, rfl, rfl, rfl, trivial⟩ ?_
        refine sSeq ?_
        refine W.draw mixed 9 [[], [], [0, 1], [], [3], [], [0, 1, 2, 3, 4, 5], [], [], [0, 1, 2, 3, 4, 5, 6, 7, 8], [0, 1, 2, 3, 4, 5, 6, 7, 8, 9]] (cl_lt (by decide)) ?_
        refine HeadR.start (cl_lt (by decide)) ?_
        refine HeadR.det rfl (fun β hβ => (det_loadA ty29 rfl (List.Mem.tail _ (List.Mem.tail _ (List.Mem.tail _ (List.Mem.head _)))) rfl)) ?_
        refine HeadR.det rfl (fun β hβ => (det_loadA ty29 rfl (List.Mem.head _) rfl)) ?_
        refine HeadR.det rfl (fun β hβ => (det_call en17 rfl (fun w hb ho => Cu.Mul_ok ho.blocks))) ?_
        refine HeadR.det rfl (fun β hβ => (det_fieldAddr fl107_0 rfl)) ?_
        refine HeadR.det rfl (fun β hβ => (det_loadA ty29 rfl (List.Mem.tail _ (List.Mem.tail _ (List.Mem.tail _ (List.Mem.tail _ (List.Mem.tail _ (List.Mem.tail _ (List.Mem.tail _ (List.Mem.head _)))))))) rfl)) ?_
        refine HeadR.det rfl (fun β hβ => (det_loadA ty29 rfl (List.Mem.head _) rfl)) ?_
        refine HeadR.det rfl (fun β hβ => (det_call en17 rfl (fun w hb ho => Cu.Mul_ok ho.blocks))) ?_
        refine HeadR.fresh rfl (fun β hβ => (fr_alloc z29).new) ?_
        refine HeadR.fresh rfl (fun β hβ => (fr_alloc z29).new) ?_
        refine HeadR.done ⟨by kernel_rfl, fun β hβ => ?_⟩
        refine OpsW.norm (F' := [(61, _), (62, _), (63, _), (64, _), (65, _), (66, _), (67, _), (10, .pointer (some ⟨(β 10).1, 0, none⟩)), (11, .pointer (some ⟨(β 11).1, 0, none⟩)), (9, _), (8, _), (7, _), (6, _), (5, _), (4, _), (2, _)]) (H' := [(_, _), (_, _), (_, _), (_, _), (_, _), (_, _), (_, _), (_, _), (_, _), (_, _)]) rfl rfl ?_
        generalize (β 10).1 = b10
        generalize (β 11).1 = b11
        refine OpsW.store sz29 rfl rfl rfl rfl rfl (Upd.here) rfl ?_
        refine OpsW.store sz29 rfl rfl rfl rfl rfl (Upd.there (Upd.here)) rfl ?_
        refine sNext ?_
        refine W.keep (F' := [(10, _), (11, _), (8, _), (7, _), (6, _), (5, _), (4, _), (2, _)]) ⟨rfl, rfl, rfl, rfl, rfl, rfl, rfl, rfl, trivial⟩ ?_
        refine sSeq ?_
        refine W.draw mixed 9 [[], [0], [], [0, 1, 2], [], [0, 1, 2, 3, 4], [], [0, 1, 2, 3, 4, 5, 6], [], [0, 1, 2, 3, 4, 5, 6, 7, 8]] (cl_lt (by decide)) ?_
        refine HeadR.start (cl_lt (by decide)) ?_
        refine HeadR.det rfl (fun β hβ => (det_loadA ty29 rfl (List.Mem.tail _ (List.Mem.tail _ (List.Mem.tail _ (List.Mem.tail _ (List.Mem.head _))))) rfl)) ?_
        refine HeadR.det rfl (fun β hβ => (det_call en16 rfl (fun w hb ho => Cu.Square_ok ho.blocks))) ?_
        refine HeadR.det rfl (fun β hβ => (det_loadA ty29 rfl (List.Mem.head _) rfl)) ?_
        refine HeadR.det rfl (fun β hβ => (det_call en62 rfl (fun w hb ho => Cu.Sub_ok ho.blocks))) ?_
        refine HeadR.det rfl (fun β hβ => (det_loadA ty29 rfl (List.Mem.tail _ (List.Mem.head _)) rfl)) ?_
        refine HeadR.det rfl (fun β hβ => (det_call en62 rfl (fun w hb ho => Cu.Sub_ok ho.blocks))) ?_
        refine HeadR.det rfl (fun β hβ => (det_loadA ty29 rfl (List.Mem.tail _ (List.Mem.head _)) rfl)) ?_
        refine HeadR.det rfl (fun β hβ => (det_call en62 rfl (fun w hb ho => Cu.Sub_ok ho.blocks))) ?_
        refine HeadR.fresh rfl (fun β hβ => (fr_alloc z29).new) ?_
        refine HeadR.done ⟨by kernel_rfl, fun β hβ => ?_⟩
        refine OpsW.norm (F' := [(68, _), (69, _), (70, _), (71, _), (72, _), (73, _), (74, _), (75, _), (12, .pointer (some ⟨(β 12).1, 0, none⟩)), (10, _), (11, _), (8, _), (7, _), (6, _), (5, _), (4, _), (2, _)]) (H' := [(_, _), (_, _), (_, _), (_, _), (_, _), (_, _), (_, _), (_, _), (_, _), (_, _), (_, _)]) rfl rfl ?_
        generalize (β 12).1 = b12
        refine OpsW.store sz29 rfl rfl rfl rfl rfl (Upd.here) rfl ?_
        refine sNext ?_
        refine W.keep (F' := [(12, _), (10, _), (11, _), (8, _), (7, _), (6, _), (5, _), (4, _), (2, _)]) ⟨rfl, rfl, rfl, rfl, rfl, rfl, rfl, rfl, rfl, trivial⟩ ?_
        refine sSeq ?_
        refine W.region ?_
        refine OpsW.det (det_fieldAddr fl107_1 rfl) rfl ?_
        refine OpsW.det (det_loadA ty29 rfl (List.Mem.tail _ (List.Mem.tail _ (List.Mem.tail _ (List.Mem.tail _ (List.Mem.tail _ (List.Mem.tail _ (List.Mem.tail _ (List.Mem.tail _ (List.Mem.tail _ (List.Mem.tail _ (List.Mem.head _))))))))))) rfl) rfl ?_
        refine OpsW.det (det_loadA ty29 rfl (List.Mem.tail _ (List.Mem.head _)) rfl) rfl ?_
        refine OpsW.det (det_call en17 rfl (fun w hb ho => Cu.Mul_ok ho.blocks)) rfl ?_
        refine OpsW.fresh (fr_alloc z29) rfl fun b13 => ?_
        refine OpsW.store sz29 rfl rfl rfl rfl rfl (Upd.here) rfl ?_
        refine sNext ?_
        refine W.keep (F' := [(13, _), (12, _), (11, _), (8, _), (7, _), (6, _), (5, _), (4, _), (2, _)]) ⟨rfl, rfl, rfl, rfl, rfl, rfl, rfl, rfl, rfl, trivial⟩ ?_
        refine sSeq ?_
        refine W.draw mixed 20 [[], [], [], [], [2, 3], [1, 2, 3, 4], [], [1, 2, 3, 4, 5, 6], [], [1, 2, 3, 4, 5, 6, 7, 8], [], [10], [], [1, 2, 3, 4, 5, 6, 7, 8, 9, 10, 11, 12], [1, 2, 3, 4, 5, 6, 7, 8, 9, 10, 11, 12, 13], [], [1, 2, 3, 4, 5, 6, 7, 8, 9, 10, 11, 12, 13, 14, 15], [], [1, 2, 3, 4, 5, 6, 7, 8, 9, 10, 11, 12, 13, 14, 15, 16, 17], [0, 1, 2, 3, 4, 5, 6, 7, 8, 9, 10, 11, 12, 13, 14, 15, 16, 17, 18], [0, 1, 2, 3, 4, 5, 6, 7, 8, 9, 10, 11, 12, 13, 14, 15, 16, 17, 18, 19]] (cl_lt (by decide)) ?_
        refine HeadR.start (cl_lt (by decide)) ?_
        refine HeadR.det rfl (fun β hβ => (det_loadA ty29 rfl (List.Mem.tail _ (List.Mem.head _)) rfl)) ?_
        refine HeadR.det rfl (fun β hβ => (det_loadA ty29 rfl (List.Mem.tail _ (List.Mem.tail _ (List.Mem.tail _ (List.Mem.tail _ (List.Mem.tail _ (List.Mem.tail _ (List.Mem.head _))))))) rfl)) ?_
        refine HeadR.det rfl (fun β hβ => (det_loadA ty29 rfl (List.Mem.tail _ (List.Mem.tail _ (List.Mem.tail _ (List.Mem.head _)))) rfl)) ?_
        refine HeadR.det rfl (fun β hβ => (det_loadA ty29 rfl (List.Mem.tail _ (List.Mem.head _)) rfl)) ?_
        refine HeadR.det rfl (fun β hβ => (det_call en62 rfl (fun w hb ho => Cu.Sub_ok ho.blocks))) ?_
        refine HeadR.det rfl (fun β hβ => (det_call en17 rfl (fun w hb ho => Cu.Mul_ok ho.blocks))) ?_
        refine HeadR.det rfl (fun β hβ => (det_loadA ty29 rfl (List.Mem.head _) rfl)) ?_
        refine HeadR.det rfl (fun β hβ => (det_call en62 rfl (fun w hb ho => Cu.Sub_ok ho.blocks))) ?_
        refine HeadR.det rfl (fun β hβ => (det_loadA ty29 rfl (List.Mem.head _) rfl)) ?_
        refine HeadR.det rfl (fun β hβ => (det_call en62 rfl (fun w hb ho => Cu.Sub_ok ho.blocks))) ?_
        refine HeadR.det rfl (fun β hβ => (det_fieldAddr fl107_2 rfl)) ?_
        refine HeadR.det rfl (fun β hβ => (det_loadA ty29 rfl (List.Mem.tail _ (List.Mem.tail _ (List.Mem.tail _ (List.Mem.tail _ (List.Mem.tail _ (List.Mem.tail _ (List.Mem.tail _ (List.Mem.tail _ (List.Mem.tail _ (List.Mem.tail _ (List.Mem.tail _ (List.Mem.head _)))))))))))) rfl)) ?_
        refine HeadR.det rfl (fun β hβ => (det_loadA ty29 rfl (List.Mem.tail _ (List.Mem.tail _ (List.Mem.tail _ (List.Mem.tail _ (List.Mem.tail _ (List.Mem.tail _ (List.Mem.tail _ (List.Mem.head _)))))))) rfl)) ?_
        refine HeadR.det rfl (fun β hβ => (det_call en18 rfl (fun w hb ho => Cu.Add_ok ho.blocks))) ?_
        refine HeadR.det rfl (fun β hβ => (det_call en16 rfl (fun w hb ho => Cu.Square_ok ho.blocks))) ?_
        refine HeadR.det rfl (fun β hβ => (det_loadA ty29 rfl (List.Mem.tail _ (List.Mem.tail _ (List.Mem.tail _ (List.Mem.tail _ (List.Mem.tail _ (List.Mem.tail _ (List.Mem.tail _ (List.Mem.tail _ (List.Mem.head _))))))))) rfl)) ?_
        refine HeadR.det rfl (fun β hβ => (det_call en62 rfl (fun w hb ho => Cu.Sub_ok ho.blocks))) ?_
        refine HeadR.det rfl (fun β hβ => (det_loadA ty29 rfl (List.Mem.tail _ (List.Mem.tail _ (List.Mem.tail _ (List.Mem.tail _ (List.Mem.tail _ (List.Mem.head _)))))) rfl)) ?_
        refine HeadR.det rfl (fun β hβ => (det_call en62 rfl (fun w hb ho => Cu.Sub_ok ho.blocks))) ?_
        refine HeadR.det rfl (fun β hβ => (det_build rfl bld107)) ?_
        refine HeadR.done ⟨by kernel_rfl, fun β hβ => ?_⟩
        refine OpsW.norm (F' := [(80, _), (81, _), (82, _), (83, _), (84, _), (85, _), (86, _), (87, _), (88, _), (89, _), (90, _), (91, _), (92, _), (93, _), (94, _), (95, _), (96, _), (97, _), (98, _), (99, _), (13, _), (12, _), (11, _), (8, _), (7, _), (6, _), (5, _), (4, _), (2, _)]) (H' := [(_, _), (_, _), (_, _), (_, _), (_, _), (_, _), (_, _), (_, _), (_, _), (_, _), (_, _), (_, _)]) rfl rfl ?_
        refine OpsW.store sz107 rfl rfl rfl rfl rfl (Upd.there (Upd.there (Upd.there (Upd.there (Upd.there (Upd.there (Upd.there (Upd.there (Upd.there (Upd.here)))))))))) rfl ?_
        refine sNext ?_
        refine W.keep (F' := [(4, _)]) ⟨rfl, trivial⟩ ?_
        refine sRet ?_
        exact done1 Tryd.results82 (rv_cellA ty107 rfl (List.Mem.tail _ (List.Mem.tail _ (List.Mem.tail _ (List.Mem.tail _ (List.Mem.tail _ (List.Mem.tail _ (List.Mem.tail _ (List.Mem.tail _ (List.Mem.tail _ (List.Mem.head _)))))))))) rfl) (congrArg encJ (jadd_n hc16 hc20 hc44).symm)

end Go.Cu

/- Words' carries and borrows, in closed form. Conditions: none; plain arithmetic. -/
namespace Go.Cu
open Go Go.Vm
def car (i m k : Nat) : Nat := (m % 18446744073709551616 ^ i + k % 18446744073709551616 ^ i) / 18446744073709551616 ^ i
def bor (i m k : Nat) : Nat := if m % 18446744073709551616 ^ i < k % 18446744073709551616 ^ i then 1 else 0
theorem car_0 (m k : Nat) : car 0 m k = 0 := by simp [car, Nat.mod_one]
theorem bor_0 (m k : Nat) : bor 0 m k = 0 := by simp [bor, Nat.mod_one]
theorem bor_le (i m k : Nat) : bor i m k ≤ 1 := by unfold bor; split <;> omega
theorem car_le (i m k : Nat) : car i m k ≤ 1 := by
  unfold car
  have h0 : 0 < 18446744073709551616 ^ i := Nat.pow_pos (by decide)
  have h1 := Nat.mod_lt m h0
  have h2 := Nat.mod_lt k h0
  have := Nat.div_lt_of_lt_mul (show m % 18446744073709551616 ^ i + k % 18446744073709551616 ^ i < 18446744073709551616 ^ i * 2 by omega)
  omega
theorem mod_succ (m i : Nat) : m % 18446744073709551616 ^ (i + 1) = m % 18446744073709551616 ^ i + 18446744073709551616 ^ i * lim m i := by
  rw [Nat.pow_succ, Nat.mod_mul]; rfl
theorem add_step (i m k : Nat) : lim m i + lim k i + car i m k = lim (m + k) i + 18446744073709551616 * car (i + 1) m k := by
  have h0 : 0 < 18446744073709551616 ^ i := Nat.pow_pos (by decide)
  have h1 : (m + k) / 18446744073709551616 ^ i = m / 18446744073709551616 ^ i + k / 18446744073709551616 ^ i + car i m k := by
    unfold car
    have e1 := Nat.div_add_mod m (18446744073709551616 ^ i)
    have e2 := Nat.div_add_mod k (18446744073709551616 ^ i)
    have : m + k = (m % 18446744073709551616 ^ i + k % 18446744073709551616 ^ i) + 18446744073709551616 ^ i * (m / 18446744073709551616 ^ i + k / 18446744073709551616 ^ i) := by rw [Nat.mul_add]; omega
    rw [this, Nat.add_mul_div_left _ _ h0]; omega
  have h2 : car (i + 1) m k = (lim m i + lim k i + car i m k) / 18446744073709551616 := by
    conv => lhs; unfold car
    rw [mod_succ, mod_succ, Nat.pow_succ, ← Nat.div_div_eq_div_mul,
      show m % 18446744073709551616 ^ i + 18446744073709551616 ^ i * lim m i + (k % 18446744073709551616 ^ i + 18446744073709551616 ^ i * lim k i) = (m % 18446744073709551616 ^ i + k % 18446744073709551616 ^ i) + 18446744073709551616 ^ i * (lim m i + lim k i) by rw [Nat.mul_add]; omega,
      Nat.add_mul_div_left _ _ h0]
    unfold car
    rw [Nat.add_comm]
  have h3 : lim (m + k) i = (lim m i + lim k i + car i m k) % 18446744073709551616 := by
    unfold lim
    rw [h1]; omega
  rw [h2, h3]; omega
theorem lim_big {m i n : Nat} (h : i < n) : lim (m + 18446744073709551616 ^ n) i = lim m i := by
  unfold lim
  obtain ⟨k, rfl⟩ : ∃ k, n = i + 1 + k := ⟨n - i - 1, by omega⟩
  have h0 : 0 < 18446744073709551616 ^ i := Nat.pow_pos (by decide)
  rw [Nat.pow_add, Nat.pow_succ, Nat.mul_assoc, Nat.add_mul_div_left _ _ h0, Nat.add_mul_mod_self_left]
theorem sub_step {i n m k : Nat} (h : i < n) (hk : k ≤ m + 18446744073709551616 ^ n) (hm : m < 18446744073709551616 ^ n) :
    lim (m + 18446744073709551616 ^ n - k) i + lim k i + bor i m k = lim m i + 18446744073709551616 * bor (i + 1) m k := by
  have key : ∀ j, j ≤ n → bor j m k = car j (m + 18446744073709551616 ^ n - k) k := fun j hj => by
    have h0 : 0 < 18446744073709551616 ^ j := Nat.pow_pos (by decide)
    generalize hD : m + 18446744073709551616 ^ n - k = D
    have e : D + k = m + 18446744073709551616 ^ n := by omega
    have e2 : (D % 18446744073709551616 ^ j + k % 18446744073709551616 ^ j) % 18446744073709551616 ^ j = m % 18446744073709551616 ^ j := by
      rw [← Nat.add_mod, e]
      obtain ⟨c, rfl⟩ : ∃ c, n = j + c := ⟨n - j, by omega⟩
      rw [Nat.pow_add, Nat.add_mul_mod_self_left]
    have e3 := Nat.div_add_mod (D % 18446744073709551616 ^ j + k % 18446744073709551616 ^ j) (18446744073709551616 ^ j)
    rw [e2] at e3
    have hc := car_le j D k
    have hd := Nat.mod_lt D h0
    unfold bor
    unfold car at hc ⊢
    generalize (D % 18446744073709551616 ^ j + k % 18446744073709551616 ^ j) / 18446744073709551616 ^ j = c at *
    have : c = 0 ∨ c = 1 := by omega
    rcases this with rfl | rfl
    · rw [if_neg (by omega)]
    · rw [if_pos (by omega)]
  rw [key i (by omega), key (i + 1) (by omega), add_step, Nat.sub_add_cancel hk, lim_big h]
def sel (i s m j : Nat) : Nat := if j < i then lim s j else lim m j
theorem sel_0 {s m j : Nat} : sel 0 s m j = lim m j := if_neg (by omega)
theorem sel_at {i s m : Nat} : sel i s m i = lim m i := if_neg (by omega)
theorem sel_new {i s m : Nat} : sel (i + 1) s m i = lim s i := if_pos (by omega)
theorem sel_old {i s m j : Nat} (h : j ≠ i) : sel (i + 1) s m j = sel i s m j := by
  unfold sel
  by_cases hj : j < i
  · rw [if_pos hj, if_pos (by omega)]
  · rw [if_neg hj, if_neg (by omega)]
abbrev w4 (f : Nat → Nat) : List Value := [u64 (f 0), u64 (f 1), u64 (f 2), u64 (f 3)]
theorem at4 {f : Nat → Nat} {i k : Nat} (h : i < 4) (hk : k = i) : (w4 f)[k]? = some (u64 (f i)) := by
  subst hk
  have : k = 0 ∨ k = 1 ∨ k = 2 ∨ k = 3 := by omega
  rcases this with rfl | rfl | rfl | rfl <;> rfl
theorem put4 {f f' : Nat → Nat} {v i k : Nat} (h : i < 4) (hk : k = i) (hv : f' i = v) (hf : ∀ j, j ≠ i → f' j = f j) : splice k [u64 v] (w4 f) = some (w4 f') := by
  subst hk
  have : k = 0 ∨ k = 1 ∨ k = 2 ∨ k = 3 := by omega
  rcases this with rfl | rfl | rfl | rfl
  · show some [u64 v, u64 (f 1), u64 (f 2), u64 (f 3)] = some [u64 (f' 0), u64 (f' 1), u64 (f' 2), u64 (f' 3)]; rw [hv, hf 1 (by decide), hf 2 (by decide), hf 3 (by decide)]
  · show some [u64 (f 0), u64 v, u64 (f 2), u64 (f 3)] = some [u64 (f' 0), u64 (f' 1), u64 (f' 2), u64 (f' 3)]; rw [hv, hf 0 (by decide), hf 2 (by decide), hf 3 (by decide)]
  · show some [u64 (f 0), u64 (f 1), u64 v, u64 (f 3)] = some [u64 (f' 0), u64 (f' 1), u64 (f' 2), u64 (f' 3)]; rw [hv, hf 0 (by decide), hf 1 (by decide), hf 3 (by decide)]
  · show some [u64 (f 0), u64 (f 1), u64 (f 2), u64 v] = some [u64 (f' 0), u64 (f' 1), u64 (f' 2), u64 (f' 3)]; rw [hv, hf 0 (by decide), hf 1 (by decide), hf 2 (by decide)]
theorem w4_congr {f g : Nat → Nat} (h : ∀ j, j < 4 → f j = g j) : w4 f = w4 g := by
  unfold w4; rw [h 0 (by decide), h 1 (by decide), h 2 (by decide), h 3 (by decide)]
theorem add_pair (i m k : Nat) : Value.tuple #[u64 ((lim m i + lim k i + car i m k) % 18446744073709551616), u64 ((lim m i + lim k i + car i m k) / 18446744073709551616)] = .tuple #[u64 (lim (m + k) i), u64 (car (i + 1) m k)] := by
  have h := add_step i m k
  have h1 := lim_lt (m + k) i
  rw [show (lim m i + lim k i + car i m k) % 18446744073709551616 = lim (m + k) i by omega, show (lim m i + lim k i + car i m k) / 18446744073709551616 = car (i + 1) m k by omega]
theorem sub_pair {i n m k : Nat} (h : i < n) (hk : k ≤ m + 18446744073709551616 ^ n) (hm : m < 18446744073709551616 ^ n) :
    Value.tuple #[u64 ((lim m i + 18446744073709551616 - lim k i - bor i m k) % 18446744073709551616), u64 (if lim m i < lim k i + bor i m k then 1 else 0)] = .tuple #[u64 (lim (m + 18446744073709551616 ^ n - k) i), u64 (bor (i + 1) m k)] := by
  have h := sub_step h hk hm
  have h1 := lim_lt (m + 18446744073709551616 ^ n - k) i
  have h2 := bor_le (i + 1) m k
  have h3 := bor_le i m k
  have h4 := lim_lt k i
  have h5 := lim_lt m i
  generalize lim (m + 18446744073709551616 ^ n - k) i = d at *
  generalize bor (i + 1) m k = b' at *
  rw [show (lim m i + 18446744073709551616 - lim k i - bor i m k) % 18446744073709551616 = d by omega, show (if lim m i < lim k i + bor i m k then 1 else 0) = b' by split <;> omega]
theorem R4_pow : 18446744073709551616 ^ 4 = R4 := by decide
end Go.Cu

/- The scalars: sums and differences: the walks. Conditions: numbers below the order. -/
namespace Go.Cu
open Go Go.Vm Go.RowKit Go.Proofs 
attribute [local irreducible] W OpsW Det Fresh New Writes Vm.Pure Makes Changes ExternTo BuildTo ZeroTo FieldTo IndexTo BinTo SliceTo Vm.Enters
set_option linter.unusedVariables false
set_option linter.unusedSimpArgs false
variable {T : Nat → TypeId × Nat × Nat}

theorem rlo_mod {v : Nat} (h : v < rr) : v % rr = v := Nat.mod_eq_of_lt h
theorem rhi_mod {v : Nat} (h : rr ≤ v) (h2 : v < 2 * rr) : v % rr = v - rr := by rw [Nat.mod_eq_sub_mod h, Nat.mod_eq_of_lt (by omega)]
theorem enc4_congr {m k : Nat} (h : ∀ j, j < 4 → lim m j = lim k j) : enc4 m = enc4 k := by
  unfold enc4; rw [h 0 (by decide), h 1 (by decide), h 2 (by decide), h 3 (by decide)]
theorem sub_w4 {f g : Nat → Nat} {n t : Nat} {r : Hp} (h : ∀ j, j < 4 → f j = g j) : List.Sublist ((n, blk (w4 f) t) :: r) ((n, blk (w4 g) t) :: r) := by rw [w4_congr h]; exact List.Sublist.refl _
theorem bor_4 {m k : Nat} (hm : m < R4) (hk : k < R4) : bor 4 m k = if m < k then 1 else 0 := by
  unfold bor; rw [R4_pow, Nat.mod_eq_of_lt hm, Nat.mod_eq_of_lt hk]
theorem car_4 {m k : Nat} (hm : m < rr) (hk : k < rr) : car 4 m k = 0 := by
  have h1 : m < R4 := Nat.lt_trans hm (by decide)
  have h2 : k < R4 := Nat.lt_trans hk (by decide)
  unfold car; rw [R4_pow, Nat.mod_eq_of_lt h1, Nat.mod_eq_of_lt h2]
  exact Nat.div_eq_of_lt (by unfold rr at hm hk; unfold R4; omega)
theorem z4_w4 : ([.int .u64 0, .int .u64 0, .int .u64 0, .int .u64 0] : List Value) = w4 (sel 0 0 0) := by kernel_rfl
theorem big4 {m j : Nat} (h : j < 4) : lim (m + R4) j = lim m j := by rw [← R4_pow]; exact lim_big h
theorem red_lo {V : Nat} (h : bor 4 V rr = 1) (hV : V < 2 * rr) : V % rr = V := by
  rw [bor_4 (Nat.lt_trans hV (by decide)) (by decide)] at h
  refine rlo_mod ?_
  by_cases hh : V < rr
  · exact hh
  · rw [if_neg hh] at h; cases h
theorem red_hi {V D : Nat} (hD : D + rr = V + R4) (h : bor 4 V rr ≠ 1) (hV : V < 2 * rr) : enc4 D = enc4 (V % rr) := by
  rw [bor_4 (Nat.lt_trans hV (by decide)) (by decide)] at h
  have hh : rr ≤ V := by
    rcases Nat.lt_or_ge V rr with hl | hl
    · rw [if_pos hl] at h; exact absurd rfl h
    · exact hl
  rw [rhi_mod hh hV, show D = (V - rr) + R4 by omega]
  exact enc4_congr fun j hj => big4 hj
theorem sub_pair4 {i m k D : Nat} (h : i < 4) (hD : D + k = m + R4) (hm : m < R4) :
    Value.tuple #[u64 ((lim m i + 18446744073709551616 - lim k i - bor i m k) % 18446744073709551616), u64 (if lim m i < lim k i + bor i m k then 1 else 0)] = .tuple #[u64 (lim D i), u64 (bor (i + 1) m k)] := by
  have h1 := sub_pair (i := i) (n := 4) (m := m) (k := k) h (by rw [R4_pow]; omega) (by rw [R4_pow]; exact hm)
  rwa [R4_pow, show m + R4 - k = D by omega] at h1
theorem add_pairE {m k S : Nat} (hS : S = m + k) (i : Nat) : Value.tuple #[u64 ((lim m i + lim k i + car i m k) % 18446744073709551616), u64 ((lim m i + lim k i + car i m k) / 18446744073709551616)] = .tuple #[u64 (lim S i), u64 (car (i + 1) m k)] := by
  rw [hS]; exact add_pair i m k
theorem sel_full {s m : Nat} : ∀ j, j < 4 → sel 4 s m j = lim s j := fun j hj => if_pos hj

theorem rsub_hi {m k D : Nat} (hD : D + k = m + R4) (h : bor 4 m k ≠ 1) (hm : m < rr) (hk : k < rr) : enc4 D = enc4 ((m + (rr - k)) % rr) := by
  rw [bor_4 (Nat.lt_trans hm (by decide)) (Nat.lt_trans hk (by decide))] at h
  have hh : k ≤ m := by
    rcases Nat.lt_or_ge m k with hl | hl
    · rw [if_pos hl] at h; exact absurd rfl h
    · exact hl
  rw [rhi_mod (by omega) (by omega), show D = (m + (rr - k) - rr) + R4 by omega]
  exact enc4_congr fun j hj => big4 hj
theorem rsub_lo {m k D E : Nat} (hD : D + k = m + R4) (hE : E = D + rr) (h : bor 4 m k = 1) (hm : m < rr) (hk : k < rr) : enc4 E = enc4 ((m + (rr - k)) % rr) := by
  rw [bor_4 (Nat.lt_trans hm (by decide)) (Nat.lt_trans hk (by decide))] at h
  have hh : m < k := by
    rcases Nat.lt_or_ge m k with hl | hl
    · exact hl
    · rw [if_neg (by omega)] at h; cases h
  have h4 : rr < R4 := by decide
  rw [rlo_mod (by omega), show E = (m + (rr - k)) + R4 by omega]
  exact enc4_congr fun j hj => big4 hj




end Go.Cu

/- The scalars: products: the walk. Conditions: numbers below the order. -/
namespace Go.Cu
open Go Go.Vm Go.RowKit Go.Proofs 
attribute [local irreducible] W OpsW Det Fresh New Writes Vm.Pure Makes Changes ExternTo BuildTo ZeroTo FieldTo IndexTo BinTo SliceTo Vm.Enters
set_option linter.unusedVariables false
set_option linter.unusedSimpArgs false
variable {T : Nat → TypeId × Nat × Nat}

theorem idx33 {m i : Nat} (h : i < 4) : IndexTo Tryd.prog 65 (.agg #[u64 (lim (m) 0), u64 (lim (m) 1), u64 (lim (m) 2), u64 (lim (m) 3)]) (.int .i64 (i : Nat)) (u64 (lim m i)) := by
  have : i = 0 ∨ i = 1 ∨ i = 2 ∨ i = 3 := by omega
  rcases this with rfl | rfl | rfl | rfl <;> exact IndexTo.of fun _ => by kernel_rfl




end Go.Cu

/- The scalars: what the functions compute: the walks. Conditions: none. -/
namespace Go.Cu
open Go Go.Vm Go.RowKit Go.Proofs 
attribute [local irreducible] W OpsW Det Fresh New Writes Vm.Pure Makes Changes ExternTo BuildTo ZeroTo FieldTo IndexTo BinTo SliceTo Vm.Enters
set_option linter.unusedVariables false
set_option linter.unusedSimpArgs false
variable {T : Nat → TypeId × Nat × Nat}

theorem montr_mul (x y : Fs) : montr x * montr y * inv_rr % rr = montr (x * y) := by
  unfold montr
  rw [Zp.mul_val, Nat.mul_mod, ← Nat.mul_mod (x.val * R4), ← Nat.mul_mod, Nat.mod_mul_mod,
    show x.val * R4 * (y.val * R4) * inv_rr = x.val * y.val * R4 * (R4 * inv_rr) from by ac_rfl, Nat.mul_mod, show R4 * inv_rr % rr = 1 from by decide +kernel, Nat.mul_one, Nat.mod_mod]
theorem montr_add (x y : Fs) : (montr x + montr y) % rr = montr (x + y) := by
  unfold montr
  rw [Zp.add_val, ← Nat.add_mod, ← Nat.add_mul, Nat.mod_mul_mod]
theorem montr_sub (x y : Fs) : (montr x + (rr - montr y)) % rr = montr (x - y) := by
  unfold montr
  rw [Zp.sub_val, Nat.mod_mul_mod]
  have h1 := Nat.mod_lt (y.val * R4) rr_pos
  have h2 := Nat.div_add_mod (y.val * R4) rr
  have hy := y.lt
  have h3 : (x.val + (rr - y.val)) * R4 + rr * (y.val * R4 / rr) = (x.val * R4 + (rr - y.val * R4 % rr)) + rr * (R4 - 1) := by
    have : (rr - y.val) * R4 + y.val * R4 = rr * R4 := by rw [← Nat.add_mul, Nat.sub_add_cancel (Nat.le_of_lt hy)]
    have h5 : rr * R4 = rr * (R4 - 1) + rr := by rw [← Nat.mul_succ]; rfl
    rw [Nat.add_mul]
    generalize rr * (R4 - 1) = z at *
    omega
  have h4 := congrArg (· % rr) h3
  simp only [Nat.add_mul_mod_self_left] at h4
  rw [h4, Nat.add_mod, Nat.mod_mod, ← Nat.add_mod]
theorem rof_words {n : Nat} (h : n < 18446744073709551616) : enc4 n = .agg #[u64 n, .int .u64 0, .int .u64 0, .int .u64 0] := by
  have := lim4 h (by decide : 0 < 18446744073709551616) (by decide : 0 < 18446744073709551616) (by decide : 0 < 18446744073709551616)
  have hv : val4 n 0 0 0 = n := by simp [val4]
  rw [hv] at this
  exact this
def R44 : Nat := val4 14526898881837571181 3129137299524312099 419701826671360399 524908885293268753
theorem zR : (.agg #[.int .u64 0, .int .u64 0, .int .u64 0, .int .u64 0] : Value) = encR 0 := by kernel_rfl


theorem fld35 {a b c d : Int} : FieldTo Tryd.prog 67 (.agg #[.int .u64 a, .int .u64 b, .int .u64 c, .int .u64 d]) 0 (.agg #[.int .u64 a, .int .u64 b, .int .u64 c, .int .u64 d]) := FieldTo.of fun _ => by kernel_rfl
end Go.Cu

/- The scalars: their bytes: the walks. Conditions: none. -/
namespace Go.Cu
open Go Go.Vm Go.RowKit Go.Proofs 
attribute [local irreducible] W OpsW Det Fresh New Writes Vm.Pure Makes Changes ExternTo BuildTo ZeroTo FieldTo IndexTo BinTo SliceTo Vm.Enters
set_option linter.unusedVariables false
set_option linter.unusedSimpArgs false
variable {T : Nat → TypeId × Nat × Nat}

/-- Byte j of x, the lowest first. -/
def byt (x j : Nat) : Nat := x / 256 ^ j % 256
def u8 (n : Nat) : Value := .int .u8 (n : Int)
/-- The bytes of x from the n-th down to the k-th. -/
def bytes (x n : Nat) : Nat → List Value
  | 0 => []
  | k + 1 => bytes x n k ++ [u8 (byt x (n - 1 - k))]
theorem bytes_len (x n k : Nat) : (bytes x n k).length = k := by
  induction k with
  | zero => rfl
  | succ k ih => simp [bytes, ih]
theorem slice22 {v : Int} : SliceTo Tryd.prog 22 1 [(0, .int .u8 v)] [.int .u8 v] 5 := SliceTo.of fun _ => by kernel_rfl
theorem wrap_u8 {a : Nat} : IntKind.u8.wrap (a : Int) = ((a % 256 : Nat) : Int) := by simp [IntKind.wrap, IntKind.signed, IntKind.bits]
theorem ty22 : TyS Tryd.prog 22 5 1 1 [.int .u8 0] := ⟨by kernel_rfl, by kernel_rfl, by kernel_rfl, ⟨.int .u8 0, by kernel_rfl, by kernel_rfl⟩, rfl, by decide⟩
theorem byt_eq (x i : Nat) : x / 2 ^ (8 * i) % 256 = byt x i := by unfold byt; rw [Nat.pow_mul]
theorem isSl_at {el s len : Nat} {v : Value} {hp : Hp} {xs : List Value} (h : IsSl el s v len hp xs) (h0 : 0 < len) : ∃ p : Prm, v = .slice (some ⟨p.1, 0, none⟩) len p.2.1 ∧ hp = [(p.1, blk (xs ++ p.2.2) el)] ∧ (xs ++ p.2.2).length = p.2.1 * s := by
  cases h with
  | nil => omega
  | at_ h1 h2 h3 => exact ⟨(_, _, _), rfl, rfl, h2⟩




end Go.Cu

/- The scalars: how they are written: the walk. Conditions: none. -/
namespace Go.Cu
open Go Go.Vm Go.RowKit Go.Proofs 
attribute [local irreducible] W OpsW Det Fresh New Writes Vm.Pure Makes Changes ExternTo BuildTo ZeroTo FieldTo IndexTo BinTo SliceTo Vm.Enters
set_option linter.unusedVariables false
set_option linter.unusedSimpArgs false
variable {T : Nat → TypeId × Nat × Nat}

theorem over_app : ∀ {new c : List Value}, new.length ≤ c.length → over new c = some (new ++ c.drop new.length)
  | [], c, _ => by simp [over]
  | v :: new, [], h => by simp at h
  | v :: new, x :: c, h => by
    have := over_app (new := new) (c := c) (by simpa using h)
    simp [over, this]
theorem splice_app {new c : List Value} (h : new.length ≤ c.length) : ∀ {a : List Value}, splice a.length new (a ++ c) = some (a ++ new ++ c.drop new.length)
  | [] => by simpa [splice] using over_app h
  | x :: a => by
    have := splice_app h (a := a)
    simp [splice, this]
theorem byt_lim {V w j : Nat} (hj : j < 8) : byt (lim V w) j = byt V (8 * w + j) := by
  unfold byt lim
  have h1 : 18446744073709551616 ^ w = 256 ^ (8 * w) := by rw [Nat.pow_mul]
  have h2 : (18446744073709551616 : Nat) = 256 ^ j * 256 ^ (8 - j) := by rw [← Nat.pow_add, show j + (8 - j) = 8 by omega]
  rw [h1, h2, Nat.mod_mul_right_div_self, Nat.div_div_eq_div_mul, ← Nat.pow_add]
  exact Nat.mod_mod_of_dvd _ (by rw [show 8 - j = (7 - j) + 1 by omega, Nat.pow_succ]; exact Nat.dvd_mul_left _ _)
theorem bytes_more (x n k : Nat) : ∀ j, bytes x n (k + j) = bytes x n k ++ (List.range j).map fun i => u8 (byt x (n - 1 - (k + i)))
  | 0 => by simp
  | j + 1 => by rw [← Nat.add_assoc, bytes, bytes_more x n k j, List.range_succ]; simp
theorem bytes_all (x n : Nat) : bytes x n n = (List.range n).map fun i => u8 (byt x (n - 1 - i)) := by
  have := bytes_more x n 0 n
  simpa [bytes] using this
theorem bytes_word {V i : Nat} (h : i < 4) : bytes V 32 (8 * i) ++ bytes (lim V (3 - i)) 8 8 = bytes V 32 (8 * (i + 1)) := by
  rw [Nat.mul_succ, bytes_more V 32 (8 * i) 8, bytes_all]
  congr 1
  refine List.map_congr_left fun j hj => ?_
  have hj : j < 8 := by simpa using hj
  rw [byt_lim (by omega)]
  congr 2
  omega
/-- The first i words' bytes, and noughts. -/
def bst (V i : Nat) : List Value := bytes V 32 (8 * i) ++ List.replicate (32 - 8 * i) (u8 0)
theorem bst_put {V i : Nat} (h : i < 4) : splice (8 * i) (bytes (lim V (3 - i)) 8 8) (bst V i) = some (bst V (i + 1)) := by
  have := splice_app (a := bytes V 32 (8 * i)) (new := bytes (lim V (3 - i)) 8 8) (c := List.replicate (32 - 8 * i) (u8 0)) (by rw [bytes_len, List.length_replicate]; omega)
  rw [bytes_len] at this
  unfold bst
  rw [this, bytes_word h, bytes_len, List.drop_replicate]
  congr 3
theorem bytes_one (x n k : Nat) : (bytes x n k).all (·.oneCell') = true := by
  induction k with
  | zero => rfl
  | succ k ih => rw [bytes, List.all_append, ih]; rfl
theorem u101 : Tryd.prog.underlying 101 = some (.array 32 5) := by kernel_rfl
theorem u22 : Tryd.prog.underlying 22 = some (.slice 5) := by kernel_rfl
theorem sz5 : sizeIn Tryd.prog 5 = some 1 := by kernel_rfl
theorem z101 : TyZ Tryd.prog 101 (.agg (bst 0 0).toArray) (bst 0 0) := ⟨fun _ => by kernel_rfl, by kernel_rfl⟩
theorem bst_4 {V : Nat} : bst V 4 = bytes V 32 32 := by unfold bst; simp
/-- How a scalar is written. -/
def rbytes (x : Fs) : List Value := bytes x.val 32 32
theorem rbytes_len (x : Fs) : (rbytes x).length = 32 := bytes_len _ _ _
theorem bst_len {V i : Nat} (h : i ≤ 4) : (bst V i).length = 32 := by unfold bst; rw [List.length_append, bytes_len, List.length_replicate]; omega
theorem cut_all : ∀ {n : Nat} {l : List Value}, l.length = n → takeN n l = some l
  | 0, l, h => by simp [takeN, List.eq_nil_of_length_eq_zero h]
  | n + 1, [], h => by simp at h
  | n + 1, c :: l, h => by simp [takeN, cut_all (n := n) (l := l) (by simpa using h)]
theorem splice_all {new c : List Value} (h : new.length = c.length) : splice 0 new c = some new := by
  have := splice_app (a := []) (new := new) (c := c) (by omega)
  simpa [h] using this
theorem bst_one {V i : Nat} : (bst V i).all (·.oneCell') = true := by
  unfold bst; rw [List.all_append, bytes_one, List.all_replicate]; simp; exact .inr rfl




end Go.Cu

/- The scalars: of any bytes: the walk. Conditions: none. -/
namespace Go.Cu
open Go Go.Vm Go.RowKit Go.Proofs 
attribute [local irreducible] W OpsW Det Fresh New Writes Vm.Pure Makes Changes ExternTo BuildTo ZeroTo FieldTo IndexTo BinTo SliceTo Vm.Enters
set_option linter.unusedVariables false
set_option linter.unusedSimpArgs false
variable {T : Nat → TypeId × Nat × Nat}

/-- v is a slice of the bytes l, which lie in a block of G'. -/
structure Bs (G' : Hp) (v : Value) (l : List Nat) : Prop where
  shape : ∃ ad cap, v = .slice ad l.length cap
  small : ∀ c ∈ l, c < 256
  all : 0 < l.length → ∃ (b o cap : Nat) (cs : List Value) (e : TypeId) (fr : Nat × Nat), v = .slice (some ⟨b, o, none⟩) l.length cap ∧ (b, Obj.cells cs.toArray e fr) ∈ G' ∧ l.length ≤ cap ∧ ∀ i (h : i < l.length), cs[o + i]? = some (u8 l[i])
theorem Bs.at_ {G' : Hp} {v : Value} {l : List Nat} (hB : Bs G' v l) (i : Nat) (h : i < l.length) : ∃ (b o cap : Nat) (cs : List Value) (e : TypeId) (fr : Nat × Nat), v = .slice (some ⟨b, o, none⟩) l.length cap ∧ (b, Obj.cells cs.toArray e fr) ∈ G' ∧ cs[o + i]? = some (u8 l[i]) := by
  obtain ⟨b, o, cap, cs, e, fr, h1, h2, _, h3⟩ := hB.all (by omega)
  exact ⟨b, o, cap, cs, e, fr, h1, h2, h3 i h⟩
theorem Bs.mono {G' G'' : Hp} {v : Value} {l : List Nat} (h : Bs G' v l) (hs : ∀ p ∈ G', p ∈ G'') : Bs G'' v l :=
  ⟨h.shape, h.small, fun i => by obtain ⟨b, o, cap, cs, e, fr, h1, h2, h3⟩ := h.all i; exact ⟨b, o, cap, cs, e, fr, h1, hs _ h2, h3⟩⟩
theorem blocks_cons {G : Hp} {w : World} {p : Nat × Obj} (h : w.heap[p.1]? = some p.2) (hG : Blocks G w) : Blocks (p :: G) w := fun q hq => by
  rcases List.mem_cons.1 hq with rfl | hq
  · exact h
  · exact hG q hq
theorem blocks_app {G G' : Hp} {w : World} (h : Blocks G w) (h' : Blocks G' w) : Blocks (G ++ G') w := fun q hq => (List.mem_append.1 hq).elim (h q) (h' q)
def bcells (l : List Nat) : List Value := l.map u8
theorem Bs.of {l : List Nat} {b cap : Nat} {spare : List Value} {e : TypeId} {fr : Nat × Nat} (hs : ∀ c ∈ l, c < 256) (hcap : l.length ≤ cap) : Bs [(b, .cells (bcells l ++ spare).toArray e fr)] (.slice (some ⟨b, 0, none⟩) l.length cap) l :=
  ⟨⟨_, _, rfl⟩, hs, fun _ => ⟨b, 0, cap, _, e, fr, rfl, List.mem_singleton.2 rfl, hcap, fun i hi => by rw [Nat.zero_add, List.getElem?_append_left (by simp [bcells]; exact hi)]; simp [bcells, hi]⟩⟩
/-- The number that bytes make, below the order. -/
def wide (l : List Nat) : Fs := l.foldl (fun x c => x * Zp.of 256 + Zp.of c) 0
theorem wide_step {l : List Nat} {i : Nat} (h : i < l.length) : wide (l.take (i + 1)) = wide (l.take i) * Zp.of 256 + Zp.of l[i] := by
  unfold wide
  rw [List.take_succ_eq_append_getElem h, List.foldl_append]
  rfl
theorem z67r : TyZ Tryd.prog 67 (encR 0) (w4 (lim (montr 0))) := ⟨fun _ => by kernel_rfl, rfl⟩
theorem conv_byte {c : Nat} (h : c < 256) : Value.int .u64 (IntKind.u64.wrap (c : Int)) = u64 c := by rw [wrap_u64 (by omega)]; rfl
/-- The first i bytes, and noughts. -/
def cst (l : List Nat) (i : Nat) : List Value := bcells (l.take i) ++ List.replicate (l.length - i) (u8 0)
theorem cst_put {l : List Nat} {i : Nat} (h : i < l.length) : splice i [u8 l[i]] (cst l i) = some (cst l (i + 1)) := by
  have := splice_app (a := bcells (l.take i)) (new := [u8 l[i]]) (c := List.replicate (l.length - i) (u8 0)) (by simp; omega)
  rw [show (bcells (l.take i)).length = i by simp [bcells]; omega] at this
  unfold cst
  rw [this, List.take_succ_eq_append_getElem h, List.drop_replicate]
  simp only [bcells, List.map_append, List.map_cons, List.map_nil, List.length_singleton]
  rw [Nat.sub_sub]
theorem cst_0 (l : List Nat) : zrep [.int .u8 0] l.length = cst l 0 := by
  unfold cst bcells
  simp only [List.take_zero, List.map_nil, List.nil_append, Nat.sub_zero]
  generalize l.length = n
  induction n with
  | zero => rfl
  | succ n ih => simp only [zrep, List.replicate_succ] at ih ⊢; first | exact congrArg _ ih | rw [ih]; rfl
theorem cst_all (l : List Nat) : cst l l.length = bcells l ++ [] := by unfold cst; simp [bcells]




end Go.Cu

/- Copies of bytes: the walk. Conditions: as many bytes as memory has. -/
namespace Go.Cu
open Go Go.Vm Go.RowKit Go.Proofs 
attribute [local irreducible] W OpsW Det Fresh New Writes Vm.Pure Makes Changes ExternTo BuildTo ZeroTo FieldTo IndexTo BinTo SliceTo Vm.Enters
set_option linter.unusedVariables false
set_option linter.unusedSimpArgs false
variable {T : Nat → TypeId × Nat × Nat}

theorem cst_at {l : List Nat} {i k : Nat} (h : i < l.length) (hk : k = i) : splice k [u8 l[i]] (cst l i) = some (cst l (i + 1)) := by subst hk; exact cst_put h
theorem blk_congr {a b : List Value} {n t : Nat} {r : Hp} (h : a = b) : List.Sublist ((n, blk a t) :: r) ((n, blk b t) :: r) := by subst h; exact List.Sublist.refl _

theorem ty5 : TyC Tryd.prog 5 := ⟨by kernel_rfl, by kernel_rfl⟩
theorem u5 : Tryd.prog.underlying 5 = some (.int .u8) := by kernel_rfl
theorem Copy_ok {G' : Hp} {v : Value} {l : List Nat} (hB : Bs G' v l) (hl : l.length ≤ 281474976710656) {w : World} (hG : Blocks (G' ++ GH T) w)  : Makes Tryd.prog 11 #[v] w (fun p => .slice (some ⟨p.1, 0, none⟩) l.length l.length) (fun p => [(p.1, blk (bcells l ++ []) 5)]) (fun _ => True) := by
  obtain ⟨ad, cap, hvv⟩ := hB.shape
  refine makes_of_W (n := 22) (args := [v]) Tryd.func11 rfl Tryd.ntmps11 (Nat.le_of_ble_eq_true rfl) hG ?_
  refine sStart ?_
  refine sSeq ?_
  subst hvv
  refine W.region ?_
  refine OpsW.det (det_assign rfl) rfl ?_
  refine sNext ?_
  refine W.keep (F' := [(0, _)]) ⟨rfl, trivial⟩ ?_
  refine sSeq ?_
  refine W.region ?_
  refine OpsW.det (det_move rfl) rfl ?_
  refine OpsW.det (det_len u22 rfl) rfl ?_
  refine OpsW.fresh (fr_makeSlice ty22 rfl rfl (Nat.le_refl _) (by omega) (by omega)) rfl fun b7 => ?_
  refine OpsW.det (det_assign rfl) rfl ?_
  refine sNext ?_
  refine W.keep (F' := [(3, _), (0, _)]) ⟨rfl, rfl, trivial⟩ ?_
  refine sSeq ?_
  refine sSeq ?_
  refine W.region ?_
  refine OpsW.det (det_move rfl) rfl ?_
  refine OpsW.det (det_len u22 rfl) rfl ?_
  refine OpsW.det (det_move rfl) rfl ?_
  refine sNext ?_
  refine W.keep (F' := [(10, _), (9, _), (3, _), (0, _)]) ⟨rfl, rfl, rfl, rfl, trivial⟩ ?_
  refine sBlock ?_
  refine sLoop (σ := Nat) (fun i => [(10, .int .i64 (i : Nat)), (9, .int .i64 (l.length : Nat)), (3, .slice (some ⟨b7, 0, none⟩) l.length l.length), (0, .slice ad l.length cap)]) (fun i => [(b7, blk (cst l i) 5)]) (fun i => i ≤ l.length) (fun i => l.length - i) 0 (Nat.zero_le _) ⟨rfl, rfl, rfl, rfl, trivial⟩ (blk_congr (cst_0 l).symm) ?_
  intro i hi
  refine sSeq ?_
  refine W.region ?_
  refine OpsW.det (det_lss rfl rfl) rfl ?_
  refine sNext ?_
  refine sSeq ?_
  refine W.cond rfl (fun hc11 => ?_) (fun hc11 => ?_)
  · skip
    have hlt : i < l.length := by have h := hc11; simp only [decide_eq_true_eq] at h; omega
    obtain ⟨bk, o, cap', cs, e, fr, hv, hm, hcell⟩ := hB.at_ i hlt
    simp only [Value.slice.injEq] at hv
    obtain ⟨rfl, _, rfl⟩ := hv
    refine sSkip ?_
    refine sSeq ?_
    refine sBlock ?_
    refine sSeq ?_
    refine W.region ?_
    refine OpsW.det (det_move rfl) rfl ?_
    refine OpsW.det (det_assign rfl) rfl ?_
    refine sNext ?_
    refine W.keep (F' := [(4, _), (10, _), (9, _), (3, _), (0, _)]) ⟨rfl, rfl, rfl, rfl, rfl, trivial⟩ ?_
    refine W.region ?_
    refine OpsW.det (det_move rfl) rfl ?_
    refine OpsW.det (det_move rfl) rfl ?_
    refine OpsW.det (det_move rfl) rfl ?_
    refine OpsW.det (det_move rfl) rfl ?_
    refine OpsW.det (det_indexAddr_sl u22 sz5 rfl rfl ⟨by omega, by omega⟩) rfl ?_
    refine OpsW.det (det_loadC_ro ty5 rfl (List.mem_append_left _ hm) (show cs[o + ((i : Nat) : Int).toNat * 1]? = some (u8 l[i]) by simpa using hcell)) rfl ?_
    refine OpsW.det (det_indexAddr_sl u22 sz5 rfl rfl ⟨by omega, by omega⟩) rfl ?_
    refine OpsW.store sz5 rfl rfl rfl rfl rfl (Upd.here) (cst_at hlt (by omega)) ?_
    refine sLast ?_
    refine bNext ?_
    refine W.keep (F' := [(10, _), (9, _), (3, _), (0, _)]) ⟨rfl, rfl, rfl, rfl, trivial⟩ ?_
    refine W.region ?_
    refine OpsW.det (det_addN (b := 1) rfl rfl (by omega)) rfl ?_
    refine OpsW.det (det_move rfl) rfl ?_
    refine sLast ?_
    exact rEnd (i + 1) hlt ⟨rfl, rfl, rfl, rfl, trivial⟩ (List.Sublist.refl _) (step_lt hlt)
  · skip
    have hi4 : i = l.length := by have h := hc11; simp only [decide_eq_false_iff_not] at h; omega
    subst hi4
    refine sExit ?_
    refine xLoop ?_
    refine xHere ?_
    refine W.keep (F' := [(3, _)]) ⟨rfl, trivial⟩ ?_
    refine sSeq ?_
    refine W.region ?_
    refine OpsW.det (det_move rfl) rfl ?_
    refine OpsW.det (det_assign rfl) rfl ?_
    refine sNext ?_
    refine W.keep (F' := [(2, _)]) ⟨rfl, trivial⟩ ?_
    refine sRet ?_
    exact done1 Tryd.results11 (rv_tmp rfl) ⟨(b7, 0, []), trivial, rfl, blk_congr (cst_all l).symm⟩

end Go.Cu

/- Slices of slices of bytes. -/
namespace Go.Cu
open Go Go.Vm
/-- A slice of slices of bytes, and where its blocks are. -/
structure Bss (G' : Hp) (v : Value) (ls : List (List Nat)) : Prop where
  shape : ∃ ad cap, v = .slice ad ls.length cap
  at_ : ∀ i (h : i < ls.length), ∃ (b o cap : Nat) (cs : List Value) (e : TypeId) (fr : Nat × Nat) (u : Value), v = .slice (some ⟨b, o, none⟩) ls.length cap ∧ (b, Obj.cells cs.toArray e fr) ∈ G' ∧ cs[o + i]? = some u ∧ Bs G' u ls[i]
end Go.Cu

/- Scalars of bytes, and bits of bytes: the walks. Conditions: as many bytes as memory has. -/
namespace Go.Cu
open Go Go.Vm Go.RowKit Go.Proofs 
attribute [local irreducible] W OpsW Det Fresh New Writes Vm.Pure Makes Changes ExternTo BuildTo ZeroTo FieldTo IndexTo BinTo SliceTo Vm.Enters
set_option linter.unusedVariables false
set_option linter.unusedSimpArgs false
variable {T : Nat → TypeId × Nat × Nat}

def longB (a b c : Nat) : Bool := decide (100 < a) || decide (100 < b) || decide (100 < c)
/-- Bit i of the number that bytes are, the highest byte first. -/
def bitB (l : List Nat) (i : Nat) : Nat := if 8 * l.length ≤ i then 0 else l.getD (l.length - 1 - i / 8) 0 / 2 ^ (i % 8) % 2
theorem bitB_no {l : List Nat} {i : Nat} (h : 8 * l.length ≤ i) : bitB l i = 0 := if_pos h
theorem bitB_yes {l : List Nat} {i : Nat} (h : ¬ 8 * l.length ≤ i) (h2 : l.length - 1 - i / 8 < l.length) : bitB l i = l[l.length - 1 - i / 8] / 2 ^ (i % 8) % 2 := by
  unfold bitB
  rw [if_neg h, List.getD_eq_getElem?_getD, List.getElem?_eq_getElem h2]; rfl
theorem tyc22 : TyC Tryd.prog 22 := ⟨by kernel_rfl, by kernel_rfl⟩
section
variable {P : Program} {K : List Nat} {G : Hp} {w0 : World} {F : Fr} {H : Hp} {ty : TypeId} {pos : String} {after : Array Edge} {x y : Operand} {xt yt : TypeId} {d : Option Tmp} {g : Option (Nat × Bool)}
theorem det_shr8 {a b : Nat} {k : IntKind} (hx : ev F x = some (.int .u8 a)) (hy : ev F y = some (.int k b)) (hb : b ≤ 8) : Det P K G w0 ⟨d, .binOp .shr xt x y yt, ty, pos, after, g⟩ F H (.int .u8 ((a / 2 ^ b : Nat) : Int)) :=
  (det_shr hx hy (by omega)).to (by
    rw [show min (b : Int).toNat IntKind.u8.bits = b from by show min (b : Int).toNat 8 = b; omega]
    congr 1
    rw [Int.fdiv_eq_ediv_of_nonneg _ (by exact Int.natCast_nonneg (2 ^ b)), Int.natCast_ediv]; rfl)
theorem and8 {a : Nat} (ha : a < 256) : bitsOf .and .u8 a 1 = ((a % 2 : Nat) : Int) := by
  have h1 : (BitVec.ofInt IntKind.u8.bits (a : Int)).toNat = a := by
    show (BitVec.ofInt 8 (a : Int)).toNat = a
    rw [BitVec.toNat_ofInt]; omega
  unfold bitsOf
  simp only [BitVec.toNat_and, h1]
  rw [show (BitVec.ofInt IntKind.u8.bits (1 : Int)).toNat = 2 ^ 1 - 1 by rfl, Nat.and_two_pow_sub_one_eq_mod, wrap_u8]
  omega
theorem det_and8 {a : Nat} (hx : ev F x = some (.int .u8 a)) (hy : ev F y = some (.int .u8 1)) (ha : a < 256) : Det P K G w0 ⟨d, .binOp .and xt x y yt, ty, pos, after, g⟩ F H (.int .u8 ((a % 2 : Nat) : Int)) :=
  (det_and hx hy).to (by rw [and8 ha])
end

theorem u3 : Tryd.prog.underlying 3 = some (.int .i64) := by kernel_rfl
theorem bit_ok {G' : Hp} {v : Value} {l : List Nat} {i bv : Nat} (hB : Bs G' v l) (hl : l.length ≤ 1000000000000) (hi : i ≤ 10000000000000) {w : World} (hG : Blocks ((bv, blk [v] 22) :: (G' ++ GH T)) w)  : Vm.Pure Tryd.prog 80 #[.int .i64 (i : Nat), .pointer (some ⟨bv, 0, none⟩)] w (.int .i64 (bitB l i : Nat)) := by
  obtain ⟨ad, cap, hvv⟩ := hB.shape
  refine pure_of_W (n := 23) (args := [.int .i64 (i : Nat), .pointer (some ⟨bv, 0, none⟩)]) Tryd.func80 rfl Tryd.ntmps80 (Nat.le_of_ble_eq_true rfl) hG ?_
  refine sStart ?_
  refine sSeq ?_
  subst hvv
  refine W.region ?_
  refine OpsW.det (det_assign rfl) rfl ?_
  refine sNext ?_
  refine W.keep (F' := [(0, _), (1, _)]) ⟨rfl, rfl, trivial⟩ ?_
  refine sSeq ?_
  refine sSeq ?_
  refine W.region ?_
  refine OpsW.det (det_move rfl) rfl ?_
  refine OpsW.det (det_loadC_ro tyc22 rfl (List.Mem.head _) rfl) rfl ?_
  refine OpsW.det (det_len u22 rfl) rfl ?_
  refine OpsW.det ((det_mul rfl rfl).to (v := .int .i64 ((8 * l.length : Nat) : Int)) (by rw [wrap_i64 (by omega)]; congr 1)) rfl ?_
  refine OpsW.det (det_geq rfl rfl) rfl ?_
  refine sNext ?_
  refine W.keep (F' := [(8, _), (0, _), (1, _)]) ⟨rfl, rfl, rfl, trivial⟩ ?_
  refine W.cond rfl (fun hc8 => ?_) (fun hc8 => ?_)
  · skip
    have hge : 8 * l.length ≤ i := by have h := hc8; simp only [decide_eq_true_eq] at h; omega
    refine sSeq ?_
    refine W.region ?_
    refine OpsW.det (det_assign rfl) rfl ?_
    refine sNext ?_
    refine W.keep (F' := [(3, _)]) ⟨rfl, trivial⟩ ?_
    refine sRet ?_
    exact done1 Tryd.results80 (rv_tmp rfl) (by rw [bitB_no hge]; rfl)
  · skip
    have hge : ¬ 8 * l.length ≤ i := by have h := hc8; simp only [decide_eq_false_iff_not] at h; omega
    have hlt : l.length - 1 - i / 8 < l.length := by omega
    obtain ⟨bk, o, cap', cs, e, fr, hv, hm, hcell⟩ := hB.at_ _ hlt
    simp only [Value.slice.injEq] at hv
    obtain ⟨rfl, _, rfl⟩ := hv
    refine sSkip ?_
    refine sSeq ?_
    refine W.region ?_
    refine OpsW.det (det_loadC_ro tyc22 rfl (List.Mem.head _) rfl) rfl ?_
    refine OpsW.det (det_loadC_ro tyc22 rfl (List.Mem.head _) rfl) rfl ?_
    refine OpsW.det (det_len u22 rfl) rfl ?_
    refine OpsW.det (det_subZ (c := ((l.length - 1 : Nat) : Int)) rfl rfl (by omega) (by omega)) rfl ?_
    refine OpsW.det (det_move rfl) rfl ?_
    refine OpsW.det (det_quoN (b := 8) rfl rfl (by decide) (by omega)) rfl ?_
    refine OpsW.det (det_subZ (c := ((l.length - 1 - i / 8 : Nat) : Int)) rfl rfl (by omega) (by omega)) rfl ?_
    refine OpsW.det (det_indexAddr_sl u22 sz5 rfl rfl ⟨by omega, by omega⟩) rfl ?_
    refine OpsW.det (det_loadC_ro ty5 rfl (List.Mem.tail _ (List.mem_append_left _ hm)) (show cs[o + ((l.length - 1 - i / 8 : Nat) : Int).toNat * 1]? = some (u8 l[l.length - 1 - i / 8]) by simpa using hcell)) rfl ?_
    refine OpsW.det (det_move rfl) rfl ?_
    refine OpsW.det (det_remN (b := 8) rfl rfl (by decide)) rfl ?_
    refine OpsW.det (det_shr8 rfl rfl (by omega)) rfl ?_
    refine OpsW.det (det_and8 rfl rfl (Nat.lt_of_le_of_lt (Nat.div_le_self _ _) (hB.small _ (List.getElem_mem hlt)))) rfl ?_
    refine OpsW.det ((det_conv u5 u3 rfl).to (v := .int .i64 ((l[l.length - 1 - i / 8] / 2 ^ (i % 8) % 2 : Nat) : Int)) (by rw [wrap_i64 (by omega)])) rfl ?_
    refine OpsW.det (det_assign rfl) rfl ?_
    refine sNext ?_
    refine W.keep (F' := [(3, _)]) ⟨rfl, trivial⟩ ?_
    refine sRet ?_
    exact done1 Tryd.results80 (rv_tmp rfl) (by rw [bitB_yes hge hlt])

end Go.Cu

/- The first group: so many times: the walk. Conditions: as many bytes as memory has. -/
namespace Go.Cu
open Go Go.Vm Go.RowKit Go.Proofs 
attribute [local irreducible] W OpsW Det Fresh New Writes Vm.Pure Makes Changes ExternTo BuildTo ZeroTo FieldTo IndexTo BinTo SliceTo Vm.Enters
set_option linter.unusedVariables false
set_option linter.unusedSimpArgs false
variable {T : Nat → TypeId × Nat × Nat}

/-- What is carried to digit i. -/
def ov (l : List Nat) : Nat → Nat
  | 0 => 0
  | i + 1 => if bitB l i + ov l i = 1 ∧ bitB l (i + 1) = 1 then 1 else (bitB l i + ov l i) / 2
/-- Digit i: 1, 0 or -1. -/
def dg (l : List Nat) (i : Nat) : Int := if bitB l i + ov l i = 1 then (if bitB l (i + 1) = 1 then -1 else 1) else 0
theorem bitB_le (l : List Nat) (i : Nat) : bitB l i ≤ 1 := by unfold bitB; split <;> omega
theorem ov_le (l : List Nat) : ∀ i, ov l i ≤ 1
  | 0 => by simp [ov]
  | i + 1 => by
    have := ov_le l i
    have := bitB_le l i
    unfold ov
    split <;> omega
def stp (p : Pt) (d : Int) (j : Jac) : Jac := if d = 1 then jadd j p else if d = -1 then jadd j (pneg p) else j
/-- The ladder, m digits down from the highest. -/
def jl (l : List Nat) (p : Pt) : Nat → Jac
  | 0 => (0, 0, 0)
  | m + 1 => stp p (dg l (8 * l.length - m)) (jdbl (jl l p m))
def times (l : List Nat) (p : Pt) : Pt := point (jl l p (8 * l.length + 1))
theorem jl_step {l : List Nat} {p : Pt} {k : Nat} (h : k + 1 ≤ 8 * l.length + 1) : jl l p (8 * l.length + 1 - k) = stp p (dg l k) (jdbl (jl l p (8 * l.length + 1 - (k + 1)))) := by
  obtain ⟨m, hm⟩ : ∃ m, 8 * l.length + 1 - (k + 1) = m := ⟨_, rfl⟩
  rw [show 8 * l.length + 1 - k = m + 1 by omega, hm, jl, show 8 * l.length - m = k by omega]
theorem jl_one {l : List Nat} {p : Pt} {k : Nat} (h : k + 1 ≤ 8 * l.length + 1) (hd : (dg l k == 1) = true) : jl l p (8 * l.length + 1 - k) = jadd (jdbl (jl l p (8 * l.length + 1 - (k + 1)))) p := by
  rw [jl_step h, stp, if_pos (by simpa using hd)]
theorem jl_neg {l : List Nat} {p : Pt} {k : Nat} (h : k + 1 ≤ 8 * l.length + 1) (h1 : (dg l k == 1) = false) (hd : (dg l k == -1) = true) : jl l p (8 * l.length + 1 - k) = jadd (jdbl (jl l p (8 * l.length + 1 - (k + 1)))) (pneg p) := by
  rw [jl_step h, stp, if_neg (by simpa using h1), if_pos (by simpa using hd)]
theorem jl_nil {l : List Nat} {p : Pt} {k : Nat} (h : k + 1 ≤ 8 * l.length + 1) (h1 : (dg l k == 1) = false) (hd : (dg l k == -1) = false) : jl l p (8 * l.length + 1 - k) = jdbl (jl l p (8 * l.length + 1 - (k + 1))) := by
  rw [jl_step h, stp, if_neg (by simpa using h1), if_neg (by simpa using hd)]
def digs (l : List Nat) (i : Nat) : List Value := (List.range i).map fun j => Value.int .i64 (dg l j)
theorem digs_succ (l : List Nat) (i : Nat) : digs l (i + 1) = digs l i ++ [.int .i64 (dg l i)] := by simp [digs, List.range_succ]
theorem digs_at {l : List Nat} {i n k : Nat} {r : List Value} (h : i < n) (hk : k = i) : (digs l n ++ r)[k]? = some (.int .i64 (dg l i)) := by
  subst hk
  rw [List.getElem?_append_left (by simp [digs]; exact h)]
  simp [digs, h]
theorem ty76 : TyS Tryd.prog 76 3 1 8 [.int .i64 0] := ⟨by kernel_rfl, by kernel_rfl, by kernel_rfl, ⟨.int .i64 0, by kernel_rfl, by kernel_rfl⟩, rfl, by decide⟩
theorem slice76 {v : Int} : SliceTo Tryd.prog 76 1 [(0, .int .i64 v)] [.int .i64 v] 3 := SliceTo.of fun _ => by kernel_rfl
theorem dig_n {l : List Nat} {i : Nat} (h : (((bitB l i + ov l i : Nat) : Int) == 1) = false) : Value.int .i64 (IntKind.i64.wrap (bitsOf .and .i64 ((bitB l i + ov l i : Nat) : Int) 1 * ((bitB l i + ov l i : Nat) : Int))) = .int .i64 (dg l i) := by
  have h1 : bitB l i + ov l i ≠ 1 := by have h := h; simp at h; omega
  have h2 := bitB_le l i
  have h3 := ov_le l i
  unfold dg
  rw [if_neg h1]
  have : bitB l i + ov l i = 0 ∨ bitB l i + ov l i = 2 := by omega
  rcases this with e | e <;> rw [e] <;> rfl
theorem dig_1 {l : List Nat} {i : Nat} (h : (((bitB l i + ov l i : Nat) : Int) == 1) = true) (hb : (((bitB l (i + 1) : Nat) : Int) == 1) = false) : Value.int .i64 (IntKind.i64.wrap (bitsOf .and .i64 ((bitB l i + ov l i : Nat) : Int) 1 * ((bitB l i + ov l i : Nat) : Int))) = .int .i64 (dg l i) := by
  have h1 : bitB l i + ov l i = 1 := by have h := h; simp at h; omega
  have h2 : bitB l (i + 1) ≠ 1 := by have h := hb; simp at h; omega
  unfold dg
  rw [if_pos h1, if_neg h2, h1]; rfl
theorem dig_m {l : List Nat} {i : Nat} (h : (((bitB l i + ov l i : Nat) : Int) == 1) = true) (hb : (((bitB l (i + 1) : Nat) : Int) == 1) = true) : Value.int .i64 (IntKind.i64.wrap (bitsOf .and .i64 (-1) 1 * (-1))) = .int .i64 (dg l i) := by
  have h1 : bitB l i + ov l i = 1 := by have h := h; simp at h; omega
  have h2 : bitB l (i + 1) = 1 := by have h := hb; simp at h; omega
  unfold dg
  rw [if_pos h1, if_pos h2]; rfl
theorem ov_n {l : List Nat} {i : Nat} (h : (((bitB l i + ov l i : Nat) : Int) == 1) = false) : (bitB l i + ov l i) / 2 = ov l (i + 1) := by
  have h1 : bitB l i + ov l i ≠ 1 := by have h := h; simp at h; omega
  rw [ov, if_neg (by omega)]
theorem ov_1 {l : List Nat} {i : Nat} (hb : (((bitB l (i + 1) : Nat) : Int) == 1) = false) : (bitB l i + ov l i) / 2 = ov l (i + 1) := by
  have h2 : bitB l (i + 1) ≠ 1 := by have h := hb; simp at h; omega
  rw [ov, if_neg (by omega)]
theorem ov_m {l : List Nat} {i : Nat} (h : (((bitB l i + ov l i : Nat) : Int) == 1) = true) (hb : (((bitB l (i + 1) : Nat) : Int) == 1) = true) : 1 = ov l (i + 1) := by
  have h1 : bitB l i + ov l i = 1 := by have h := h; simp at h; omega
  have h2 : bitB l (i + 1) = 1 := by have h := hb; simp at h; omega
  rw [ov, if_pos ⟨h1, h2⟩]
section
variable {P : Program} {K : List Nat} {G : Hp} {w0 : World} {F : Fr} {H : Hp} {ty : TypeId} {pos : String} {after : Array Edge} {x y : Operand} {xt yt : TypeId} {d : Option Tmp} {g : Option (Nat × Bool)}
theorem det_half {a : Nat} (hx : ev F x = some (.int .i64 a)) (hy : ev F y = some (.int .u64 1)) : Det P K G w0 ⟨d, .binOp .shr xt x y yt, ty, pos, after, g⟩ F H (.int .i64 ((a / 2 : Nat) : Int)) :=
  (det_shr hx hy (by decide)).to (by
    show Value.int .i64 (Int.fdiv a (2 ^ 1)) = _
    rw [Int.fdiv_eq_ediv_of_nonneg _ (by decide)]; rfl)
end
def cellsJ (j : Jac) : List Value := cellsF j.1 ++ cellsF j.2.1 ++ cellsF j.2.2
def cellsP (p : Pt) : List Value := cellsF p.1 ++ cellsF p.2
theorem z107r : TyZ Tryd.prog 107 (encJ (0, 0, 0)) (cellsJ (0, 0, 0)) := ⟨fun _ => by kernel_rfl, rfl⟩
theorem z31r : TyZ Tryd.prog 31 (encP (0, 0)) (cellsP (0, 0)) := ⟨fun _ => by kernel_rfl, rfl⟩

theorem en45 : Vm.Enters Tryd.prog 45 := Vm.Enters.of fun _ _ => by kernel_rfl
theorem en82 : Vm.Enters Tryd.prog 82 := Vm.Enters.of fun _ _ => by kernel_rfl
theorem en83 : Vm.Enters Tryd.prog 83 := Vm.Enters.of fun _ _ => by kernel_rfl
theorem en80 : Vm.Enters Tryd.prog 80 := Vm.Enters.of fun _ _ => by kernel_rfl
theorem sz3 : sizeIn Tryd.prog 3 = some 1 := by kernel_rfl
theorem ty3 : TyC Tryd.prog 3 := ⟨by kernel_rfl, by kernel_rfl⟩
theorem u76 : Tryd.prog.underlying 76 = some (.slice 3) := by kernel_rfl
set_option maxHeartbeats 1000000 in
theorem Times_ok {G' : Hp} {v : Value} {l : List Nat} {p : Pt} (hB : Bs G' v l) (hl : l.length ≤ 1000000000000) {w : World} (hG : Blocks (G' ++ GH T) w)  : Vm.Pure Tryd.prog 59 #[encP p, v] w (encP (times l p)) := by
  obtain ⟨ad, cap, hvv⟩ := hB.shape
  refine pure_of_W (n := 77) (args := [encP p, v]) Tryd.func59 rfl Tryd.ntmps59 (Nat.le_of_ble_eq_true rfl) hG ?_
  refine sStart ?_
  refine sSeq ?_
  subst hvv
  refine W.region ?_
  refine OpsW.fresh (fr_box rfl rfl) rfl fun b2 => ?_
  refine OpsW.fresh (fr_box rfl rfl) rfl fun b3 => ?_
  refine OpsW.fresh (fr_alloc z31r) rfl fun b4 => ?_
  refine sNext ?_
  refine W.keep (F' := [(4, _), (3, _), (2, _)]) ⟨rfl, rfl, rfl, trivial⟩ ?_
  refine sSeq ?_
  refine W.region ?_
  refine OpsW.det (det_loadC tyc22 rfl (List.Mem.tail _ (List.Mem.head _)) rfl) rfl ?_
  refine OpsW.det (det_len u22 rfl) rfl ?_
  refine OpsW.det ((det_mul rfl rfl).to (v := .int .i64 ((8 * l.length : Nat) : Int)) (by rw [wrap_i64 (by omega)]; congr 1)) rfl ?_
  refine OpsW.det (det_addN (b := 1) rfl rfl (by omega)) rfl ?_
  refine OpsW.fresh (fr_makeSlice (l := 0) ty76 rfl rfl (Nat.zero_le _) (by omega) (by omega)) rfl fun b17 => ?_
  refine OpsW.det (det_assign rfl) rfl ?_
  refine sNext ?_
  refine W.keep (F' := [(5, _), (4, _), (3, _), (2, _)]) ⟨rfl, rfl, rfl, rfl, trivial⟩ ?_
  refine sSeq ?_
  refine W.region ?_
  refine OpsW.det (det_func1 rfl) rfl ?_
  refine OpsW.det (det_assign rfl) rfl ?_
  refine sNext ?_
  refine W.keep (F' := [(6, _), (5, _), (4, _), (3, _), (2, _)]) ⟨rfl, rfl, rfl, rfl, rfl, trivial⟩ ?_
  refine sSeq ?_
  refine W.region ?_
  refine OpsW.det (det_assign rfl) rfl ?_
  refine sNext ?_
  refine sSeq ?_
  refine sSeq ?_
  refine W.region ?_
  refine OpsW.det (det_loadC tyc22 rfl (List.Mem.tail _ (List.Mem.tail _ (List.Mem.head _))) rfl) rfl ?_
  refine OpsW.det (det_len u22 rfl) rfl ?_
  refine OpsW.det ((det_mul rfl rfl).to (v := .int .i64 ((8 * l.length : Nat) : Int)) (by rw [wrap_i64 (by omega)]; congr 1)) rfl ?_
  refine OpsW.det (det_addN (b := 1) rfl rfl (by omega)) rfl ?_
  refine OpsW.det (det_move rfl) rfl ?_
  refine sNext ?_
  refine W.keep (F' := [(23, _), (22, _), (7, _), (6, _), (5, _), (4, _), (2, _)]) ⟨rfl, rfl, rfl, rfl, rfl, rfl, rfl, trivial⟩ ?_
  refine sBlock ?_
  refine sLoop (σ := Nat × Value × Hp) (fun s => [(23, .int .i64 (s.1 : Nat)), (22, .int .i64 ((8 * l.length + 1 : Nat) : Int)), (7, .int .i64 (ov l s.1 : Nat)), (6, .func (.func 80) #[] #[.pointer (some ⟨b3, 0, none⟩)]), (5, s.2.1), (4, .pointer (some ⟨b4, 0, none⟩)), (2, .pointer (some ⟨b2, 0, none⟩))]) (fun s => s.2.2 ++ [(b4, blk (cellsP (0, 0)) 31), (b3, blk [.slice ad l.length cap] 22), (b2, blk (cellsP p) 31)]) (fun s => s.1 ≤ 8 * l.length + 1 ∧ IsSl 3 1 s.2.1 s.1 s.2.2 (digs l s.1)) (fun s => 8 * l.length + 1 - s.1) (0, .slice (some ⟨b17, 0, none⟩) 0 (8 * l.length + 1), [(b17, blk ([] ++ zrep [.int .i64 0] (8 * l.length + 1)) 3)]) ⟨Nat.zero_le _, .at_ rfl (by simp [zrep_length]) (by show 8 * l.length + 1 ≤ 9223372036854775807; omega)⟩ ⟨rfl, rfl, rfl, rfl, rfl, rfl, rfl, trivial⟩ (List.Sublist.refl _) ?_
  rintro ⟨i, vd, hp⟩ ⟨hi, hsl⟩
  change IsSl 3 1 vd i hp (digs l i) at hsl
  change i ≤ 8 * l.length + 1 at hi
  refine W.norm (F' := [(23, .int .i64 (i : Nat)), (22, .int .i64 ((8 * l.length + 1 : Nat) : Int)), (7, .int .i64 (ov l i : Nat)), (6, .func (.func 80) #[] #[.pointer (some ⟨b3, 0, none⟩)]), (5, vd), (4, .pointer (some ⟨b4, 0, none⟩)), (2, .pointer (some ⟨b2, 0, none⟩))]) (H' := hp ++ [(b4, blk (cellsP (0, 0)) 31), (b3, blk [.slice ad l.length cap] 22), (b2, blk (cellsP p) 31)]) rfl rfl ?_
  refine sSeq ?_
  refine W.region ?_
  refine OpsW.det (det_lss rfl rfl) rfl ?_
  refine sNext ?_
  refine sSeq ?_
  refine W.cond rfl (fun hc24 => ?_) (fun hc24 => ?_)
  · skip
    have hlt : i < 8 * l.length + 1 := by have h := hc24; simp only [decide_eq_true_eq] at h; omega
    refine sSkip ?_
    refine sSeq ?_
    refine sBlock ?_
    refine sSeq ?_
    refine W.region ?_
    refine OpsW.det (det_move rfl) rfl ?_
    refine OpsW.det (det_assign rfl) rfl ?_
    refine sNext ?_
    refine W.keep (F' := [(8, _), (23, _), (22, _), (7, _), (6, _), (5, _), (4, _), (2, _)]) ⟨rfl, rfl, rfl, rfl, rfl, rfl, rfl, rfl, trivial⟩ ?_
    refine sSeq ?_
    refine W.region ?_
    refine OpsW.det (det_move rfl) rfl ?_
    refine OpsW.det (det_move rfl) rfl ?_
    refine OpsW.det (det_callv en80 (caps := [.pointer (some ⟨b3, 0, none⟩)]) rfl rfl (fun w hb ho => bit_ok (G' := G') (bv := b3) (i := i) hB hl (by omega) (blocks_cons (hb _ (List.mem_append_right _ (List.Mem.tail _ (List.Mem.head _)))) ho.blocks))) rfl ?_
    refine OpsW.det (det_move rfl) rfl ?_
    refine OpsW.det (det_addN rfl rfl (by have := bitB_le l i; have := ov_le l i; omega)) rfl ?_
    refine OpsW.det (det_assign rfl) rfl ?_
    refine sNext ?_
    refine W.keep (F' := [(9, _), (8, _), (23, _), (22, _), (6, _), (5, _), (4, _), (2, _)]) ⟨rfl, rfl, rfl, rfl, rfl, rfl, rfl, rfl, trivial⟩ ?_
    refine sSeq ?_
    refine W.region ?_
    refine OpsW.det (det_move rfl) rfl ?_
    refine OpsW.det (det_half rfl rfl) rfl ?_
    refine OpsW.det (det_assign rfl) rfl ?_
    refine sNext ?_
    refine W.keep (F' := [(7, _), (9, _), (8, _), (23, _), (22, _), (6, _), (5, _), (4, _), (2, _)]) ⟨rfl, rfl, rfl, rfl, rfl, rfl, rfl, rfl, rfl, trivial⟩ ?_
    refine sSeq ?_
    refine sSeq ?_
    refine W.region ?_
    refine OpsW.det (det_move rfl) rfl ?_
    refine OpsW.test (det_eql rfl rfl) rfl (fun hc34 => ?_) (fun hc34 => ?_)
    · skip
      refine OpsW.det (det_move rfl) rfl ?_
      refine OpsW.guard_yes rfl rfl ?_
      refine OpsW.det (det_move rfl) rfl ?_
      refine OpsW.guard_yes rfl rfl ?_
      refine OpsW.det (det_move rfl) rfl ?_
      refine OpsW.guard_yes rfl rfl ?_
      refine OpsW.det (det_addN (b := 1) rfl rfl (by omega)) rfl ?_
      refine OpsW.guard_yes rfl rfl ?_
      refine OpsW.det (det_callv en80 (caps := [.pointer (some ⟨b3, 0, none⟩)]) rfl rfl (fun w hb ho => bit_ok (G' := G') (bv := b3) (i := (i + 1)) hB hl (by omega) (blocks_cons (hb _ (List.mem_append_right _ (List.Mem.tail _ (List.Mem.head _)))) ho.blocks))) rfl ?_
      refine OpsW.guard_yes rfl rfl ?_
      refine OpsW.det (det_eql rfl rfl) rfl ?_
      refine OpsW.det (det_pick rfl rfl) rfl ?_
      refine sNext ?_
      refine W.keep (F' := [(41, _), (7, _), (9, _), (23, _), (22, _), (6, _), (5, _), (4, _), (2, _)]) ⟨rfl, rfl, rfl, rfl, rfl, rfl, rfl, rfl, rfl, trivial⟩ ?_
      refine W.cond rfl (fun hc41 => ?_) (fun hc41 => ?_)
      · skip
        refine W.region ?_
        refine OpsW.det (det_assign rfl) rfl ?_
        refine OpsW.det (det_assign rfl) rfl ?_
        refine sNext ?_
        refine W.keep (F' := [(7, _), (9, _), (23, _), (22, _), (6, _), (5, _), (4, _), (2, _)]) ⟨rfl, rfl, rfl, rfl, rfl, rfl, rfl, rfl, trivial⟩ ?_
        refine W.region ?_
        refine OpsW.det (det_move rfl) rfl ?_
        refine OpsW.det (det_move rfl) rfl ?_
        refine OpsW.det (det_and rfl rfl) rfl ?_
        refine OpsW.det (det_move rfl) rfl ?_
        refine OpsW.det ((det_mul rfl rfl).to (v := .int .i64 (dg l i)) (dig_m hc34 hc41)) rfl ?_
        refine OpsW.fresh (fr_buildSlice rfl slice76) rfl fun b47 => ?_
        refine OpsW.perm (H' := hp ++ ((b47, blk [.int .i64 (dg l i)] 3) :: [(b4, blk (cellsP (0, 0)) 31), (b3, blk [.slice ad l.length cap] 22), (b2, blk (cellsP p) 31)])) List.perm_middle ?_
        refine OpsW.append (dd := 48) ty76 rfl hsl rfl (.inl (List.mem_append_right _ (List.Mem.head _))) rfl (fun j u h => by simpa using h) rfl (by show i + 1 ≤ 9223372036854775807; omega) (by show (i + 1) * 8 ≤ 140737488355328; omega) rfl fun v' hp' hsl' => ?_
        refine OpsW.det (det_assign rfl) rfl ?_
        refine sLast ?_
        refine bNext ?_
        refine W.keep (F' := [(5, _), (7, _), (23, _), (22, _), (6, _), (4, _), (2, _)]) ⟨rfl, rfl, rfl, rfl, rfl, rfl, rfl, trivial⟩ ?_
        refine W.region ?_
        refine OpsW.det (det_addN (b := 1) rfl rfl (by omega)) rfl ?_
        refine OpsW.det (det_move rfl) rfl ?_
        refine sLast ?_
        have ho := ov_m hc34 hc41
        exact rEnd (i + 1, v', hp') ⟨hlt, by rw [digs_succ]; exact hsl'⟩ ⟨rfl, rfl, by rw [← ho]; rfl, rfl, rfl, rfl, rfl, trivial⟩ (List.Sublist.append_left (List.Sublist.cons _ (List.Sublist.refl _)) _) (step_lt hlt)
      · skip
        refine sSkip ?_
        refine W.region ?_
        refine OpsW.det (det_move rfl) rfl ?_
        refine OpsW.det (det_move rfl) rfl ?_
        refine OpsW.det (det_and rfl rfl) rfl ?_
        refine OpsW.det (det_move rfl) rfl ?_
        refine OpsW.det ((det_mul rfl rfl).to (v := .int .i64 (dg l i)) (dig_1 hc34 hc41)) rfl ?_
        refine OpsW.fresh (fr_buildSlice rfl slice76) rfl fun b47 => ?_
        refine OpsW.perm (H' := hp ++ ((b47, blk [.int .i64 (dg l i)] 3) :: [(b4, blk (cellsP (0, 0)) 31), (b3, blk [.slice ad l.length cap] 22), (b2, blk (cellsP p) 31)])) List.perm_middle ?_
        refine OpsW.append (dd := 48) ty76 rfl hsl rfl (.inl (List.mem_append_right _ (List.Mem.head _))) rfl (fun j u h => by simpa using h) rfl (by show i + 1 ≤ 9223372036854775807; omega) (by show (i + 1) * 8 ≤ 140737488355328; omega) rfl fun v' hp' hsl' => ?_
        refine OpsW.det (det_assign rfl) rfl ?_
        refine sLast ?_
        refine bNext ?_
        refine W.keep (F' := [(5, _), (7, _), (23, _), (22, _), (6, _), (4, _), (2, _)]) ⟨rfl, rfl, rfl, rfl, rfl, rfl, rfl, trivial⟩ ?_
        refine W.region ?_
        refine OpsW.det (det_addN (b := 1) rfl rfl (by omega)) rfl ?_
        refine OpsW.det (det_move rfl) rfl ?_
        refine sLast ?_
        have ho := ov_1 hc41
        exact rEnd (i + 1, v', hp') ⟨hlt, by rw [digs_succ]; exact hsl'⟩ ⟨rfl, rfl, by rw [← ho]; rfl, rfl, rfl, rfl, rfl, trivial⟩ (List.Sublist.append_left (List.Sublist.cons _ (List.Sublist.refl _)) _) (step_lt hlt)
    · skip
      refine OpsW.det (det_move rfl) rfl ?_
      refine OpsW.guard_no rfl rfl rfl ?_
      refine OpsW.guard_no rfl rfl rfl ?_
      refine OpsW.guard_no rfl rfl rfl ?_
      refine OpsW.guard_no rfl rfl rfl ?_
      refine OpsW.guard_no rfl rfl rfl ?_
      refine OpsW.det (det_pick rfl rfl) rfl ?_
      refine sNext ?_
      refine W.keep (F' := [(41, _), (7, _), (9, _), (23, _), (22, _), (6, _), (5, _), (4, _), (2, _)]) ⟨rfl, rfl, rfl, rfl, rfl, rfl, rfl, rfl, rfl, trivial⟩ ?_
      refine W.cond_false rfl ?_
      refine sSkip ?_
      refine W.region ?_
      refine OpsW.det (det_move rfl) rfl ?_
      refine OpsW.det (det_move rfl) rfl ?_
      refine OpsW.det (det_and rfl rfl) rfl ?_
      refine OpsW.det (det_move rfl) rfl ?_
      refine OpsW.det ((det_mul rfl rfl).to (v := .int .i64 (dg l i)) (dig_n hc34)) rfl ?_
      refine OpsW.fresh (fr_buildSlice rfl slice76) rfl fun b47 => ?_
      refine OpsW.perm (H' := hp ++ ((b47, blk [.int .i64 (dg l i)] 3) :: [(b4, blk (cellsP (0, 0)) 31), (b3, blk [.slice ad l.length cap] 22), (b2, blk (cellsP p) 31)])) List.perm_middle ?_
      refine OpsW.append (dd := 48) ty76 rfl hsl rfl (.inl (List.mem_append_right _ (List.Mem.head _))) rfl (fun j u h => by simpa using h) rfl (by show i + 1 ≤ 9223372036854775807; omega) (by show (i + 1) * 8 ≤ 140737488355328; omega) rfl fun v' hp' hsl' => ?_
      refine OpsW.det (det_assign rfl) rfl ?_
      refine sLast ?_
      refine bNext ?_
      refine W.keep (F' := [(5, _), (7, _), (23, _), (22, _), (6, _), (4, _), (2, _)]) ⟨rfl, rfl, rfl, rfl, rfl, rfl, rfl, trivial⟩ ?_
      refine W.region ?_
      refine OpsW.det (det_addN (b := 1) rfl rfl (by omega)) rfl ?_
      refine OpsW.det (det_move rfl) rfl ?_
      refine sLast ?_
      have ho := ov_n hc34
      exact rEnd (i + 1, v', hp') ⟨hlt, by rw [digs_succ]; exact hsl'⟩ ⟨rfl, rfl, by rw [← ho]; rfl, rfl, rfl, rfl, rfl, trivial⟩ (List.Sublist.append_left (List.Sublist.cons _ (List.Sublist.refl _)) _) (step_lt hlt)
  · skip
    have hiN : i = 8 * l.length + 1 := by have h := hc24; simp only [decide_eq_false_iff_not] at h; omega
    subst hiN
    obtain ⟨pd, rfl, rfl, hpp⟩ := isSl_at hsl (Nat.succ_pos _)
    refine W.norm (F' := _) (H' := [(_, _), (_, _), (_, _), (_, _)]) rfl rfl ?_
    refine sExit ?_
    refine xLoop ?_
    refine xHere ?_
    refine W.keep (F' := [(5, _), (4, _), (2, _)]) ⟨rfl, rfl, rfl, trivial⟩ ?_
    refine sSeq ?_
    refine W.region ?_
    refine OpsW.fresh (fr_alloc z107r) rfl fun b10 => ?_
    refine sNext ?_
    refine sSeq ?_
    refine W.region ?_
    refine OpsW.det (det_loadA ty31 rfl (List.Mem.tail _ (List.Mem.tail _ (List.Mem.tail _ (List.Mem.tail _ (List.Mem.head _))))) rfl) rfl ?_
    refine OpsW.det (det_call en45 rfl (fun w hb ho => PNeg_ok (fun p hp => ho.look (List.mem_append_right _ hp)))) rfl ?_
    refine OpsW.fresh (fr_alloc z31) rfl fun b11 => ?_
    refine OpsW.store sz31 rfl rfl rfl rfl rfl (Upd.here) rfl ?_
    refine sNext ?_
    refine W.keep (F' := [(11, _), (10, _), (5, _), (4, _), (2, _)]) ⟨rfl, rfl, rfl, rfl, rfl, trivial⟩ ?_
    refine sSeq ?_
    refine sSeq ?_
    refine W.region ?_
    refine OpsW.det (det_move rfl) rfl ?_
    refine OpsW.det (det_len u76 rfl) rfl ?_
    refine OpsW.det (det_subZ (c := ((8 * l.length + 1 : Nat) : Int) - 1) rfl rfl (by omega) (by omega)) rfl ?_
    refine OpsW.det (det_assign rfl) rfl ?_
    refine sNext ?_
    refine W.keep (F' := [(12, _), (11, _), (10, _), (5, _), (4, _), (2, _)]) ⟨rfl, rfl, rfl, rfl, rfl, rfl, trivial⟩ ?_
    refine sBlock ?_
    have hjl : jl l p (8 * l.length + 1 - (8 * l.length + 1)) = (0, 0, 0) := by rw [Nat.sub_self]; rfl
    refine sLoop (σ := Nat) (fun k => [(12, .int .i64 (((k : Nat) : Int) - 1)), (11, .pointer (some ⟨b11, 0, none⟩)), (10, .pointer (some ⟨b10, 0, none⟩)), (5, .slice (some ⟨pd.1, 0, none⟩) (8 * l.length + 1) pd.2.1), (4, .pointer (some ⟨b4, 0, none⟩)), (2, .pointer (some ⟨b2, 0, none⟩))]) (fun k => [(b11, blk (cellsP (pneg p)) 31), (b10, blk (cellsJ (jl l p (8 * l.length + 1 - k))) 107), (pd.1, blk (digs l (8 * l.length + 1) ++ pd.2.2) 3), (b4, blk (cellsP (0, 0)) 31), (b3, blk [.slice ad l.length cap] 22), (b2, blk (cellsP p) 31)]) (fun k => k ≤ 8 * l.length + 1) (fun k => k) (8 * l.length + 1) (Nat.le_refl _) ⟨rfl, rfl, rfl, rfl, rfl, rfl, trivial⟩ (by rw [hjl]; exact List.Sublist.refl _) ?_
    intro k hk
    refine sSeq ?_
    refine sSeq ?_
    refine W.region ?_
    refine OpsW.det (det_move rfl) rfl ?_
    refine OpsW.det (det_geq rfl rfl) rfl ?_
    refine sNext ?_
    refine W.keep (F' := [(56, _), (12, _), (11, _), (10, _), (5, _), (4, _), (2, _)]) ⟨rfl, rfl, rfl, rfl, rfl, rfl, rfl, trivial⟩ ?_
    refine W.cond rfl (fun hc56 => ?_) (fun hc56 => ?_)
    · skip
      obtain ⟨k, rfl⟩ : ∃ j, k = j + 1 := ⟨k - 1, by have h := hc56; simp only [decide_eq_true_eq] at h; omega⟩
      refine W.norm (F' := [(56, _), (12, .int .i64 (k : Nat)), (11, _), (10, _), (5, _), (4, _), (2, _)]) (H' := [(_, _), (_, _), (_, _), (_, _), (_, _), (_, _)]) (by rw [show (((k + 1 : Nat) : Int) - 1) = ((k : Nat) : Int) by omega]) rfl ?_
      refine sSkip ?_
      refine sSeq ?_
      refine sBlock ?_
      refine sSeq ?_
      refine W.region ?_
      refine OpsW.det (det_loadA ty107 rfl (List.Mem.tail _ (List.Mem.head _)) rfl) rfl ?_
      refine OpsW.det (det_call en81 rfl (fun w hb ho => jdbl_ok (fun p hp => ho.look (List.mem_append_right _ hp)))) rfl ?_
      refine OpsW.store sz107 rfl rfl rfl rfl rfl (Upd.there (Upd.here)) rfl ?_
      refine sNext ?_
      refine W.keep (F' := [(12, _), (11, _), (10, _), (5, _), (4, _), (2, _)]) ⟨rfl, rfl, rfl, rfl, rfl, rfl, trivial⟩ ?_
      refine sSeq ?_
      refine W.region ?_
      refine OpsW.det (det_move rfl) rfl ?_
      refine OpsW.det (det_move rfl) rfl ?_
      refine OpsW.det (det_indexAddr_sl u76 sz3 rfl rfl ⟨by omega, by omega⟩) rfl ?_
      refine OpsW.det (det_loadC ty3 rfl (List.Mem.tail _ (List.Mem.tail _ (List.Mem.head _))) (digs_at (i := k) (n := 8 * l.length + 1) (by omega) (by omega))) rfl ?_
      refine sNext ?_
      refine W.keep (F' := [(64, _), (12, _), (11, _), (10, _), (5, _), (4, _), (2, _)]) ⟨rfl, rfl, rfl, rfl, rfl, rfl, rfl, trivial⟩ ?_
      refine sBlock ?_
      refine sSeq ?_
      refine W.region ?_
      refine OpsW.det (det_eql rfl rfl) rfl ?_
      refine OpsW.det (det_assign rfl) rfl ?_
      refine sNext ?_
      refine W.keep (F' := [(65, _), (64, _), (12, _), (11, _), (10, _), (5, _), (4, _), (2, _)]) ⟨rfl, rfl, rfl, rfl, rfl, rfl, rfl, rfl, trivial⟩ ?_
      refine W.cond rfl (fun hc65 => ?_) (fun hc65 => ?_)
      · skip
        refine W.region ?_
        refine OpsW.det (det_loadA ty107 rfl (List.Mem.tail _ (List.Mem.head _)) rfl) rfl ?_
        refine OpsW.det (det_loadA ty31 rfl (List.Mem.tail _ (List.Mem.tail _ (List.Mem.tail _ (List.Mem.tail _ (List.Mem.tail _ (List.Mem.head _)))))) rfl) rfl ?_
        refine OpsW.det (det_call en82 rfl (fun w hb ho => jadd_ok (fun p hp => ho.look (List.mem_append_right _ hp)))) rfl ?_
        refine OpsW.store sz107 rfl rfl rfl rfl rfl (Upd.there (Upd.here)) rfl ?_
        refine sLast ?_
        refine bLast ?_
        refine bNext ?_
        refine W.keep (F' := [(12, _), (11, _), (10, _), (5, _), (4, _), (2, _)]) ⟨rfl, rfl, rfl, rfl, rfl, rfl, trivial⟩ ?_
        refine W.region ?_
        refine OpsW.det (det_move rfl) rfl ?_
        refine OpsW.det (det_subZ (c := ((k : Nat) : Int) - 1) rfl rfl (by omega) (by omega)) rfl ?_
        refine OpsW.det (det_assign rfl) rfl ?_
        refine sLast ?_
        exact rEnd k (Nat.le_of_succ_le hk) ⟨rfl, rfl, rfl, rfl, rfl, rfl, trivial⟩ (by rw [jl_one hk hc65]; exact List.Sublist.refl _) (Nat.lt_succ_self _)
      · skip
        refine sSeq ?_
        refine W.region ?_
        refine OpsW.det (det_eql rfl rfl) rfl ?_
        refine OpsW.det (det_assign rfl) rfl ?_
        refine sNext ?_
        refine W.keep (F' := [(70, _), (12, _), (11, _), (10, _), (5, _), (4, _), (2, _)]) ⟨rfl, rfl, rfl, rfl, rfl, rfl, rfl, trivial⟩ ?_
        refine W.cond rfl (fun hc70 => ?_) (fun hc70 => ?_)
        · skip
          refine W.region ?_
          refine OpsW.det (det_loadA ty107 rfl (List.Mem.tail _ (List.Mem.head _)) rfl) rfl ?_
          refine OpsW.det (det_loadA ty31 rfl (List.Mem.head _) rfl) rfl ?_
          refine OpsW.det (det_call en82 rfl (fun w hb ho => jadd_ok (fun p hp => ho.look (List.mem_append_right _ hp)))) rfl ?_
          refine OpsW.store sz107 rfl rfl rfl rfl rfl (Upd.there (Upd.here)) rfl ?_
          refine sLast ?_
          refine bLast ?_
          refine bNext ?_
          refine W.keep (F' := [(12, _), (11, _), (10, _), (5, _), (4, _), (2, _)]) ⟨rfl, rfl, rfl, rfl, rfl, rfl, trivial⟩ ?_
          refine W.region ?_
          refine OpsW.det (det_move rfl) rfl ?_
          refine OpsW.det (det_subZ (c := ((k : Nat) : Int) - 1) rfl rfl (by omega) (by omega)) rfl ?_
          refine OpsW.det (det_assign rfl) rfl ?_
          refine sLast ?_
          exact rEnd k (Nat.le_of_succ_le hk) ⟨rfl, rfl, rfl, rfl, rfl, rfl, trivial⟩ (by rw [jl_neg hk hc65 hc70]; exact List.Sublist.refl _) (Nat.lt_succ_self _)
        · skip
          refine sSkip0 ?_
          refine bLast ?_
          refine bNext ?_
          refine W.keep (F' := [(12, _), (11, _), (10, _), (5, _), (4, _), (2, _)]) ⟨rfl, rfl, rfl, rfl, rfl, rfl, trivial⟩ ?_
          refine W.region ?_
          refine OpsW.det (det_move rfl) rfl ?_
          refine OpsW.det (det_subZ (c := ((k : Nat) : Int) - 1) rfl rfl (by omega) (by omega)) rfl ?_
          refine OpsW.det (det_assign rfl) rfl ?_
          refine sLast ?_
          exact rEnd k (Nat.le_of_succ_le hk) ⟨rfl, rfl, rfl, rfl, rfl, rfl, trivial⟩ (by rw [jl_nil hk hc65 hc70]; exact List.Sublist.refl _) (Nat.lt_succ_self _)
    · skip
      have hk0 : k = 0 := by have h := hc56; simp only [decide_eq_false_iff_not] at h; omega
      subst hk0
      refine sExit ?_
      refine xLoop ?_
      refine xHere ?_
      refine W.keep (F' := [(10, _), (4, _)]) ⟨rfl, rfl, trivial⟩ ?_
      refine sSeq ?_
      refine W.region ?_
      refine OpsW.det (det_loadA ty107 rfl (List.Mem.tail _ (List.Mem.head _)) rfl) rfl ?_
      refine OpsW.det (det_call en83 rfl (fun w hb ho => point_ok (fun p hp => ho.look (List.mem_append_right _ hp)))) rfl ?_
      refine OpsW.store sz31 rfl rfl rfl rfl rfl (Upd.there (Upd.there (Upd.there (Upd.here)))) rfl ?_
      refine sNext ?_
      refine W.keep (F' := [(4, _)]) ⟨rfl, trivial⟩ ?_
      refine sRet ?_
      exact done1 Tryd.results59 (rv_cellA ty31 rfl (List.Mem.tail _ (List.Mem.tail _ (List.Mem.tail _ (List.Mem.head _)))) rfl) rfl

end Go.Cu

/- The first group: products with scalars, sums of lists: the walks. Conditions: as many as memory has. -/
namespace Go.Cu
open Go Go.Vm Go.RowKit Go.Proofs 
attribute [local irreducible] W OpsW Det Fresh New Writes Vm.Pure Makes Changes ExternTo BuildTo ZeroTo FieldTo IndexTo BinTo SliceTo Vm.Enters
set_option linter.unusedVariables false
set_option linter.unusedSimpArgs false
variable {T : Nat → TypeId × Nat × Nat}

def blist (x : Fs) : List Nat := (List.range 32).map fun i => byt x.val (31 - i)
theorem rbytes_eq (x : Fs) : rbytes x = bcells (blist x) := by unfold rbytes bcells blist; rw [bytes_all, List.map_map]; rfl
theorem blist_small (x : Fs) : ∀ c ∈ blist x, c < 256 := by
  intro c hc
  unfold blist at hc
  obtain ⟨i, _, rfl⟩ := List.mem_map.1 hc
  exact Nat.mod_lt _ (by decide)
theorem blist_len (x : Fs) : (blist x).length = 32 := by simp [blist]
theorem rbytes_one (x : Fs) : (rbytes x).all (·.oneCell') = true := bytes_one _ _ _
theorem blist_Bs (x : Fs) (b : Nat) : Bs [(b, blk (rbytes x) 101)] (.slice (some ⟨b, 0, none⟩) 32 32) (blist x) := by
  have h := Bs.of (b := b) (cap := 32) (spare := []) (e := 101) (fr := (0, 0)) (blist_small x) (by rw [blist_len]; exact Nat.le_refl _)
  rw [blist_len, List.append_nil, ← rbytes_eq] at h
  exact h
/-- So many times. -/
def pmul (p : Pt) (x : Fs) : Pt := times (blist x) p
theorem splice_52 (x : Fs) : splice 0 (rbytes x) (bst 0 0) = some (rbytes x) := splice_all (by rw [bst_len (Nat.zero_le _), rbytes_len])
/-- v is a slice of the points l, which lie in a block of G'. -/
structure Pts (G' : Hp) (v : Value) (l : List Pt) : Prop where
  shape : ∃ ad cap, v = .slice ad l.length cap
  at_ : ∀ i (h : i < l.length), ∃ (b o cap : Nat) (cs : List Value) (e : TypeId) (fr : Nat × Nat), v = .slice (some ⟨b, o, none⟩) l.length cap ∧ (b, Obj.cells cs.toArray e fr) ∈ G' ∧ cut (o + i * 12) 12 cs = some (cellsP l[i])
def jsum (l : List Pt) : Jac := l.foldl (fun j p => jadd j p) (0, 0, 0)
def psum (l : List Pt) : Pt := point (jsum l)
theorem jsum_step {l : List Pt} {i : Nat} (h : i < l.length) : jsum (l.take (i + 1)) = jadd (jsum (l.take i)) l[i] := by
  unfold jsum
  rw [List.take_succ_eq_append_getElem h, List.foldl_append]
  rfl
theorem off_i {o i : Nat} : o + ((i : Nat) : Int).toNat * 12 = o + i * 12 := by simp




end Go.Cu

/- The first group's field: numbers read: the walks. Conditions: none. -/
namespace Go.Cu
open Go Go.Vm Go.RowKit Go.Proofs 
attribute [local irreducible] W OpsW Det Fresh New Writes Vm.Pure Makes Changes ExternTo BuildTo ZeroTo FieldTo IndexTo BinTo SliceTo Vm.Enters
set_option linter.unusedVariables false
set_option linter.unusedSimpArgs false
variable {T : Nat → TypeId × Nat × Nat}

/-- The number that bytes are, the highest first. -/
def beN (l : List Nat) : Nat := l.foldl (fun x c => x * 256 + c) 0
theorem beN_from (l : List Nat) : ∀ a : Nat, l.foldl (fun x c => x * 256 + c) a = a * 256 ^ l.length + beN l := by
  induction l with
  | nil => intro a; simp [beN]
  | cons c l ih =>
    intro a
    unfold beN
    simp only [List.foldl_cons, List.length_cons]
    rw [ih, ih (0 * 256 + c), Nat.pow_succ, Nat.add_mul, Nat.add_mul]
    simp only [Nat.zero_mul, Nat.zero_add]
    rw [Nat.mul_assoc a 256, Nat.mul_comm 256, Nat.add_assoc]
theorem beN_app (a b : List Nat) : beN (a ++ b) = beN a * 256 ^ b.length + beN b := by
  unfold beN; rw [List.foldl_append, beN_from]; rfl
theorem beN_lt {l : List Nat} (h : ∀ c ∈ l, c < 256) : beN l < 256 ^ l.length := by
  induction l with
  | nil => simp [beN]
  | cons c l ih =>
    have h1 := ih fun x hx => h x (List.mem_cons_of_mem _ hx)
    have h2 := h c List.mem_cons_self
    have h3 := beN_from l c
    show beN (c :: l) < _
    unfold beN
    simp only [List.foldl_cons, Nat.zero_mul, Nat.zero_add, List.length_cons]
    rw [h3, Nat.pow_succ]
    have : (c + 1) * 256 ^ l.length ≤ 256 * 256 ^ l.length := Nat.mul_le_mul_right _ h2
    rw [Nat.add_mul] at this
    omega
theorem beN_word {l : List Nat} {i : Nat} (hl : l.length = 48) (hs : ∀ c ∈ l, c < 256) (hi : i < 6) : beN ((l.drop (8 * i)).take 8) = lim (beN l) (5 - i) := by
  have e : l = l.take (8 * i) ++ ((l.drop (8 * i)).take 8 ++ (l.drop (8 * i)).drop 8) := by rw [List.take_append_drop, List.take_append_drop]
  have hb := beN_lt (l := (l.drop (8 * i)).take 8) fun c hc => hs c (List.mem_of_mem_drop (List.mem_of_mem_take hc))
  have hc := beN_lt (l := (l.drop (8 * i)).drop 8) fun c hc => hs c (List.mem_of_mem_drop (List.mem_of_mem_drop hc))
  rw [show ((l.drop (8 * i)).take 8).length = 8 by simp; omega] at hb
  rw [show ((l.drop (8 * i)).drop 8).length = 8 * (5 - i) by simp; omega] at hc
  have hN : beN l = beN (l.take (8 * i)) * 256 ^ (8 + 8 * (5 - i)) + (beN ((l.drop (8 * i)).take 8) * 256 ^ (8 * (5 - i)) + beN ((l.drop (8 * i)).drop 8)) := by
    conv => lhs; rw [e]
    rw [beN_app, beN_app, List.length_append, show ((l.drop (8 * i)).take 8).length = 8 by simp; omega, show ((l.drop (8 * i)).drop 8).length = 8 * (5 - i) by simp; omega]
  unfold lim
  rw [show 18446744073709551616 ^ (5 - i) = 256 ^ (8 * (5 - i)) by rw [Nat.pow_mul]]
  generalize beN ((l.drop (8 * i)).take 8) = b at *
  generalize beN ((l.drop (8 * i)).drop 8) = c at *
  generalize beN (l.take (8 * i)) = a at *
  rw [hN, Nat.pow_add, show a * (256 ^ 8 * 256 ^ (8 * (5 - i))) + (b * 256 ^ (8 * (5 - i)) + c) = c + 256 ^ (8 * (5 - i)) * (b + 256 ^ 8 * a) by
    rw [Nat.mul_add, Nat.mul_comm _ b, show 256 ^ (8 * (5 - i)) * (256 ^ 8 * a) = a * (256 ^ 8 * 256 ^ (8 * (5 - i))) by ac_rfl]; omega, Nat.add_mul_div_left _ _ (Nat.pow_pos (by decide)), Nat.div_eq_of_lt hc, Nat.zero_add, show (18446744073709551616 : Nat) = 256 ^ 8 from rfl, Nat.add_mul_mod_self_left, Nat.mod_eq_of_lt hb]
theorem beN_step {l : List Nat} {i : Nat} (h : i < l.length) : beN (l.take (i + 1)) = beN (l.take i) * 256 + l[i] := by
  unfold beN
  rw [List.take_succ_eq_append_getElem h, List.foldl_append]
  rfl
theorem beN_top {l : List Nat} {i : Nat} (hs : ∀ c ∈ l, c < 256) (hi : i < 8) : beN (l.take i) < 72057594037927936 := by
  have h := beN_lt (l := l.take i) fun c hc => hs c (List.mem_of_mem_take hc)
  have h2 : 256 ^ (l.take i).length ≤ 256 ^ 7 := Nat.pow_le_pow_right (by decide) (by simp; omega)
  exact Nat.lt_of_lt_of_le h h2
section
variable {P : Program} {K : List Nat} {G : Hp} {w0 : World} {F : Fr} {H : Hp} {ty : TypeId} {pos : String} {after : Array Edge} {x y : Operand} {xt yt : TypeId} {d : Option Tmp} {g : Option (Nat × Bool)}
theorem det_orN {a b : Nat} (hx : ev F x = some (.int .u64 ((a * 2 ^ 8 % 18446744073709551616 : Nat) : Int))) (hy : ev F y = some (.int .u64 b)) (ha : a < 72057594037927936) (hb : b < 256) : Det P K G w0 ⟨d, .binOp .or xt x y yt, ty, pos, after, g⟩ F H (.int .u64 ((a * 256 + b : Nat) : Int)) :=
  (det_or hx hy).to (by
    have e : a * 2 ^ 8 % 18446744073709551616 = 2 ^ 8 * a := by rw [Nat.mod_eq_of_lt (by omega)]; omega
    rw [e, (Go.Vm.bits_nat (by omega) (by omega)).2, ← Nat.two_pow_add_eq_or_of_lt (i := 8) (by omega)]
    congr 2
    omega)
end

theorem u26 : Tryd.prog.underlying 26 = some (.int .u64) := by kernel_rfl
theorem get_ok {G' : Hp} {b o len cap : Nat} {cs : List Value} {e : TypeId} {fr : Nat × Nat} {l : List Nat} (hl : l.length = 8) (hs : ∀ c ∈ l, c < 256) (hlen : 8 ≤ len ∧ len ≤ cap) (hm : (b, Obj.cells cs.toArray e fr) ∈ G') (hcs : ∀ i (h : i < l.length), cs[o + i]? = some (u8 l[i])) {w : World} (hG : Blocks (G' ++ GH T) w)  : Vm.Pure Tryd.prog 54 #[.slice (some ⟨b, o, none⟩) len cap, .int .i64 8] w (u64 (beN l)) := by
  refine pure_of_W (n := 23) (args := [.slice (some ⟨b, o, none⟩) len cap, .int .i64 8]) Tryd.func54 rfl Tryd.ntmps54 (Nat.le_of_ble_eq_true rfl) hG ?_
  refine sStart ?_
  refine sSeq ?_
  refine W.region ?_
  refine OpsW.det (det_assign rfl) rfl ?_
  refine sNext ?_
  refine W.keep (F' := [(0, _), (1, _)]) ⟨rfl, rfl, trivial⟩ ?_
  refine sSeq ?_
  refine W.region ?_
  refine OpsW.det (det_assign rfl) rfl ?_
  refine sNext ?_
  refine sSeq ?_
  refine sSeq ?_
  refine W.region ?_
  refine OpsW.det (det_move rfl) rfl ?_
  refine OpsW.det (det_move rfl) rfl ?_
  refine OpsW.det ((det_slice (lo := none) (hi := some (.tmp 9)) (l := 0) (h := 8) u22 sz5 rfl rfl ⟨_, rfl⟩ (by decide) (by omega) (by omega)).to (v := .slice (some ⟨b, o, none⟩) 8 cap) (by rw [if_neg (by omega), Nat.zero_mul, Nat.add_zero]; rfl)) rfl ?_
  refine OpsW.det (det_len u22 rfl) rfl ?_
  refine OpsW.det (det_move rfl) rfl ?_
  refine sNext ?_
  refine W.keep (F' := [(12, _), (11, _), (10, _), (5, _)]) ⟨rfl, rfl, rfl, rfl, trivial⟩ ?_
  refine sBlock ?_
  refine sLoop (σ := Nat) (fun i => [(12, .int .i64 (i : Nat)), (11, .int .i64 8), (10, .slice (some ⟨b, o, none⟩) 8 cap), (5, u64 (beN (l.take i)))]) (fun i => []) (fun i => i ≤ l.length) (fun i => l.length - i) 0 (Nat.zero_le _) ⟨rfl, rfl, rfl, rfl, trivial⟩ (List.Sublist.refl _) ?_
  intro i hi
  refine sSeq ?_
  refine W.region ?_
  refine OpsW.det (det_lss rfl rfl) rfl ?_
  refine sNext ?_
  refine sSeq ?_
  refine W.cond rfl (fun hc13 => ?_) (fun hc13 => ?_)
  · skip
    have hlt : i < l.length := by have h := hc13; simp only [decide_eq_true_eq] at h; omega
    refine sSkip ?_
    refine sSeq ?_
    refine sBlock ?_
    refine sSeq ?_
    refine W.region ?_
    refine OpsW.det (det_indexAddr_sl u22 sz5 rfl rfl ⟨by omega, by omega⟩) rfl ?_
    refine OpsW.det (det_loadC_ro ty5 rfl (List.mem_append_left _ hm) (show cs[o + ((i : Nat) : Int).toNat * 1]? = some (u8 l[i]) by simpa using hcs i hlt)) rfl ?_
    refine OpsW.det (det_assign rfl) rfl ?_
    refine sNext ?_
    refine W.keep (F' := [(7, _), (12, _), (11, _), (10, _), (5, _)]) ⟨rfl, rfl, rfl, rfl, rfl, trivial⟩ ?_
    refine W.region ?_
    refine OpsW.det (det_move rfl) rfl ?_
    refine OpsW.det (det_shlN (b := 8) rfl rfl (by decide)) rfl ?_
    refine OpsW.det (det_move rfl) rfl ?_
    refine OpsW.det ((det_conv u5 u26 rfl).to (conv_byte (hs _ (List.getElem_mem hlt)))) rfl ?_
    refine OpsW.det ((det_orN rfl rfl (beN_top hs (by omega)) (hs _ (List.getElem_mem hlt))).to (congrArg u64 (beN_step hlt).symm)) rfl ?_
    refine OpsW.det (det_assign rfl) rfl ?_
    refine sLast ?_
    refine bNext ?_
    refine W.keep (F' := [(5, _), (12, _), (11, _), (10, _)]) ⟨rfl, rfl, rfl, rfl, trivial⟩ ?_
    refine W.region ?_
    refine OpsW.det (det_addN (b := 1) rfl rfl (by omega)) rfl ?_
    refine OpsW.det (det_move rfl) rfl ?_
    refine sLast ?_
    exact rEnd (i + 1) hlt ⟨rfl, rfl, rfl, rfl, trivial⟩ (List.Sublist.refl _) (step_lt hlt)
  · skip
    have hi4 : i = l.length := by have h := hc13; simp only [decide_eq_false_iff_not] at h; omega
    subst hi4
    refine sExit ?_
    refine xLoop ?_
    refine xHere ?_
    refine W.keep (F' := [(5, _)]) ⟨rfl, trivial⟩ ?_
    refine sSeq ?_
    refine W.region ?_
    refine OpsW.det (det_move rfl) rfl ?_
    refine OpsW.det (det_assign rfl) rfl ?_
    refine sNext ?_
    refine W.keep (F' := [(4, _)]) ⟨rfl, trivial⟩ ?_
    refine sRet ?_
    exact done1 Tryd.results54 (rv_tmp rfl) (congrArg (fun z => u64 (beN z)) (List.take_length))

end Go.Cu
