/-
  Part 7 of the joined texts of the curves' laws: The second group's points: what Neg, On, Add compute: the walks. Conditions: none.
  Conditions: those that each theorem states.
-/
import Derived.Test.YtndonmbemehefaaDoorQ6
import Derived.Test.YtndonmbemehefaaDoorQ5
import Derived.Test.YtndonmbemehefaaDoorQ2
import Derived.Test.YtndonmbemehefaaDoorQ4
import Derived.Test.YtndonmbemehefaaDoorCards
import Derived.Test.YtndonmbemehefaaDoorTie
import Derived.WalkKit
import Derived.ProofKit
import Derived.OpenShut
/- The second group's points: what Neg, On, Add compute: the walks. Conditions: none. -/
namespace Go.Cw
open Go Go.Vm Go.RowKit Go.Proofs Go.Cu
attribute [local irreducible] W OpsW Det Fresh New Writes Vm.Pure Makes Changes ExternTo BuildTo ZeroTo FieldTo IndexTo BinTo SliceTo Vm.Enters
set_option linter.unusedVariables false
set_option linter.unusedSimpArgs false
variable {T : Nat → TypeId × Nat × Nat}
def inv (x : Fq2) : Fq2 := inv2 x
def four : Fq2 := small 4 4

def pneg (p : Pt) : Pt := if p = (0, 0) then p else (p.1, 0 - p.2)
def onB (p : Pt) : Bool := decide (p = (0, 0)) || decide (p.2 * p.2 = p.1 * p.1 * p.1 + four)
def tojac (p : Pt) : Jac := if p = (0, 0) then (0, 0, 0) else (p.1, p.2, small 1 0)
def jdbl (p : Jac) : Jac :=
  if p.2.2 = 0 then (0, 0, 0) else if p.2.1 = 0 then (0, 0, 0) else
    let a := p.1 * p.1
    let b := p.2.1 * p.2.1
    let c := b * b
    let d0 := (p.1 + b) * (p.1 + b) - a - c
    let d := d0 + d0
    let e := a + a + a
    let f := e * e - d - d
    let c4 := (c + c) + (c + c)
    (f, e * (d - f) - c4 - c4, p.2.1 * p.2.2 + p.2.1 * p.2.2)
def jaddH (p : Jac) (q : Pt) : Fq2 := q.1 * (p.2.2 * p.2.2) - p.1
def jaddR (p : Jac) (q : Pt) : Fq2 := q.2 * p.2.2 * (p.2.2 * p.2.2) - p.2.1
def jaddN (p : Jac) (q : Pt) : Jac :=
  let zz := p.2.2 * p.2.2
  let h := jaddH p q
  let r := jaddR p q + jaddR p q
  let hh := h * h
  let i := (hh + hh) + (hh + hh)
  let j := h * i
  let v := p.1 * i
  let x := r * r - j - v - v
  let yj := p.2.1 * j
  (x, r * (v - x) - yj - yj, (p.2.2 + h) * (p.2.2 + h) - zz - hh)
def jadd (p : Jac) (q : Pt) : Jac :=
  if q = (0, 0) then p else if p.2.2 = 0 then tojac q else if jaddH p q = 0 then (if jaddR p q = 0 then jdbl p else (0, 0, 0)) else jaddN p q
def point (p : Jac) : Pt := if p.2.2 = 0 then (0, 0) else
  let i := inv p.2.2
  let i2 := i * i
  (p.1 * i2, p.2.1 * i2 * i)
def padd (p q : Pt) : Pt := point (jadd (tojac p) q)
theorem pneg_yes {p : Pt} (h : decide (p = (0, 0)) = true) : pneg p = p := if_pos (dt h)
theorem pneg_no {p : Pt} (h : decide (p = (0, 0)) = false) : pneg p = (p.1, 0 - p.2) := if_neg (df h)
theorem tojac_yes {p : Pt} (h : decide (p = (0, 0)) = true) : tojac p = (0, 0, 0) := if_pos (dt h)
theorem tojac_no {p : Pt} (h : decide (p = (0, 0)) = false) : tojac p = (p.1, p.2, small 1 0) := if_neg (df h)
theorem point_yes {p : Jac} (h : decide (p.2.2 = 0) = true) : point p = (0, 0) := if_pos (dt h)
theorem point_no {p : Jac} (h : decide (p.2.2 = 0) = false) : point p = (p.1 * (inv p.2.2 * inv p.2.2), p.2.1 * (inv p.2.2 * inv p.2.2) * inv p.2.2) := if_neg (df h)
theorem jdbl_z {p : Jac} (h : decide (p.2.2 = 0) = true) : jdbl p = (0, 0, 0) := if_pos (dt h)
theorem jdbl_y {p : Jac} (h : decide (p.2.2 = 0) = false) (h2 : decide (p.2.1 = 0) = true) : jdbl p = (0, 0, 0) := (if_neg (df h)).trans (if_pos (dt h2))
theorem jdbl_no {p : Jac} (h : decide (p.2.2 = 0) = false) (h2 : decide (p.2.1 = 0) = false) : jdbl p = (
    let a := p.1 * p.1
    let b := p.2.1 * p.2.1
    let c := b * b
    let d0 := (p.1 + b) * (p.1 + b) - a - c
    let d := d0 + d0
    let e := a + a + a
    let f := e * e - d - d
    let c4 := (c + c) + (c + c)
    (f, e * (d - f) - c4 - c4, p.2.1 * p.2.2 + p.2.1 * p.2.2)) := (if_neg (df h)).trans (if_neg (df h2))
theorem jadd_q {p : Jac} {q : Pt} (h : decide (q = (0, 0)) = true) : jadd p q = p := if_pos (dt h)
theorem jadd_p {p : Jac} {q : Pt} (h : decide (q = (0, 0)) = false) (h2 : decide (p.2.2 = 0) = true) : jadd p q = tojac q := (if_neg (df h)).trans (if_pos (dt h2))
theorem jadd_d {p : Jac} {q : Pt} (h : decide (q = (0, 0)) = false) (h2 : decide (p.2.2 = 0) = false) (h3 : decide (jaddH p q = 0) = true) (h4 : decide (jaddR p q = 0) = true) : jadd p q = jdbl p :=
  (if_neg (df h)).trans ((if_neg (df h2)).trans ((if_pos (dt h3)).trans (if_pos (dt h4))))
theorem jadd_o {p : Jac} {q : Pt} (h : decide (q = (0, 0)) = false) (h2 : decide (p.2.2 = 0) = false) (h3 : decide (jaddH p q = 0) = true) (h4 : decide (jaddR p q = 0) = false) : jadd p q = (0, 0, 0) :=
  (if_neg (df h)).trans ((if_neg (df h2)).trans ((if_pos (dt h3)).trans (if_neg (df h4))))
theorem jadd_n {p : Jac} {q : Pt} (h : decide (q = (0, 0)) = false) (h2 : decide (p.2.2 = 0) = false) (h3 : decide (jaddH p q = 0) = false) : jadd p q = jaddN p q :=
  (if_neg (df h)).trans ((if_neg (df h2)).trans (if_neg (df h3)))

theorem bld48 {x y : Fq2} : BuildTo Tryd.prog 48 [(0, encF x), (1, encF y)] (encP (x, y)) := BuildTo.of fun _ => by kernel_rfl
theorem bld112 {x y z : Fq2} : BuildTo Tryd.prog 112 [(0, encF x), (1, encF y), (2, encF z)] (encJ (x, y, z)) := BuildTo.of fun _ => by kernel_rfl
theorem bz48 : ZeroTo Tryd.prog 48 (encP (0, 0)) := ZeroTo.of fun _ => by kernel_rfl
theorem bz112 : ZeroTo Tryd.prog 112 (encJ (0, 0, 0)) := ZeroTo.of fun _ => by kernel_rfl
theorem en97 : Vm.Enters Tryd.prog 97 := Vm.Enters.of fun _ _ => by kernel_rfl
theorem en28 : Vm.Enters Tryd.prog 28 := Vm.Enters.of fun _ _ => by kernel_rfl
theorem en96 : Vm.Enters Tryd.prog 96 := Vm.Enters.of fun _ _ => by kernel_rfl
theorem en33 : Vm.Enters Tryd.prog 33 := Vm.Enters.of fun _ _ => by kernel_rfl
theorem en26 : Vm.Enters Tryd.prog 26 := Vm.Enters.of fun _ _ => by kernel_rfl
theorem en27 : Vm.Enters Tryd.prog 27 := Vm.Enters.of fun _ _ => by kernel_rfl
theorem en72 : Vm.Enters Tryd.prog 72 := Vm.Enters.of fun _ _ => by kernel_rfl
theorem en94 : Vm.Enters Tryd.prog 94 := Vm.Enters.of fun _ _ => by kernel_rfl
theorem en86 : Vm.Enters Tryd.prog 86 := Vm.Enters.of fun _ _ => by kernel_rfl
theorem en95 : Vm.Enters Tryd.prog 95 := Vm.Enters.of fun _ _ => by kernel_rfl
theorem en99 : Vm.Enters Tryd.prog 99 := Vm.Enters.of fun _ _ => by kernel_rfl
theorem fl48_0 : TyF Tryd.prog 48 0 0 12 := ⟨⟨46, by kernel_rfl, by kernel_rfl⟩, by decide⟩
theorem fl48_1 : TyF Tryd.prog 48 1 12 12 := ⟨⟨46, by kernel_rfl, by kernel_rfl⟩, by decide⟩
theorem fl112_0 : TyF Tryd.prog 112 0 0 12 := ⟨⟨46, by kernel_rfl, by kernel_rfl⟩, by decide⟩
theorem fl112_1 : TyF Tryd.prog 112 1 12 12 := ⟨⟨46, by kernel_rfl, by kernel_rfl⟩, by decide⟩
theorem fl112_2 : TyF Tryd.prog 112 2 24 12 := ⟨⟨46, by kernel_rfl, by kernel_rfl⟩, by decide⟩
theorem sz48 : sizeIn Tryd.prog 48 = some 24 := by kernel_rfl
theorem sz112 : sizeIn Tryd.prog 112 = some 36 := by kernel_rfl
theorem ty48 : TyA Tryd.prog 48 24 := ⟨by kernel_rfl, by kernel_rfl⟩
theorem ty112 : TyA Tryd.prog 112 36 := ⟨by kernel_rfl, by kernel_rfl⟩
theorem PNeg_ok {p : Pt} {w : World} (hG : Blocks (GH T) w)  : Vm.Pure Tryd.prog 46 #[encP p] w (encP (pneg p)) := by
  refine pure_of_W (n := 13) (args := [encP p]) Tryd.func46 rfl Tryd.ntmps46 (Nat.le_of_ble_eq_true rfl) hG ?_
  refine sStart ?_
  refine sSeq ?_
  refine W.region ?_
  refine OpsW.fresh (fr_boxW48 rfl) rfl fun b1 => ?_
  refine OpsW.fresh (fr_alloc z48r) rfl fun b2 => ?_
  refine sNext ?_
  refine W.keep (F' := [(2, _), (1, _)]) ⟨rfl, rfl, trivial⟩ ?_
  refine sSeq ?_
  refine sSeq ?_
  refine W.region ?_
  refine OpsW.det (det_loadW48 rfl (List.Mem.tail _ (List.Mem.head _))) rfl ?_
  refine OpsW.det (det_zero bz48) rfl ?_
  refine OpsW.det (det_eql48 rfl rfl) rfl ?_
  refine sNext ?_
  refine W.keep (F' := [(5, _), (2, _), (1, _)]) ⟨rfl, rfl, rfl, trivial⟩ ?_
  refine W.cond rfl (fun hc5 => ?_) (fun hc5 => ?_)
  · skip
    refine sSeq ?_
    refine W.region ?_
    refine OpsW.det (det_loadW48 rfl (List.Mem.tail _ (List.Mem.head _))) rfl ?_
    refine OpsW.storeW48 rfl rfl (Upd.here) ?_
    refine sNext ?_
    refine W.keep (F' := [(2, _)]) ⟨rfl, trivial⟩ ?_
    refine sRet ?_
    exact done1 Tryd.results46 (rv_cellA ty48 rfl (List.Mem.head _) rfl) (congrArg encP (pneg_yes hc5).symm)
  · skip
    refine sSkip ?_
    refine sSeq ?_
    refine W.draw mixed 6 [[], [0], [], [2], [2, 3], [0, 1, 2, 3, 4], [0, 1, 2, 3, 4, 5]] (cl_lt (by decide)) ?_
    refine HeadR.start (cl_lt (by decide)) ?_
    refine HeadR.det rfl (fun β hβ => (det_fieldAddr fl48_0 rfl)) ?_
    refine HeadR.det rfl (fun β hβ => (det_loadA ty46 rfl (List.Mem.tail _ (List.Mem.head _)) rfl)) ?_
    refine HeadR.det rfl (fun β hβ => (det_fieldAddr fl48_1 rfl)) ?_
    refine HeadR.det rfl (fun β hβ => (det_loadA ty46 rfl (List.Mem.tail _ (List.Mem.head _)) rfl)) ?_
    refine HeadR.det rfl (fun β hβ => (det_call en33 rfl (fun w hb ho => Neg_ok ho.blocks))) ?_
    refine HeadR.det rfl (fun β hβ => (det_build rfl bld48)) ?_
    refine HeadR.done ⟨by kernel_rfl, fun β hβ => ?_⟩
    refine OpsW.norm (F' := [(7, _), (8, _), (9, _), (10, _), (11, _), (12, _), (5, _), (2, _), (1, _)]) (H' := [(_, _), (_, _)]) rfl rfl ?_
    refine OpsW.storeW48 rfl rfl (Upd.here) ?_
    refine sNext ?_
    refine W.keep (F' := [(2, _)]) ⟨rfl, trivial⟩ ?_
    refine sRet ?_
    exact done1 Tryd.results46 (rv_cellA ty48 rfl (List.Mem.head _) rfl) (congrArg encP (pneg_no hc5).symm)
theorem POn_ok {p : Pt} {w : World} (hG : Blocks (GH T) w)  : Vm.Pure Tryd.prog 39 #[encP p] w (.bool (onB p)) := by
  refine pure_of_W (n := 20) (args := [encP p]) Tryd.func39 rfl Tryd.ntmps39 (Nat.le_of_ble_eq_true rfl) hG ?_
  refine sStart ?_
  refine sSeq ?_
  refine W.region ?_
  refine OpsW.fresh (fr_boxW48 rfl) rfl fun b1 => ?_
  refine OpsW.det (det_assign rfl) rfl ?_
  refine sNext ?_
  refine W.keep (F' := [(1, _)]) ⟨rfl, trivial⟩ ?_
  refine sSeq ?_
  cases hp : decide (p = (0, 0))
  · skip
    refine W.draw mixed 18 [[], [], [0, 1], [0, 1, 2], [0, 1, 2, 3], [0, 1, 2, 3, 4], [0, 1, 2, 3, 4, 5], [0, 1, 2, 3], [0, 1, 2, 3, 7], [0, 1, 2, 3, 4, 5, 6, 7, 8], [0, 1, 2, 3], [0, 1, 2, 3, 10], [0, 1, 2, 3, 4, 5, 6, 7, 8, 9, 10, 11], [0, 1, 2, 3, 4, 5, 6, 7, 8, 9, 10, 11, 12], [0, 1, 2, 3, 4, 5, 6, 7, 8, 9, 10, 11, 12, 13], [0, 1, 2, 3, 4, 5, 6, 7, 8, 9, 10, 11, 12, 13, 14], [0, 1, 2, 3, 4, 5, 6, 7, 8, 9, 10, 11, 12, 13, 14, 15], [0, 1, 2, 3, 4, 5, 6, 7, 8, 9, 10, 11, 12, 13, 14, 15, 16]] (cl_lt (by decide)) ?_
    refine HeadR.start (cl_lt (by decide)) ?_
    refine HeadR.det rfl (fun β hβ => (det_loadW48 rfl (List.Mem.head _))) ?_
    refine HeadR.det rfl (fun β hβ => (det_zero bz48)) ?_
    refine HeadR.det rfl (fun β hβ => ((det_eql48 (a := p) rfl rfl).to (congrArg Value.bool hp))) ?_
    refine HeadR.det rfl (fun β hβ => (det_move rfl)) ?_
    refine HeadR.yes rfl rfl (fun _ _ => rfl) (fun β hβ => (det_fieldAddr fl48_1 rfl)) ?_
    refine HeadR.yes rfl rfl (fun _ _ => rfl) (fun β hβ => (det_loadA ty46 rfl (List.Mem.head _) rfl)) ?_
    refine HeadR.yes rfl rfl (fun _ _ => rfl) (fun β hβ => (det_call en26 rfl (fun w hb ho => Square_ok ho.blocks))) ?_
    refine HeadR.yes rfl rfl (fun _ _ => rfl) (fun β hβ => (det_fieldAddr fl48_0 rfl)) ?_
    refine HeadR.yes rfl rfl (fun _ _ => rfl) (fun β hβ => (det_loadA ty46 rfl (List.Mem.head _) rfl)) ?_
    refine HeadR.yes rfl rfl (fun _ _ => rfl) (fun β hβ => (det_call en26 rfl (fun w hb ho => Square_ok ho.blocks))) ?_
    refine HeadR.yes rfl rfl (fun _ _ => rfl) (fun β hβ => (det_fieldAddr fl48_0 rfl)) ?_
    refine HeadR.yes rfl rfl (fun _ _ => rfl) (fun β hβ => (det_loadA ty46 rfl (List.Mem.head _) rfl)) ?_
    refine HeadR.yes rfl rfl (fun _ _ => rfl) (fun β hβ => (det_call en27 rfl (fun w hb ho => Mul_ok ho.blocks))) ?_
    refine HeadR.yes rfl rfl (fun _ _ => rfl) (fun β hβ => (det_call en72 rfl (fun w hb ho => four_ok ho.blocks))) ?_
    refine HeadR.yes rfl rfl (fun _ _ => rfl) (fun β hβ => (det_call en28 rfl (fun w hb ho => Add_ok ho.blocks))) ?_
    refine HeadR.yes rfl rfl (fun _ _ => rfl) (fun β hβ => (det_eql46 rfl rfl)) ?_
    refine HeadR.det rfl (fun β hβ => (det_pick rfl rfl)) ?_
    refine HeadR.det rfl (fun β hβ => (det_assign rfl)) ?_
    refine HeadR.done ⟨by kernel_rfl, fun β hβ => ?_⟩
    refine OpsW.norm (F' := [(3, _), (4, _), (5, _), (6, _), (7, _), (8, _), (9, _), (10, _), (11, _), (12, _), (13, _), (14, _), (15, _), (16, _), (17, _), (18, _), (19, _), (2, _), (1, _)]) (H' := [(_, _)]) rfl rfl ?_
    refine sNext ?_
    refine W.keep (F' := [(2, _)]) ⟨rfl, trivial⟩ ?_
    refine sRet ?_
    exact done1 Tryd.results39 (rv_tmp rfl) (by rw [onB, hp]; rfl)
  · skip
    refine W.draw mixed 18 [[], [], [0, 1], [0, 1, 2], [0, 1, 2, 3], [0, 1, 2, 3, 4], [0, 1, 2, 3, 4, 5], [0, 1, 2, 3], [0, 1, 2, 3, 7], [0, 1, 2, 3, 4, 5, 6, 7, 8], [0, 1, 2, 3], [0, 1, 2, 3, 10], [0, 1, 2, 3, 4, 5, 6, 7, 8, 9, 10, 11], [0, 1, 2, 3, 4, 5, 6, 7, 8, 9, 10, 11, 12], [0, 1, 2, 3, 4, 5, 6, 7, 8, 9, 10, 11, 12, 13], [0, 1, 2, 3, 4, 5, 6, 7, 8, 9, 10, 11, 12, 13, 14], [0, 1, 2, 3, 4, 5, 6, 7, 8, 9, 10, 11, 12, 13, 14, 15], [0, 1, 2, 3, 4, 5, 6, 7, 8, 9, 10, 11, 12, 13, 14, 15, 16]] (cl_lt (by decide)) ?_
    refine HeadR.start (cl_lt (by decide)) ?_
    refine HeadR.det rfl (fun β hβ => (det_loadW48 rfl (List.Mem.head _))) ?_
    refine HeadR.det rfl (fun β hβ => (det_zero bz48)) ?_
    refine HeadR.det rfl (fun β hβ => ((det_eql48 (a := p) rfl rfl).to (congrArg Value.bool hp))) ?_
    refine HeadR.det rfl (fun β hβ => (det_move rfl)) ?_
    refine HeadR.no rfl rfl (fun _ _ => rfl) ?_
    refine HeadR.no rfl rfl (fun _ _ => rfl) ?_
    refine HeadR.no rfl rfl (fun _ _ => rfl) ?_
    refine HeadR.no rfl rfl (fun _ _ => rfl) ?_
    refine HeadR.no rfl rfl (fun _ _ => rfl) ?_
    refine HeadR.no rfl rfl (fun _ _ => rfl) ?_
    refine HeadR.no rfl rfl (fun _ _ => rfl) ?_
    refine HeadR.no rfl rfl (fun _ _ => rfl) ?_
    refine HeadR.no rfl rfl (fun _ _ => rfl) ?_
    refine HeadR.no rfl rfl (fun _ _ => rfl) ?_
    refine HeadR.no rfl rfl (fun _ _ => rfl) ?_
    refine HeadR.no rfl rfl (fun _ _ => rfl) ?_
    refine HeadR.det rfl (fun β hβ => (det_pick rfl rfl)) ?_
    refine HeadR.det rfl (fun β hβ => (det_assign rfl)) ?_
    refine HeadR.done ⟨by kernel_rfl, fun β hβ => ?_⟩
    refine OpsW.norm (F' := [(3, _), (4, _), (5, _), (6, _), (7, _), (8, _), (9, _), (10, _), (11, _), (12, _), (13, _), (14, _), (15, _), (16, _), (17, _), (18, _), (19, _), (2, _), (1, _)]) (H' := [(_, _)]) rfl rfl ?_
    refine sNext ?_
    refine W.keep (F' := [(2, _)]) ⟨rfl, trivial⟩ ?_
    refine sRet ?_
    exact done1 Tryd.results39 (rv_tmp rfl) (by rw [onB, hp]; rfl)
theorem tojac_ok {p : Pt} {w : World} (hG : Blocks (GH T) w)  : Vm.Pure Tryd.prog 96 #[encP p] w (encJ (tojac p)) := by
  refine pure_of_W (n := 13) (args := [encP p]) Tryd.func96 rfl Tryd.ntmps96 (Nat.le_of_ble_eq_true rfl) hG ?_
  refine sStart ?_
  refine sSeq ?_
  refine W.region ?_
  refine OpsW.fresh (fr_boxW48 rfl) rfl fun b1 => ?_
  refine OpsW.fresh (fr_alloc z112r) rfl fun b2 => ?_
  refine sNext ?_
  refine W.keep (F' := [(2, _), (1, _)]) ⟨rfl, rfl, trivial⟩ ?_
  refine sSeq ?_
  refine sSeq ?_
  refine W.region ?_
  refine OpsW.det (det_loadW48 rfl (List.Mem.tail _ (List.Mem.head _))) rfl ?_
  refine OpsW.det (det_zero bz48) rfl ?_
  refine OpsW.det (det_eql48 rfl rfl) rfl ?_
  refine sNext ?_
  refine W.keep (F' := [(5, _), (2, _), (1, _)]) ⟨rfl, rfl, rfl, trivial⟩ ?_
  refine W.cond rfl (fun hc5 => ?_) (fun hc5 => ?_)
  · skip
    refine sSeq ?_
    refine W.region ?_
    refine OpsW.det (det_zero bz112) rfl ?_
    refine OpsW.storeW112 rfl rfl (Upd.here) ?_
    refine sNext ?_
    refine W.keep (F' := [(2, _)]) ⟨rfl, trivial⟩ ?_
    refine sRet ?_
    exact done1 Tryd.results96 (rv_cellA ty112 rfl (List.Mem.head _) rfl) (congrArg encJ (tojac_yes hc5).symm)
  · skip
    refine sSkip ?_
    refine sSeq ?_
    refine W.draw mixed 6 [[], [0], [], [2], [], [0, 1, 2, 3, 4], [0, 1, 2, 3, 4, 5]] (cl_lt (by decide)) ?_
    refine HeadR.start (cl_lt (by decide)) ?_
    refine HeadR.det rfl (fun β hβ => (det_fieldAddr fl48_0 rfl)) ?_
    refine HeadR.det rfl (fun β hβ => (det_loadA ty46 rfl (List.Mem.tail _ (List.Mem.head _)) rfl)) ?_
    refine HeadR.det rfl (fun β hβ => (det_fieldAddr fl48_1 rfl)) ?_
    refine HeadR.det rfl (fun β hβ => (det_loadA ty46 rfl (List.Mem.tail _ (List.Mem.head _)) rfl)) ?_
    refine HeadR.det rfl (fun β hβ => (det_call en99 rfl (fun w hb ho => one_ok ho.blocks))) ?_
    refine HeadR.det rfl (fun β hβ => (det_build rfl bld112)) ?_
    refine HeadR.done ⟨by kernel_rfl, fun β hβ => ?_⟩
    refine OpsW.norm (F' := [(7, _), (8, _), (9, _), (10, _), (11, _), (12, _), (5, _), (2, _), (1, _)]) (H' := [(_, _), (_, _)]) rfl rfl ?_
    refine OpsW.storeW112 rfl rfl (Upd.here) ?_
    refine sNext ?_
    refine W.keep (F' := [(2, _)]) ⟨rfl, trivial⟩ ?_
    refine sRet ?_
    exact done1 Tryd.results96 (rv_cellA ty112 rfl (List.Mem.head _) rfl) (congrArg encJ (tojac_no hc5).symm)
theorem jdbl_ok {p : Jac} {w : World} (hG : Blocks (GH T) w)  : Vm.Pure Tryd.prog 86 #[encJ p] w (encJ (jdbl p)) := by
  refine pure_of_W (n := 75) (args := [encJ p]) Tryd.func86 rfl Tryd.ntmps86 (Nat.le_of_ble_eq_true rfl) hG ?_
  refine sStart ?_
  refine sSeq ?_
  refine W.region ?_
  refine OpsW.fresh (fr_boxW112 rfl) rfl fun b1 => ?_
  refine OpsW.fresh (fr_alloc z112r) rfl fun b2 => ?_
  refine sNext ?_
  refine W.keep (F' := [(2, _), (1, _)]) ⟨rfl, rfl, trivial⟩ ?_
  refine sSeq ?_
  refine sSeq ?_
  refine W.region ?_
  refine OpsW.det (det_fieldAddr fl112_2 rfl) rfl ?_
  refine OpsW.det (det_loadA ty46 rfl (List.Mem.tail _ (List.Mem.head _)) rfl) rfl ?_
  refine OpsW.test (det_call en94 rfl (fun w hb ho => Zero_ok ho.blocks)) rfl (fun hc12 => ?_) (fun hc12 => ?_)
  · skip
    refine OpsW.det (det_move rfl) rfl ?_
    refine OpsW.guard_no rfl rfl rfl ?_
    refine OpsW.guard_no rfl rfl rfl ?_
    refine OpsW.guard_no rfl rfl rfl ?_
    refine OpsW.det (det_pick rfl rfl) rfl ?_
    refine sNext ?_
    refine W.keep (F' := [(17, _), (2, _), (1, _)]) ⟨rfl, rfl, rfl, trivial⟩ ?_
    refine W.cond_true rfl ?_
    refine sSeq ?_
    refine W.region ?_
    refine OpsW.det (det_zero bz112) rfl ?_
    refine OpsW.storeW112 rfl rfl (Upd.here) ?_
    refine sNext ?_
    refine W.keep (F' := [(2, _)]) ⟨rfl, trivial⟩ ?_
    refine sRet ?_
    exact done1 Tryd.results86 (rv_cellA ty112 rfl (List.Mem.head _) rfl) (congrArg encJ (jdbl_z hc12).symm)
  · skip
    refine OpsW.det (det_move rfl) rfl ?_
    refine OpsW.guard_yes rfl rfl ?_
    refine OpsW.det (det_fieldAddr fl112_1 rfl) rfl ?_
    refine OpsW.guard_yes rfl rfl ?_
    refine OpsW.det (det_loadA ty46 rfl (List.Mem.tail _ (List.Mem.head _)) rfl) rfl ?_
    refine OpsW.guard_yes rfl rfl ?_
    refine OpsW.det (det_call en94 rfl (fun w hb ho => Zero_ok ho.blocks)) rfl ?_
    refine OpsW.det (det_pick rfl rfl) rfl ?_
    refine sNext ?_
    refine W.keep (F' := [(17, _), (2, _), (1, _)]) ⟨rfl, rfl, rfl, trivial⟩ ?_
    refine W.cond rfl (fun hc17 => ?_) (fun hc17 => ?_)
    · skip
      refine sSeq ?_
      refine W.region ?_
      refine OpsW.det (det_zero bz112) rfl ?_
      refine OpsW.storeW112 rfl rfl (Upd.here) ?_
      refine sNext ?_
      refine W.keep (F' := [(2, _)]) ⟨rfl, trivial⟩ ?_
      refine sRet ?_
      exact done1 Tryd.results86 (rv_cellA ty112 rfl (List.Mem.head _) rfl) (congrArg encJ (jdbl_y hc12 hc17).symm)
    · skip
      refine sSkip ?_
      refine sSeq ?_
      refine W.draw mixed 8 [[], [0], [0, 1], [], [3], [0, 1, 2, 3, 4], [], [], [0, 1, 2, 3, 4, 5, 6, 7], [0, 1, 2, 3, 4, 5, 6, 7, 8]] (cl_lt (by decide)) ?_
      refine HeadR.start (cl_lt (by decide)) ?_
      refine HeadR.det rfl (fun β hβ => (det_fieldAddr fl112_0 rfl)) ?_
      refine HeadR.det rfl (fun β hβ => (det_loadA ty46 rfl (List.Mem.tail _ (List.Mem.head _)) rfl)) ?_
      refine HeadR.det rfl (fun β hβ => (det_call en26 rfl (fun w hb ho => Square_ok ho.blocks))) ?_
      refine HeadR.det rfl (fun β hβ => (det_fieldAddr fl112_1 rfl)) ?_
      refine HeadR.det rfl (fun β hβ => (det_loadA ty46 rfl (List.Mem.tail _ (List.Mem.head _)) rfl)) ?_
      refine HeadR.det rfl (fun β hβ => (det_call en26 rfl (fun w hb ho => Square_ok ho.blocks))) ?_
      refine HeadR.fresh rfl (fun β hβ => (fr_alloc z46r).new) ?_
      refine HeadR.fresh rfl (fun β hβ => (fr_alloc z46r).new) ?_
      refine HeadR.done ⟨by kernel_rfl, fun β hβ => ?_⟩
      refine OpsW.norm (F' := [(19, _), (20, _), (21, _), (22, _), (23, _), (24, _), (3, .pointer (some ⟨(β 3).1, 0, none⟩)), (4, .pointer (some ⟨(β 4).1, 0, none⟩)), (17, _), (2, _), (1, _)]) (H' := [(_, _), (_, _), (_, _), (_, _)]) rfl rfl ?_
      generalize (β 3).1 = b3
      generalize (β 4).1 = b4
      refine OpsW.storeW46 rfl rfl (Upd.here) ?_
      refine OpsW.storeW46 rfl rfl (Upd.there (Upd.here)) ?_
      refine sNext ?_
      refine W.keep (F' := [(3, _), (4, _), (2, _), (1, _)]) ⟨rfl, rfl, rfl, rfl, trivial⟩ ?_
      refine sSeq ?_
      refine W.region ?_
      refine OpsW.det (det_loadW46 rfl (List.Mem.tail _ (List.Mem.head _))) rfl ?_
      refine OpsW.det (det_call en26 rfl (fun w hb ho => Square_ok ho.blocks)) rfl ?_
      refine OpsW.fresh (fr_alloc z46r) rfl fun b5 => ?_
      refine OpsW.storeW46 rfl rfl (Upd.here) ?_
      refine sNext ?_
      refine W.keep (F' := [(5, _), (3, _), (4, _), (2, _), (1, _)]) ⟨rfl, rfl, rfl, rfl, rfl, trivial⟩ ?_
      refine sSeq ?_
      refine W.draw mixed 10 [[], [0], [], [0, 1, 2], [0, 1, 2, 3], [], [0, 1, 2, 3, 4, 5], [], [0, 1, 2, 3, 4, 5, 6, 7], [], [0, 1, 2, 3, 4, 5, 6, 7, 8, 9]] (cl_lt (by decide)) ?_
      refine HeadR.start (cl_lt (by decide)) ?_
      refine HeadR.det rfl (fun β hβ => (det_fieldAddr fl112_0 rfl)) ?_
      refine HeadR.det rfl (fun β hβ => (det_loadA ty46 rfl (List.Mem.tail _ (List.Mem.tail _ (List.Mem.tail _ (List.Mem.tail _ (List.Mem.head _))))) rfl)) ?_
      refine HeadR.det rfl (fun β hβ => (det_loadW46 rfl (List.Mem.tail _ (List.Mem.tail _ (List.Mem.head _))))) ?_
      refine HeadR.det rfl (fun β hβ => (det_call en28 rfl (fun w hb ho => Add_ok ho.blocks))) ?_
      refine HeadR.det rfl (fun β hβ => (det_call en26 rfl (fun w hb ho => Square_ok ho.blocks))) ?_
      refine HeadR.det rfl (fun β hβ => (det_loadW46 rfl (List.Mem.tail _ (List.Mem.head _)))) ?_
      refine HeadR.det rfl (fun β hβ => (det_call en95 rfl (fun w hb ho => Sub_ok ho.blocks))) ?_
      refine HeadR.det rfl (fun β hβ => (det_loadW46 rfl (List.Mem.head _))) ?_
      refine HeadR.det rfl (fun β hβ => (det_call en95 rfl (fun w hb ho => Sub_ok ho.blocks))) ?_
      refine HeadR.fresh rfl (fun β hβ => (fr_alloc z46r).new) ?_
      refine HeadR.done ⟨by kernel_rfl, fun β hβ => ?_⟩
      refine OpsW.norm (F' := [(27, _), (28, _), (29, _), (30, _), (31, _), (32, _), (33, _), (34, _), (35, _), (6, .pointer (some ⟨(β 6).1, 0, none⟩)), (5, _), (3, _), (4, _), (2, _), (1, _)]) (H' := [(_, _), (_, _), (_, _), (_, _), (_, _), (_, _)]) rfl rfl ?_
      generalize (β 6).1 = b6
      refine OpsW.storeW46 rfl rfl (Upd.here) ?_
      refine sNext ?_
      refine W.keep (F' := [(6, _), (5, _), (3, _), (2, _), (1, _)]) ⟨rfl, rfl, rfl, rfl, rfl, trivial⟩ ?_
      refine sSeq ?_
      refine W.region ?_
      refine OpsW.det (det_loadW46 rfl (List.Mem.head _)) rfl ?_
      refine OpsW.det (det_loadW46 rfl (List.Mem.head _)) rfl ?_
      refine OpsW.det (det_call en28 rfl (fun w hb ho => Add_ok ho.blocks)) rfl ?_
      refine OpsW.storeW46 rfl rfl (Upd.here) ?_
      refine sNext ?_
      refine W.keep (F' := [(6, _), (5, _), (3, _), (2, _), (1, _)]) ⟨rfl, rfl, rfl, rfl, rfl, trivial⟩ ?_
      refine sSeq ?_
      refine W.draw mixed 6 [[], [], [0, 1], [], [0, 1, 2, 3], [], [0, 1, 2, 3, 4, 5]] (cl_lt (by decide)) ?_
      refine HeadR.start (cl_lt (by decide)) ?_
      refine HeadR.det rfl (fun β hβ => (det_loadW46 rfl (List.Mem.tail _ (List.Mem.tail _ (List.Mem.head _))))) ?_
      refine HeadR.det rfl (fun β hβ => (det_loadW46 rfl (List.Mem.tail _ (List.Mem.tail _ (List.Mem.head _))))) ?_
      refine HeadR.det rfl (fun β hβ => (det_call en28 rfl (fun w hb ho => Add_ok ho.blocks))) ?_
      refine HeadR.det rfl (fun β hβ => (det_loadW46 rfl (List.Mem.tail _ (List.Mem.tail _ (List.Mem.head _))))) ?_
      refine HeadR.det rfl (fun β hβ => (det_call en28 rfl (fun w hb ho => Add_ok ho.blocks))) ?_
      refine HeadR.fresh rfl (fun β hβ => (fr_alloc z46r).new) ?_
      refine HeadR.done ⟨by kernel_rfl, fun β hβ => ?_⟩
      refine OpsW.norm (F' := [(39, _), (40, _), (41, _), (42, _), (43, _), (7, .pointer (some ⟨(β 7).1, 0, none⟩)), (6, _), (5, _), (3, _), (2, _), (1, _)]) (H' := [(_, _), (_, _), (_, _), (_, _), (_, _), (_, _), (_, _)]) rfl rfl ?_
      generalize (β 7).1 = b7
      refine OpsW.storeW46 rfl rfl (Upd.here) ?_
      refine sNext ?_
      refine W.keep (F' := [(7, _), (6, _), (5, _), (2, _), (1, _)]) ⟨rfl, rfl, rfl, rfl, rfl, trivial⟩ ?_
      refine sSeq ?_
      refine W.draw mixed 7 [[], [0], [], [0, 1, 2], [], [0, 1, 2, 3, 4], [], [0, 1, 2, 3, 4, 5, 6]] (cl_lt (by decide)) ?_
      refine HeadR.start (cl_lt (by decide)) ?_
      refine HeadR.det rfl (fun β hβ => (det_loadW46 rfl (List.Mem.head _))) ?_
      refine HeadR.det rfl (fun β hβ => (det_call en26 rfl (fun w hb ho => Square_ok ho.blocks))) ?_
      refine HeadR.det rfl (fun β hβ => (det_loadW46 rfl (List.Mem.tail _ (List.Mem.head _)))) ?_
      refine HeadR.det rfl (fun β hβ => (det_call en95 rfl (fun w hb ho => Sub_ok ho.blocks))) ?_
      refine HeadR.det rfl (fun β hβ => (det_loadW46 rfl (List.Mem.tail _ (List.Mem.head _)))) ?_
      refine HeadR.det rfl (fun β hβ => (det_call en95 rfl (fun w hb ho => Sub_ok ho.blocks))) ?_
      refine HeadR.fresh rfl (fun β hβ => (fr_alloc z46r).new) ?_
      refine HeadR.done ⟨by kernel_rfl, fun β hβ => ?_⟩
      refine OpsW.norm (F' := [(44, _), (45, _), (46, _), (47, _), (48, _), (49, _), (8, .pointer (some ⟨(β 8).1, 0, none⟩)), (7, _), (6, _), (5, _), (2, _), (1, _)]) (H' := [(_, _), (_, _), (_, _), (_, _), (_, _), (_, _), (_, _), (_, _)]) rfl rfl ?_
      generalize (β 8).1 = b8
      refine OpsW.storeW46 rfl rfl (Upd.here) ?_
      refine sNext ?_
      refine W.keep (F' := [(8, _), (7, _), (6, _), (5, _), (2, _), (1, _)]) ⟨rfl, rfl, rfl, rfl, rfl, rfl, trivial⟩ ?_
      refine sSeq ?_
      refine W.region ?_
      refine OpsW.det (det_loadW46 rfl (List.Mem.tail _ (List.Mem.tail _ (List.Mem.tail _ (List.Mem.head _))))) rfl ?_
      refine OpsW.det (det_loadW46 rfl (List.Mem.tail _ (List.Mem.tail _ (List.Mem.tail _ (List.Mem.head _))))) rfl ?_
      refine OpsW.det (det_call en28 rfl (fun w hb ho => Add_ok ho.blocks)) rfl ?_
      refine OpsW.storeW46 rfl rfl (Upd.there (Upd.there (Upd.there (Upd.here)))) ?_
      refine sNext ?_
      refine W.keep (F' := [(8, _), (7, _), (6, _), (5, _), (2, _), (1, _)]) ⟨rfl, rfl, rfl, rfl, rfl, rfl, trivial⟩ ?_
      refine sSeq ?_
      refine W.region ?_
      refine OpsW.det (det_loadW46 rfl (List.Mem.tail _ (List.Mem.tail _ (List.Mem.tail _ (List.Mem.head _))))) rfl ?_
      refine OpsW.det (det_loadW46 rfl (List.Mem.tail _ (List.Mem.tail _ (List.Mem.tail _ (List.Mem.head _))))) rfl ?_
      refine OpsW.det (det_call en28 rfl (fun w hb ho => Add_ok ho.blocks)) rfl ?_
      refine OpsW.storeW46 rfl rfl (Upd.there (Upd.there (Upd.there (Upd.here)))) ?_
      refine sNext ?_
      refine W.keep (F' := [(8, _), (7, _), (6, _), (5, _), (2, _), (1, _)]) ⟨rfl, rfl, rfl, rfl, rfl, rfl, trivial⟩ ?_
      refine sSeq ?_
      refine W.region ?_
      refine OpsW.det (det_fieldAddr fl112_1 rfl) rfl ?_
      refine OpsW.det (det_loadA ty46 rfl (List.Mem.tail _ (List.Mem.tail _ (List.Mem.tail _ (List.Mem.tail _ (List.Mem.tail _ (List.Mem.tail _ (List.Mem.tail _ (List.Mem.head _)))))))) rfl) rfl ?_
      refine OpsW.det (det_fieldAddr fl112_2 rfl) rfl ?_
      refine OpsW.det (det_loadA ty46 rfl (List.Mem.tail _ (List.Mem.tail _ (List.Mem.tail _ (List.Mem.tail _ (List.Mem.tail _ (List.Mem.tail _ (List.Mem.tail _ (List.Mem.head _)))))))) rfl) rfl ?_
      refine OpsW.det (det_call en27 rfl (fun w hb ho => Mul_ok ho.blocks)) rfl ?_
      refine OpsW.fresh (fr_alloc z46r) rfl fun b9 => ?_
      refine OpsW.storeW46 rfl rfl (Upd.here) ?_
      refine sNext ?_
      refine W.keep (F' := [(9, _), (8, _), (7, _), (6, _), (5, _), (2, _)]) ⟨rfl, rfl, rfl, rfl, rfl, rfl, trivial⟩ ?_
      refine sSeq ?_
      refine W.draw mixed 14 [[], [], [], [], [2, 3], [1, 2, 3, 4], [], [1, 2, 3, 4, 5, 6], [], [1, 2, 3, 4, 5, 6, 7, 8], [], [], [1, 2, 3, 4, 5, 6, 7, 8, 9, 10, 11], [0, 1, 2, 3, 4, 5, 6, 7, 8, 9, 10, 11, 12], [0, 1, 2, 3, 4, 5, 6, 7, 8, 9, 10, 11, 12, 13]] (cl_lt (by decide)) ?_
      refine HeadR.start (cl_lt (by decide)) ?_
      refine HeadR.det rfl (fun β hβ => (det_loadW46 rfl (List.Mem.tail _ (List.Mem.head _)))) ?_
      refine HeadR.det rfl (fun β hβ => (det_loadW46 rfl (List.Mem.tail _ (List.Mem.tail _ (List.Mem.head _))))) ?_
      refine HeadR.det rfl (fun β hβ => (det_loadW46 rfl (List.Mem.tail _ (List.Mem.tail _ (List.Mem.tail _ (List.Mem.head _)))))) ?_
      refine HeadR.det rfl (fun β hβ => (det_loadW46 rfl (List.Mem.tail _ (List.Mem.head _)))) ?_
      refine HeadR.det rfl (fun β hβ => (det_call en95 rfl (fun w hb ho => Sub_ok ho.blocks))) ?_
      refine HeadR.det rfl (fun β hβ => (det_call en27 rfl (fun w hb ho => Mul_ok ho.blocks))) ?_
      refine HeadR.det rfl (fun β hβ => (det_loadW46 rfl (List.Mem.tail _ (List.Mem.tail _ (List.Mem.tail _ (List.Mem.tail _ (List.Mem.head _))))))) ?_
      refine HeadR.det rfl (fun β hβ => (det_call en95 rfl (fun w hb ho => Sub_ok ho.blocks))) ?_
      refine HeadR.det rfl (fun β hβ => (det_loadW46 rfl (List.Mem.tail _ (List.Mem.tail _ (List.Mem.tail _ (List.Mem.tail _ (List.Mem.head _))))))) ?_
      refine HeadR.det rfl (fun β hβ => (det_call en95 rfl (fun w hb ho => Sub_ok ho.blocks))) ?_
      refine HeadR.det rfl (fun β hβ => (det_loadW46 rfl (List.Mem.head _))) ?_
      refine HeadR.det rfl (fun β hβ => (det_loadW46 rfl (List.Mem.head _))) ?_
      refine HeadR.det rfl (fun β hβ => (det_call en28 rfl (fun w hb ho => Add_ok ho.blocks))) ?_
      refine HeadR.det rfl (fun β hβ => (det_build rfl bld112)) ?_
      refine HeadR.done ⟨by kernel_rfl, fun β hβ => ?_⟩
      refine OpsW.norm (F' := [(61, _), (62, _), (63, _), (64, _), (65, _), (66, _), (67, _), (68, _), (69, _), (70, _), (71, _), (72, _), (73, _), (74, _), (9, _), (8, _), (7, _), (6, _), (5, _), (2, _)]) (H' := [(_, _), (_, _), (_, _), (_, _), (_, _), (_, _), (_, _), (_, _), (_, _)]) rfl rfl ?_
      refine OpsW.storeW112 rfl rfl (Upd.there (Upd.there (Upd.there (Upd.there (Upd.there (Upd.there (Upd.there (Upd.here)))))))) ?_
      refine sNext ?_
      refine W.keep (F' := [(2, _)]) ⟨rfl, trivial⟩ ?_
      refine sRet ?_
      exact done1 Tryd.results86 (rv_cellA ty112 rfl (List.Mem.tail _ (List.Mem.tail _ (List.Mem.tail _ (List.Mem.tail _ (List.Mem.tail _ (List.Mem.tail _ (List.Mem.tail _ (List.Mem.head _)))))))) rfl) (congrArg encJ (jdbl_no hc12 hc17).symm)
theorem point_ok {p : Jac} {w : World} (hG : Blocks (GH T) w)  : Vm.Pure Tryd.prog 88 #[encJ p] w (encP (point p)) := by
  refine pure_of_W (n := 25) (args := [encJ p]) Tryd.func88 rfl Tryd.ntmps88 (Nat.le_of_ble_eq_true rfl) hG ?_
  refine sStart ?_
  refine sSeq ?_
  refine W.region ?_
  refine OpsW.fresh (fr_boxW112 rfl) rfl fun b1 => ?_
  refine OpsW.fresh (fr_alloc z48r) rfl fun b2 => ?_
  refine sNext ?_
  refine W.keep (F' := [(2, _), (1, _)]) ⟨rfl, rfl, trivial⟩ ?_
  refine sSeq ?_
  refine sSeq ?_
  refine W.region ?_
  refine OpsW.det (det_fieldAddr fl112_2 rfl) rfl ?_
  refine OpsW.det (det_loadA ty46 rfl (List.Mem.tail _ (List.Mem.head _)) rfl) rfl ?_
  refine OpsW.det (det_call en94 rfl (fun w hb ho => Zero_ok ho.blocks)) rfl ?_
  refine sNext ?_
  refine W.keep (F' := [(7, _), (2, _), (1, _)]) ⟨rfl, rfl, rfl, trivial⟩ ?_
  refine W.cond rfl (fun hc7 => ?_) (fun hc7 => ?_)
  · skip
    refine sSeq ?_
    refine W.region ?_
    refine OpsW.det (det_zero bz48) rfl ?_
    refine OpsW.storeW48 rfl rfl (Upd.here) ?_
    refine sNext ?_
    refine W.keep (F' := [(2, _)]) ⟨rfl, trivial⟩ ?_
    refine sRet ?_
    exact done1 Tryd.results88 (rv_cellA ty48 rfl (List.Mem.head _) rfl) (congrArg encP (point_yes hc7).symm)
  · skip
    refine sSkip ?_
    refine sSeq ?_
    refine W.region ?_
    refine OpsW.det (det_fieldAddr fl112_2 rfl) rfl ?_
    refine OpsW.det (det_loadA ty46 rfl (List.Mem.tail _ (List.Mem.head _)) rfl) rfl ?_
    refine OpsW.det (det_call en97 rfl (fun w hb ho => Inv_ok ho.blocks)) rfl ?_
    refine OpsW.fresh (fr_alloc z46r) rfl fun b3 => ?_
    refine OpsW.storeW46 rfl rfl (Upd.here) ?_
    refine sNext ?_
    refine W.keep (F' := [(3, _), (2, _), (1, _)]) ⟨rfl, rfl, rfl, trivial⟩ ?_
    refine sSeq ?_
    refine W.region ?_
    refine OpsW.det (det_loadW46 rfl (List.Mem.head _)) rfl ?_
    refine OpsW.det (det_call en26 rfl (fun w hb ho => Square_ok ho.blocks)) rfl ?_
    refine OpsW.fresh (fr_alloc z46r) rfl fun b4 => ?_
    refine OpsW.storeW46 rfl rfl (Upd.here) ?_
    refine sNext ?_
    refine W.keep (F' := [(4, _), (3, _), (2, _), (1, _)]) ⟨rfl, rfl, rfl, rfl, trivial⟩ ?_
    refine sSeq ?_
    refine W.draw mixed 11 [[], [0], [], [0, 1, 2], [], [4], [], [0, 1, 2, 3, 4, 5, 6], [], [0, 1, 2, 3, 4, 5, 6, 7, 8], [0, 1, 2, 3, 4, 5, 6, 7, 8, 9], [0, 1, 2, 3, 4, 5, 6, 7, 8, 9, 10]] (cl_lt (by decide)) ?_
    refine HeadR.start (cl_lt (by decide)) ?_
    refine HeadR.det rfl (fun β hβ => (det_fieldAddr fl112_0 rfl)) ?_
    refine HeadR.det rfl (fun β hβ => (det_loadA ty46 rfl (List.Mem.tail _ (List.Mem.tail _ (List.Mem.tail _ (List.Mem.head _)))) rfl)) ?_
    refine HeadR.det rfl (fun β hβ => (det_loadW46 rfl (List.Mem.head _))) ?_
    refine HeadR.det rfl (fun β hβ => (det_call en27 rfl (fun w hb ho => Mul_ok ho.blocks))) ?_
    refine HeadR.det rfl (fun β hβ => (det_fieldAddr fl112_1 rfl)) ?_
    refine HeadR.det rfl (fun β hβ => (det_loadA ty46 rfl (List.Mem.tail _ (List.Mem.tail _ (List.Mem.tail _ (List.Mem.head _)))) rfl)) ?_
    refine HeadR.det rfl (fun β hβ => (det_loadW46 rfl (List.Mem.head _))) ?_
    refine HeadR.det rfl (fun β hβ => (det_call en27 rfl (fun w hb ho => Mul_ok ho.blocks))) ?_
    refine HeadR.det rfl (fun β hβ => (det_loadW46 rfl (List.Mem.tail _ (List.Mem.head _)))) ?_
    refine HeadR.det rfl (fun β hβ => (det_call en27 rfl (fun w hb ho => Mul_ok ho.blocks))) ?_
    refine HeadR.det rfl (fun β hβ => (det_build rfl bld48)) ?_
    refine HeadR.done ⟨by kernel_rfl, fun β hβ => ?_⟩
    refine OpsW.norm (F' := [(14, _), (15, _), (16, _), (17, _), (18, _), (19, _), (20, _), (21, _), (22, _), (23, _), (24, _), (4, _), (3, _), (2, _), (1, _)]) (H' := [(_, _), (_, _), (_, _), (_, _)]) rfl rfl ?_
    refine OpsW.storeW48 rfl rfl (Upd.there (Upd.there (Upd.here))) ?_
    refine sNext ?_
    refine W.keep (F' := [(2, _)]) ⟨rfl, trivial⟩ ?_
    refine sRet ?_
    exact done1 Tryd.results88 (rv_cellA ty48 rfl (List.Mem.tail _ (List.Mem.tail _ (List.Mem.head _))) rfl) (congrArg encP (point_no hc7).symm)
theorem jadd_ok {p : Jac} {q : Pt} {w : World} (hG : Blocks (GH T) w)  : Vm.Pure Tryd.prog 87 #[encJ p, encP q] w (encJ (jadd p q)) := by
  refine pure_of_W (n := 100) (args := [encJ p, encP q]) Tryd.func87 rfl Tryd.ntmps87 (Nat.le_of_ble_eq_true rfl) hG ?_
  refine sStart ?_
  refine sSeq ?_
  refine W.region ?_
  refine OpsW.fresh (fr_boxW112 rfl) rfl fun b2 => ?_
  refine OpsW.fresh (fr_boxW48 rfl) rfl fun b3 => ?_
  refine OpsW.fresh (fr_alloc z112r) rfl fun b4 => ?_
  refine sNext ?_
  refine W.keep (F' := [(4, _), (3, _), (2, _)]) ⟨rfl, rfl, rfl, trivial⟩ ?_
  refine sSeq ?_
  refine sSeq ?_
  refine W.region ?_
  refine OpsW.det (det_loadW48 rfl (List.Mem.tail _ (List.Mem.head _))) rfl ?_
  refine OpsW.det (det_zero bz48) rfl ?_
  refine OpsW.det (det_eql48 rfl rfl) rfl ?_
  refine sNext ?_
  refine W.keep (F' := [(16, _), (4, _), (3, _), (2, _)]) ⟨rfl, rfl, rfl, rfl, trivial⟩ ?_
  refine W.cond rfl (fun hc16 => ?_) (fun hc16 => ?_)
  · skip
    refine sSeq ?_
    refine W.region ?_
    refine OpsW.det (det_loadW112 rfl (List.Mem.tail _ (List.Mem.tail _ (List.Mem.head _)))) rfl ?_
    refine OpsW.storeW112 rfl rfl (Upd.here) ?_
    refine sNext ?_
    refine W.keep (F' := [(4, _)]) ⟨rfl, trivial⟩ ?_
    refine sRet ?_
    exact done1 Tryd.results87 (rv_cellA ty112 rfl (List.Mem.head _) rfl) (congrArg encJ (jadd_q hc16).symm)
  · skip
    refine sSkip ?_
    refine sSeq ?_
    refine sSeq ?_
    refine W.region ?_
    refine OpsW.det (det_fieldAddr fl112_2 rfl) rfl ?_
    refine OpsW.det (det_loadA ty46 rfl (List.Mem.tail _ (List.Mem.tail _ (List.Mem.head _))) rfl) rfl ?_
    refine OpsW.det (det_call en94 rfl (fun w hb ho => Zero_ok ho.blocks)) rfl ?_
    refine sNext ?_
    refine W.keep (F' := [(20, _), (4, _), (3, _), (2, _)]) ⟨rfl, rfl, rfl, rfl, trivial⟩ ?_
    refine W.cond rfl (fun hc20 => ?_) (fun hc20 => ?_)
    · skip
      refine sSeq ?_
      refine W.region ?_
      refine OpsW.det (det_loadW48 rfl (List.Mem.tail _ (List.Mem.head _))) rfl ?_
      refine OpsW.det (det_call en96 rfl (fun w hb ho => tojac_ok ho.blocks)) rfl ?_
      refine OpsW.storeW112 rfl rfl (Upd.here) ?_
      refine sNext ?_
      refine W.keep (F' := [(4, _)]) ⟨rfl, trivial⟩ ?_
      refine sRet ?_
      exact done1 Tryd.results87 (rv_cellA ty112 rfl (List.Mem.head _) rfl) (congrArg encJ (jadd_p hc16 hc20).symm)
    · skip
      refine sSkip ?_
      refine sSeq ?_
      refine W.region ?_
      refine OpsW.det (det_fieldAddr fl112_2 rfl) rfl ?_
      refine OpsW.det (det_loadA ty46 rfl (List.Mem.tail _ (List.Mem.tail _ (List.Mem.head _))) rfl) rfl ?_
      refine OpsW.det (det_call en26 rfl (fun w hb ho => Square_ok ho.blocks)) rfl ?_
      refine OpsW.fresh (fr_alloc z46r) rfl fun b5 => ?_
      refine OpsW.storeW46 rfl rfl (Upd.here) ?_
      refine sNext ?_
      refine W.keep (F' := [(5, _), (4, _), (3, _), (2, _)]) ⟨rfl, rfl, rfl, rfl, trivial⟩ ?_
      refine sSeq ?_
      refine W.draw mixed 8 [[], [0], [], [0, 1, 2], [], [4], [0, 1, 2, 3, 4, 5], [], [0, 1, 2, 3, 4, 5, 6, 7]] (cl_lt (by decide)) ?_
      refine HeadR.start (cl_lt (by decide)) ?_
      refine HeadR.det rfl (fun β hβ => (det_fieldAddr fl48_0 rfl)) ?_
      refine HeadR.det rfl (fun β hβ => (det_loadA ty46 rfl (List.Mem.tail _ (List.Mem.tail _ (List.Mem.head _))) rfl)) ?_
      refine HeadR.det rfl (fun β hβ => (det_loadW46 rfl (List.Mem.head _))) ?_
      refine HeadR.det rfl (fun β hβ => (det_call en27 rfl (fun w hb ho => Mul_ok ho.blocks))) ?_
      refine HeadR.det rfl (fun β hβ => (det_fieldAddr fl112_0 rfl)) ?_
      refine HeadR.det rfl (fun β hβ => (det_loadA ty46 rfl (List.Mem.tail _ (List.Mem.tail _ (List.Mem.tail _ (List.Mem.head _)))) rfl)) ?_
      refine HeadR.det rfl (fun β hβ => (det_call en95 rfl (fun w hb ho => Sub_ok ho.blocks))) ?_
      refine HeadR.fresh rfl (fun β hβ => (fr_alloc z46r).new) ?_
      refine HeadR.done ⟨by kernel_rfl, fun β hβ => ?_⟩
      refine OpsW.norm (F' := [(26, _), (27, _), (28, _), (29, _), (30, _), (31, _), (32, _), (6, .pointer (some ⟨(β 6).1, 0, none⟩)), (5, _), (4, _), (3, _), (2, _)]) (H' := [(_, _), (_, _), (_, _), (_, _), (_, _)]) rfl rfl ?_
      generalize (β 6).1 = b6
      refine OpsW.storeW46 rfl rfl (Upd.here) ?_
      refine sNext ?_
      refine W.keep (F' := [(6, _), (5, _), (4, _), (3, _), (2, _)]) ⟨rfl, rfl, rfl, rfl, rfl, trivial⟩ ?_
      refine sSeq ?_
      refine W.draw mixed 11 [[], [0], [], [2], [0, 1, 2, 3], [], [0, 1, 2, 3, 4, 5], [], [7], [0, 1, 2, 3, 4, 5, 6, 7, 8], [], [0, 1, 2, 3, 4, 5, 6, 7, 8, 9, 10]] (cl_lt (by decide)) ?_
      refine HeadR.start (cl_lt (by decide)) ?_
      refine HeadR.det rfl (fun β hβ => (det_fieldAddr fl48_1 rfl)) ?_
      refine HeadR.det rfl (fun β hβ => (det_loadA ty46 rfl (List.Mem.tail _ (List.Mem.tail _ (List.Mem.tail _ (List.Mem.head _)))) rfl)) ?_
      refine HeadR.det rfl (fun β hβ => (det_fieldAddr fl112_2 rfl)) ?_
      refine HeadR.det rfl (fun β hβ => (det_loadA ty46 rfl (List.Mem.tail _ (List.Mem.tail _ (List.Mem.tail _ (List.Mem.tail _ (List.Mem.head _))))) rfl)) ?_
      refine HeadR.det rfl (fun β hβ => (det_call en27 rfl (fun w hb ho => Mul_ok ho.blocks))) ?_
      refine HeadR.det rfl (fun β hβ => (det_loadW46 rfl (List.Mem.tail _ (List.Mem.head _)))) ?_
      refine HeadR.det rfl (fun β hβ => (det_call en27 rfl (fun w hb ho => Mul_ok ho.blocks))) ?_
      refine HeadR.det rfl (fun β hβ => (det_fieldAddr fl112_1 rfl)) ?_
      refine HeadR.det rfl (fun β hβ => (det_loadA ty46 rfl (List.Mem.tail _ (List.Mem.tail _ (List.Mem.tail _ (List.Mem.tail _ (List.Mem.head _))))) rfl)) ?_
      refine HeadR.det rfl (fun β hβ => (det_call en95 rfl (fun w hb ho => Sub_ok ho.blocks))) ?_
      refine HeadR.fresh rfl (fun β hβ => (fr_alloc z46r).new) ?_
      refine HeadR.done ⟨by kernel_rfl, fun β hβ => ?_⟩
      refine OpsW.norm (F' := [(33, _), (34, _), (35, _), (36, _), (37, _), (38, _), (39, _), (40, _), (41, _), (42, _), (7, .pointer (some ⟨(β 7).1, 0, none⟩)), (6, _), (5, _), (4, _), (3, _), (2, _)]) (H' := [(_, _), (_, _), (_, _), (_, _), (_, _), (_, _)]) rfl rfl ?_
      generalize (β 7).1 = b7
      refine OpsW.storeW46 rfl rfl (Upd.here) ?_
      refine sNext ?_
      refine W.keep (F' := [(7, _), (6, _), (5, _), (4, _), (2, _)]) ⟨rfl, rfl, rfl, rfl, rfl, trivial⟩ ?_
      refine sSeq ?_
      refine sSeq ?_
      refine W.region ?_
      refine OpsW.det (det_loadW46 rfl (List.Mem.tail _ (List.Mem.head _))) rfl ?_
      refine OpsW.det (det_call en94 rfl (fun w hb ho => Zero_ok ho.blocks)) rfl ?_
      refine sNext ?_
      refine W.keep (F' := [(44, _), (7, _), (6, _), (5, _), (4, _), (2, _)]) ⟨rfl, rfl, rfl, rfl, rfl, rfl, trivial⟩ ?_
      refine W.cond rfl (fun hc44 => ?_) (fun hc44 => ?_)
      · skip
        refine sSeq ?_
        refine sSeq ?_
        refine W.region ?_
        refine OpsW.det (det_loadW46 rfl (List.Mem.head _)) rfl ?_
        refine OpsW.det (det_call en94 rfl (fun w hb ho => Zero_ok ho.blocks)) rfl ?_
        refine sNext ?_
        refine W.keep (F' := [(46, _), (4, _), (2, _)]) ⟨rfl, rfl, rfl, trivial⟩ ?_
        refine W.cond rfl (fun hc46 => ?_) (fun hc46 => ?_)
        · skip
          refine sSeq ?_
          refine W.region ?_
          refine OpsW.det (det_loadW112 rfl (List.Mem.tail _ (List.Mem.tail _ (List.Mem.tail _ (List.Mem.tail _ (List.Mem.tail _ (List.Mem.head _))))))) rfl ?_
          refine OpsW.det (det_call en86 rfl (fun w hb ho => jdbl_ok ho.blocks)) rfl ?_
          refine OpsW.storeW112 rfl rfl (Upd.there (Upd.there (Upd.there (Upd.here)))) ?_
          refine sNext ?_
          refine W.keep (F' := [(4, _)]) ⟨rfl, trivial⟩ ?_
          refine sRet ?_
          exact done1 Tryd.results87 (rv_cellA ty112 rfl (List.Mem.tail _ (List.Mem.tail _ (List.Mem.tail _ (List.Mem.head _)))) rfl) (congrArg encJ (jadd_d hc16 hc20 hc44 hc46).symm)
        · skip
          refine sSkip ?_
          refine sSeq ?_
          refine W.region ?_
          refine OpsW.det (det_zero bz112) rfl ?_
          refine OpsW.storeW112 rfl rfl (Upd.there (Upd.there (Upd.there (Upd.here)))) ?_
          refine sNext ?_
          refine W.keep (F' := [(4, _)]) ⟨rfl, trivial⟩ ?_
          refine sRet ?_
          exact done1 Tryd.results87 (rv_cellA ty112 rfl (List.Mem.tail _ (List.Mem.tail _ (List.Mem.tail _ (List.Mem.head _)))) rfl) (congrArg encJ (jadd_o hc16 hc20 hc44 hc46).symm)
      · skip
        refine sSkip ?_
        refine sSeq ?_
        refine W.region ?_
        refine OpsW.det (det_loadW46 rfl (List.Mem.head _)) rfl ?_
        refine OpsW.det (det_loadW46 rfl (List.Mem.head _)) rfl ?_
        refine OpsW.det (det_call en28 rfl (fun w hb ho => Add_ok ho.blocks)) rfl ?_
        refine OpsW.storeW46 rfl rfl (Upd.here) ?_
        refine sNext ?_
        refine W.keep (F' := [(7, _), (6, _), (5, _), (4, _), (2, _)]) ⟨rfl, rfl, rfl, rfl, rfl, trivial⟩ ?_
        refine sSeq ?_
        refine W.region ?_
        refine OpsW.det (det_loadW46 rfl (List.Mem.tail _ (List.Mem.head _))) rfl ?_
        refine OpsW.det (det_call en26 rfl (fun w hb ho => Square_ok ho.blocks)) rfl ?_
        refine OpsW.fresh (fr_alloc z46r) rfl fun b8 => ?_
        refine OpsW.storeW46 rfl rfl (Upd.here) ?_
        refine sNext ?_
        refine W.keep (F' := [(8, _), (7, _), (6, _), (5, _), (4, _), (2, _)]) ⟨rfl, rfl, rfl, rfl, rfl, rfl, trivial⟩ ?_
        refine sSeq ?_
        refine W.region ?_
        refine OpsW.det (det_loadW46 rfl (List.Mem.head _)) rfl ?_
        refine OpsW.det (det_loadW46 rfl (List.Mem.head _)) rfl ?_
        refine OpsW.det (det_call en28 rfl (fun w hb ho => Add_ok ho.blocks)) rfl ?_
        refine OpsW.fresh (fr_alloc z46r) rfl fun b9 => ?_
        refine OpsW.storeW46 rfl rfl (Upd.here) ?_
        refine sNext ?_
        refine W.keep (F' := [(9, _), (8, _), (7, _), (6, _), (5, _), (4, _), (2, _)]) ⟨rfl, rfl, rfl, rfl, rfl, rfl, rfl, trivial⟩ ?_
        refine sSeq ?_
        refine W.region ?_
        refine OpsW.det (det_loadW46 rfl (List.Mem.head _)) rfl ?_
        refine OpsW.det (det_loadW46 rfl (List.Mem.head _)) rfl ?_
        refine OpsW.det (det_call en28 rfl (fun w hb ho => Add_ok ho.blocks)) rfl ?_
        refine OpsW.storeW46 rfl rfl (Upd.here) ?_
        refine sNext ?_
        refine W.keep (F' := [(9, _), (8, _), (7, _), (6, _), (5, _), (4, _), (2, _)]) ⟨rfl, rfl, rfl, rfl, rfl, rfl, rfl, trivial⟩ ?_
        refine sSeq ?_
        refine W.draw mixed 9 [[], [], [0, 1], [], [3], [], [0, 1, 2, 3, 4, 5], [], [], [0, 1, 2, 3, 4, 5, 6, 7, 8], [0, 1, 2, 3, 4, 5, 6, 7, 8, 9]] (cl_lt (by decide)) ?_
        refine HeadR.start (cl_lt (by decide)) ?_
        refine HeadR.det rfl (fun β hβ => (det_loadW46 rfl (List.Mem.tail _ (List.Mem.tail _ (List.Mem.tail _ (List.Mem.head _)))))) ?_
        refine HeadR.det rfl (fun β hβ => (det_loadW46 rfl (List.Mem.head _))) ?_
        refine HeadR.det rfl (fun β hβ => (det_call en27 rfl (fun w hb ho => Mul_ok ho.blocks))) ?_
        refine HeadR.det rfl (fun β hβ => (det_fieldAddr fl112_0 rfl)) ?_
        refine HeadR.det rfl (fun β hβ => (det_loadA ty46 rfl (List.Mem.tail _ (List.Mem.tail _ (List.Mem.tail _ (List.Mem.tail _ (List.Mem.tail _ (List.Mem.tail _ (List.Mem.tail _ (List.Mem.head _)))))))) rfl)) ?_
        refine HeadR.det rfl (fun β hβ => (det_loadW46 rfl (List.Mem.head _))) ?_
        refine HeadR.det rfl (fun β hβ => (det_call en27 rfl (fun w hb ho => Mul_ok ho.blocks))) ?_
        refine HeadR.fresh rfl (fun β hβ => (fr_alloc z46r).new) ?_
        refine HeadR.fresh rfl (fun β hβ => (fr_alloc z46r).new) ?_
        refine HeadR.done ⟨by kernel_rfl, fun β hβ => ?_⟩
        refine OpsW.norm (F' := [(61, _), (62, _), (63, _), (64, _), (65, _), (66, _), (67, _), (10, .pointer (some ⟨(β 10).1, 0, none⟩)), (11, .pointer (some ⟨(β 11).1, 0, none⟩)), (9, _), (8, _), (7, _), (6, _), (5, _), (4, _), (2, _)]) (H' := [(_, _), (_, _), (_, _), (_, _), (_, _), (_, _), (_, _), (_, _), (_, _), (_, _)]) rfl rfl ?_
        generalize (β 10).1 = b10
        generalize (β 11).1 = b11
        refine OpsW.storeW46 rfl rfl (Upd.here) ?_
        refine OpsW.storeW46 rfl rfl (Upd.there (Upd.here)) ?_
        refine sNext ?_
        refine W.keep (F' := [(10, _), (11, _), (8, _), (7, _), (6, _), (5, _), (4, _), (2, _)]) ⟨rfl, rfl, rfl, rfl, rfl, rfl, rfl, rfl, trivial⟩ ?_
        refine sSeq ?_
        refine W.draw mixed 9 [[], [0], [], [0, 1, 2], [], [0, 1, 2, 3, 4], [], [0, 1, 2, 3, 4, 5, 6], [], [0, 1, 2, 3, 4, 5, 6, 7, 8]] (cl_lt (by decide)) ?_
        refine HeadR.start (cl_lt (by decide)) ?_
        refine HeadR.det rfl (fun β hβ => (det_loadW46 rfl (List.Mem.tail _ (List.Mem.tail _ (List.Mem.tail _ (List.Mem.tail _ (List.Mem.head _))))))) ?_
        refine HeadR.det rfl (fun β hβ => (det_call en26 rfl (fun w hb ho => Square_ok ho.blocks))) ?_
        refine HeadR.det rfl (fun β hβ => (det_loadW46 rfl (List.Mem.head _))) ?_
        refine HeadR.det rfl (fun β hβ => (det_call en95 rfl (fun w hb ho => Sub_ok ho.blocks))) ?_
        refine HeadR.det rfl (fun β hβ => (det_loadW46 rfl (List.Mem.tail _ (List.Mem.head _)))) ?_
        refine HeadR.det rfl (fun β hβ => (det_call en95 rfl (fun w hb ho => Sub_ok ho.blocks))) ?_
        refine HeadR.det rfl (fun β hβ => (det_loadW46 rfl (List.Mem.tail _ (List.Mem.head _)))) ?_
        refine HeadR.det rfl (fun β hβ => (det_call en95 rfl (fun w hb ho => Sub_ok ho.blocks))) ?_
        refine HeadR.fresh rfl (fun β hβ => (fr_alloc z46r).new) ?_
        refine HeadR.done ⟨by kernel_rfl, fun β hβ => ?_⟩
        refine OpsW.norm (F' := [(68, _), (69, _), (70, _), (71, _), (72, _), (73, _), (74, _), (75, _), (12, .pointer (some ⟨(β 12).1, 0, none⟩)), (10, _), (11, _), (8, _), (7, _), (6, _), (5, _), (4, _), (2, _)]) (H' := [(_, _), (_, _), (_, _), (_, _), (_, _), (_, _), (_, _), (_, _), (_, _), (_, _), (_, _)]) rfl rfl ?_
        generalize (β 12).1 = b12
        refine OpsW.storeW46 rfl rfl (Upd.here) ?_
        refine sNext ?_
        refine W.keep (F' := [(12, _), (10, _), (11, _), (8, _), (7, _), (6, _), (5, _), (4, _), (2, _)]) ⟨rfl, rfl, rfl, rfl, rfl, rfl, rfl, rfl, rfl, trivial⟩ ?_
        refine sSeq ?_
        refine W.region ?_
        refine OpsW.det (det_fieldAddr fl112_1 rfl) rfl ?_
        refine OpsW.det (det_loadA ty46 rfl (List.Mem.tail _ (List.Mem.tail _ (List.Mem.tail _ (List.Mem.tail _ (List.Mem.tail _ (List.Mem.tail _ (List.Mem.tail _ (List.Mem.tail _ (List.Mem.tail _ (List.Mem.tail _ (List.Mem.head _))))))))))) rfl) rfl ?_
        refine OpsW.det (det_loadW46 rfl (List.Mem.tail _ (List.Mem.head _))) rfl ?_
        refine OpsW.det (det_call en27 rfl (fun w hb ho => Mul_ok ho.blocks)) rfl ?_
        refine OpsW.fresh (fr_alloc z46r) rfl fun b13 => ?_
        refine OpsW.storeW46 rfl rfl (Upd.here) ?_
        refine sNext ?_
        refine W.keep (F' := [(13, _), (12, _), (11, _), (8, _), (7, _), (6, _), (5, _), (4, _), (2, _)]) ⟨rfl, rfl, rfl, rfl, rfl, rfl, rfl, rfl, rfl, trivial⟩ ?_
        refine sSeq ?_
        refine W.draw mixed 20 [[], [], [], [], [2, 3], [1, 2, 3, 4], [], [1, 2, 3, 4, 5, 6], [], [1, 2, 3, 4, 5, 6, 7, 8], [], [10], [], [1, 2, 3, 4, 5, 6, 7, 8, 9, 10, 11, 12], [1, 2, 3, 4, 5, 6, 7, 8, 9, 10, 11, 12, 13], [], [1, 2, 3, 4, 5, 6, 7, 8, 9, 10, 11, 12, 13, 14, 15], [], [1, 2, 3, 4, 5, 6, 7, 8, 9, 10, 11, 12, 13, 14, 15, 16, 17], [0, 1, 2, 3, 4, 5, 6, 7, 8, 9, 10, 11, 12, 13, 14, 15, 16, 17, 18], [0, 1, 2, 3, 4, 5, 6, 7, 8, 9, 10, 11, 12, 13, 14, 15, 16, 17, 18, 19]] (cl_lt (by decide)) ?_
        refine HeadR.start (cl_lt (by decide)) ?_
        refine HeadR.det rfl (fun β hβ => (det_loadW46 rfl (List.Mem.tail _ (List.Mem.head _)))) ?_
        refine HeadR.det rfl (fun β hβ => (det_loadW46 rfl (List.Mem.tail _ (List.Mem.tail _ (List.Mem.tail _ (List.Mem.tail _ (List.Mem.tail _ (List.Mem.tail _ (List.Mem.head _))))))))) ?_
        refine HeadR.det rfl (fun β hβ => (det_loadW46 rfl (List.Mem.tail _ (List.Mem.tail _ (List.Mem.tail _ (List.Mem.head _)))))) ?_
        refine HeadR.det rfl (fun β hβ => (det_loadW46 rfl (List.Mem.tail _ (List.Mem.head _)))) ?_
        refine HeadR.det rfl (fun β hβ => (det_call en95 rfl (fun w hb ho => Sub_ok ho.blocks))) ?_
        refine HeadR.det rfl (fun β hβ => (det_call en27 rfl (fun w hb ho => Mul_ok ho.blocks))) ?_
        refine HeadR.det rfl (fun β hβ => (det_loadW46 rfl (List.Mem.head _))) ?_
        refine HeadR.det rfl (fun β hβ => (det_call en95 rfl (fun w hb ho => Sub_ok ho.blocks))) ?_
        refine HeadR.det rfl (fun β hβ => (det_loadW46 rfl (List.Mem.head _))) ?_
        refine HeadR.det rfl (fun β hβ => (det_call en95 rfl (fun w hb ho => Sub_ok ho.blocks))) ?_
        refine HeadR.det rfl (fun β hβ => (det_fieldAddr fl112_2 rfl)) ?_
        refine HeadR.det rfl (fun β hβ => (det_loadA ty46 rfl (List.Mem.tail _ (List.Mem.tail _ (List.Mem.tail _ (List.Mem.tail _ (List.Mem.tail _ (List.Mem.tail _ (List.Mem.tail _ (List.Mem.tail _ (List.Mem.tail _ (List.Mem.tail _ (List.Mem.tail _ (List.Mem.head _)))))))))))) rfl)) ?_
        refine HeadR.det rfl (fun β hβ => (det_loadW46 rfl (List.Mem.tail _ (List.Mem.tail _ (List.Mem.tail _ (List.Mem.tail _ (List.Mem.tail _ (List.Mem.tail _ (List.Mem.tail _ (List.Mem.head _)))))))))) ?_
        refine HeadR.det rfl (fun β hβ => (det_call en28 rfl (fun w hb ho => Add_ok ho.blocks))) ?_
        refine HeadR.det rfl (fun β hβ => (det_call en26 rfl (fun w hb ho => Square_ok ho.blocks))) ?_
        refine HeadR.det rfl (fun β hβ => (det_loadW46 rfl (List.Mem.tail _ (List.Mem.tail _ (List.Mem.tail _ (List.Mem.tail _ (List.Mem.tail _ (List.Mem.tail _ (List.Mem.tail _ (List.Mem.tail _ (List.Mem.head _))))))))))) ?_
        refine HeadR.det rfl (fun β hβ => (det_call en95 rfl (fun w hb ho => Sub_ok ho.blocks))) ?_
        refine HeadR.det rfl (fun β hβ => (det_loadW46 rfl (List.Mem.tail _ (List.Mem.tail _ (List.Mem.tail _ (List.Mem.tail _ (List.Mem.tail _ (List.Mem.head _)))))))) ?_
        refine HeadR.det rfl (fun β hβ => (det_call en95 rfl (fun w hb ho => Sub_ok ho.blocks))) ?_
        refine HeadR.det rfl (fun β hβ => (det_build rfl bld112)) ?_
        refine HeadR.done ⟨by kernel_rfl, fun β hβ => ?_⟩
        refine OpsW.norm (F' := [(80, _), (81, _), (82, _), (83, _), (84, _), (85, _), (86, _), (87, _), (88, _), (89, _), (90, _), (91, _), (92, _), (93, _), (94, _), (95, _), (96, _), (97, _), (98, _), (99, _), (13, _), (12, _), (11, _), (8, _), (7, _), (6, _), (5, _), (4, _), (2, _)]) (H' := [(_, _), (_, _), (_, _), (_, _), (_, _), (_, _), (_, _), (_, _), (_, _), (_, _), (_, _), (_, _)]) rfl rfl ?_
        refine OpsW.storeW112 rfl rfl (Upd.there (Upd.there (Upd.there (Upd.there (Upd.there (Upd.there (Upd.there (Upd.there (Upd.there (Upd.here)))))))))) ?_
        refine sNext ?_
        refine W.keep (F' := [(4, _)]) ⟨rfl, trivial⟩ ?_
        refine sRet ?_
        exact done1 Tryd.results87 (rv_cellA ty112 rfl (List.Mem.tail _ (List.Mem.tail _ (List.Mem.tail _ (List.Mem.tail _ (List.Mem.tail _ (List.Mem.tail _ (List.Mem.tail _ (List.Mem.tail _ (List.Mem.tail _ (List.Mem.head _)))))))))) rfl) (congrArg encJ (jadd_n hc16 hc20 hc44).symm)

end Go.Cw

/- Scalars of bytes, and bits of bytes: the walks. Conditions: as many bytes as memory has. -/
namespace Go.Cw
open Go Go.Vm Go.RowKit Go.Proofs Go.Cu
attribute [local irreducible] W OpsW Det Fresh New Writes Vm.Pure Makes Changes ExternTo BuildTo ZeroTo FieldTo IndexTo BinTo SliceTo Vm.Enters
set_option linter.unusedVariables false
set_option linter.unusedSimpArgs false
variable {T : Nat → TypeId × Nat × Nat}


theorem bit_ok {G' : Hp} {v : Value} {l : List Nat} {i bv : Nat} (hB : Bs G' v l) (hl : l.length ≤ 1000000000000) (hi : i ≤ 10000000000000) {w : World} (hG : Blocks ((bv, blk [v] 22) :: (G' ++ GH T)) w)  : Vm.Pure Tryd.prog 85 #[.int .i64 (i : Nat), .pointer (some ⟨bv, 0, none⟩)] w (.int .i64 (bitB l i : Nat)) := by
  obtain ⟨ad, cap, hvv⟩ := hB.shape
  refine pure_of_W (n := 23) (args := [.int .i64 (i : Nat), .pointer (some ⟨bv, 0, none⟩)]) Tryd.func85 rfl Tryd.ntmps85 (Nat.le_of_ble_eq_true rfl) hG ?_
  refine sStart ?_
  refine sSeq ?_
  subst hvv
  refine W.region ?_
  refine OpsW.det (det_assign rfl) rfl ?_
  refine sNext ?_
  refine W.keep (F' := [(0, _), (1, _)]) ⟨rfl, rfl, trivial⟩ ?_
  refine sSeq ?_
  refine sSeq ?_
  refine W.region ?_
  refine OpsW.det (det_move rfl) rfl ?_
  refine OpsW.det (det_loadC_ro tyc22 rfl (List.Mem.head _) rfl) rfl ?_
  refine OpsW.det (det_len u22 rfl) rfl ?_
  refine OpsW.det ((det_mul rfl rfl).to (v := .int .i64 ((8 * l.length : Nat) : Int)) (by rw [wrap_i64 (by omega)]; congr 1)) rfl ?_
  refine OpsW.det (det_geq rfl rfl) rfl ?_
  refine sNext ?_
  refine W.keep (F' := [(8, _), (0, _), (1, _)]) ⟨rfl, rfl, rfl, trivial⟩ ?_
  refine W.cond rfl (fun hc8 => ?_) (fun hc8 => ?_)
  · skip
    have hge : 8 * l.length ≤ i := by have h := hc8; simp only [decide_eq_true_eq] at h; omega
    refine sSeq ?_
    refine W.region ?_
    refine OpsW.det (det_assign rfl) rfl ?_
    refine sNext ?_
    refine W.keep (F' := [(3, _)]) ⟨rfl, trivial⟩ ?_
    refine sRet ?_
    exact done1 Tryd.results85 (rv_tmp rfl) (by rw [bitB_no hge]; rfl)
  · skip
    have hge : ¬ 8 * l.length ≤ i := by have h := hc8; simp only [decide_eq_false_iff_not] at h; omega
    have hlt : l.length - 1 - i / 8 < l.length := by omega
    obtain ⟨bk, o, cap', cs, e, fr, hv, hm, hcell⟩ := hB.at_ _ hlt
    simp only [Value.slice.injEq] at hv
    obtain ⟨rfl, _, rfl⟩ := hv
    refine sSkip ?_
    refine sSeq ?_
    refine W.region ?_
    refine OpsW.det (det_loadC_ro tyc22 rfl (List.Mem.head _) rfl) rfl ?_
    refine OpsW.det (det_loadC_ro tyc22 rfl (List.Mem.head _) rfl) rfl ?_
    refine OpsW.det (det_len u22 rfl) rfl ?_
    refine OpsW.det (det_subZ (c := ((l.length - 1 : Nat) : Int)) rfl rfl (by omega) (by omega)) rfl ?_
    refine OpsW.det (det_move rfl) rfl ?_
    refine OpsW.det (det_quoN (b := 8) rfl rfl (by decide) (by omega)) rfl ?_
    refine OpsW.det (det_subZ (c := ((l.length - 1 - i / 8 : Nat) : Int)) rfl rfl (by omega) (by omega)) rfl ?_
    refine OpsW.det (det_indexAddr_sl u22 sz5 rfl rfl ⟨by omega, by omega⟩) rfl ?_
    refine OpsW.det (det_loadC_ro ty5 rfl (List.Mem.tail _ (List.mem_append_left _ hm)) (show cs[o + ((l.length - 1 - i / 8 : Nat) : Int).toNat * 1]? = some (u8 l[l.length - 1 - i / 8]) by simpa using hcell)) rfl ?_
    refine OpsW.det (det_move rfl) rfl ?_
    refine OpsW.det (det_remN (b := 8) rfl rfl (by decide)) rfl ?_
    refine OpsW.det (det_shr8 rfl rfl (by omega)) rfl ?_
    refine OpsW.det (det_and8 rfl rfl (Nat.lt_of_le_of_lt (Nat.div_le_self _ _) (hB.small _ (List.getElem_mem hlt)))) rfl ?_
    refine OpsW.det ((det_conv u5 u3 rfl).to (v := .int .i64 ((l[l.length - 1 - i / 8] / 2 ^ (i % 8) % 2 : Nat) : Int)) (by rw [wrap_i64 (by omega)])) rfl ?_
    refine OpsW.det (det_assign rfl) rfl ?_
    refine sNext ?_
    refine W.keep (F' := [(3, _)]) ⟨rfl, trivial⟩ ?_
    refine sRet ?_
    exact done1 Tryd.results85 (rv_tmp rfl) (by rw [bitB_yes hge hlt])

end Go.Cw

/- The second group: so many times: the walk. Conditions: as many bytes as memory has. -/
namespace Go.Cw
open Go Go.Vm Go.RowKit Go.Proofs Go.Cu
attribute [local irreducible] W OpsW Det Fresh New Writes Vm.Pure Makes Changes ExternTo BuildTo ZeroTo FieldTo IndexTo BinTo SliceTo Vm.Enters
set_option linter.unusedVariables false
set_option linter.unusedSimpArgs false
variable {T : Nat → TypeId × Nat × Nat}

def stp (p : Pt) (d : Int) (j : Jac) : Jac := if d = 1 then jadd j p else if d = -1 then jadd j (pneg p) else j
/-- The ladder, m digits down from the highest. -/
def jl (l : List Nat) (p : Pt) : Nat → Jac
  | 0 => (0, 0, 0)
  | m + 1 => stp p (dg l (8 * l.length - m)) (jdbl (jl l p m))
def times (l : List Nat) (p : Pt) : Pt := point (jl l p (8 * l.length + 1))
theorem jl_step {l : List Nat} {p : Pt} {k : Nat} (h : k + 1 ≤ 8 * l.length + 1) : jl l p (8 * l.length + 1 - k) = stp p (dg l k) (jdbl (jl l p (8 * l.length + 1 - (k + 1)))) := by
  obtain ⟨m, hm⟩ : ∃ m, 8 * l.length + 1 - (k + 1) = m := ⟨_, rfl⟩
  rw [show 8 * l.length + 1 - k = m + 1 by omega, hm, jl, show 8 * l.length - m = k by omega]
theorem jl_one {l : List Nat} {p : Pt} {k : Nat} (h : k + 1 ≤ 8 * l.length + 1) (hd : (dg l k == 1) = true) : jl l p (8 * l.length + 1 - k) = jadd (jdbl (jl l p (8 * l.length + 1 - (k + 1)))) p := by
  rw [jl_step h, stp, if_pos (by simpa using hd)]
theorem jl_neg {l : List Nat} {p : Pt} {k : Nat} (h : k + 1 ≤ 8 * l.length + 1) (h1 : (dg l k == 1) = false) (hd : (dg l k == -1) = true) : jl l p (8 * l.length + 1 - k) = jadd (jdbl (jl l p (8 * l.length + 1 - (k + 1)))) (pneg p) := by
  rw [jl_step h, stp, if_neg (by simpa using h1), if_pos (by simpa using hd)]
theorem jl_nil {l : List Nat} {p : Pt} {k : Nat} (h : k + 1 ≤ 8 * l.length + 1) (h1 : (dg l k == 1) = false) (hd : (dg l k == -1) = false) : jl l p (8 * l.length + 1 - k) = jdbl (jl l p (8 * l.length + 1 - (k + 1))) := by
  rw [jl_step h, stp, if_neg (by simpa using h1), if_neg (by simpa using hd)]

theorem en46 : Vm.Enters Tryd.prog 46 := Vm.Enters.of fun _ _ => by kernel_rfl
theorem en87 : Vm.Enters Tryd.prog 87 := Vm.Enters.of fun _ _ => by kernel_rfl
theorem en88 : Vm.Enters Tryd.prog 88 := Vm.Enters.of fun _ _ => by kernel_rfl
theorem en85 : Vm.Enters Tryd.prog 85 := Vm.Enters.of fun _ _ => by kernel_rfl
set_option maxHeartbeats 1000000 in
theorem Times_ok {G' : Hp} {v : Value} {l : List Nat} {p : Pt} (hB : Bs G' v l) (hl : l.length ≤ 1000000000000) {w : World} (hG : Blocks (G' ++ GH T) w)  : Vm.Pure Tryd.prog 64 #[encP p, v] w (encP (times l p)) := by
  obtain ⟨ad, cap, hvv⟩ := hB.shape
  refine pure_of_W (n := 77) (args := [encP p, v]) Tryd.func64 rfl Tryd.ntmps64 (Nat.le_of_ble_eq_true rfl) hG ?_
  refine sStart ?_
  refine sSeq ?_
  subst hvv
  refine W.region ?_
  refine OpsW.fresh (fr_boxW48 rfl) rfl fun b2 => ?_
  refine OpsW.fresh (fr_box rfl rfl) rfl fun b3 => ?_
  refine OpsW.fresh (fr_alloc z48r) rfl fun b4 => ?_
  refine sNext ?_
  refine W.keep (F' := [(4, _), (3, _), (2, _)]) ⟨rfl, rfl, rfl, trivial⟩ ?_
  refine sSeq ?_
  refine W.region ?_
  refine OpsW.det (det_loadC tyc22 rfl (List.Mem.tail _ (List.Mem.head _)) rfl) rfl ?_
  refine OpsW.det (det_len u22 rfl) rfl ?_
  refine OpsW.det ((det_mul rfl rfl).to (v := .int .i64 ((8 * l.length : Nat) : Int)) (by rw [wrap_i64 (by omega)]; congr 1)) rfl ?_
  refine OpsW.det (det_addN (b := 1) rfl rfl (by omega)) rfl ?_
  refine OpsW.fresh (fr_makeSlice (l := 0) ty76 rfl rfl (Nat.zero_le _) (by omega) (by omega)) rfl fun b17 => ?_
  refine OpsW.det (det_assign rfl) rfl ?_
  refine sNext ?_
  refine W.keep (F' := [(5, _), (4, _), (3, _), (2, _)]) ⟨rfl, rfl, rfl, rfl, trivial⟩ ?_
  refine sSeq ?_
  refine W.region ?_
  refine OpsW.det (det_func1 rfl) rfl ?_
  refine OpsW.det (det_assign rfl) rfl ?_
  refine sNext ?_
  refine W.keep (F' := [(6, _), (5, _), (4, _), (3, _), (2, _)]) ⟨rfl, rfl, rfl, rfl, rfl, trivial⟩ ?_
  refine sSeq ?_
  refine W.region ?_
  refine OpsW.det (det_assign rfl) rfl ?_
  refine sNext ?_
  refine sSeq ?_
  refine sSeq ?_
  refine W.region ?_
  refine OpsW.det (det_loadC tyc22 rfl (List.Mem.tail _ (List.Mem.tail _ (List.Mem.head _))) rfl) rfl ?_
  refine OpsW.det (det_len u22 rfl) rfl ?_
  refine OpsW.det ((det_mul rfl rfl).to (v := .int .i64 ((8 * l.length : Nat) : Int)) (by rw [wrap_i64 (by omega)]; congr 1)) rfl ?_
  refine OpsW.det (det_addN (b := 1) rfl rfl (by omega)) rfl ?_
  refine OpsW.det (det_move rfl) rfl ?_
  refine sNext ?_
  refine W.keep (F' := [(23, _), (22, _), (7, _), (6, _), (5, _), (4, _), (2, _)]) ⟨rfl, rfl, rfl, rfl, rfl, rfl, rfl, trivial⟩ ?_
  refine sBlock ?_
  refine sLoop (σ := Nat × Value × Hp) (fun s => [(23, .int .i64 (s.1 : Nat)), (22, .int .i64 ((8 * l.length + 1 : Nat) : Int)), (7, .int .i64 (ov l s.1 : Nat)), (6, .func (.func 85) #[] #[.pointer (some ⟨b3, 0, none⟩)]), (5, s.2.1), (4, .pointer (some ⟨b4, 0, none⟩)), (2, .pointer (some ⟨b2, 0, none⟩))]) (fun s => s.2.2 ++ [(b4, blk (cellsP (0, 0)) 48), (b3, blk [.slice ad l.length cap] 22), (b2, blk (cellsP p) 48)]) (fun s => s.1 ≤ 8 * l.length + 1 ∧ IsSl 3 1 s.2.1 s.1 s.2.2 (digs l s.1)) (fun s => 8 * l.length + 1 - s.1) (0, .slice (some ⟨b17, 0, none⟩) 0 (8 * l.length + 1), [(b17, blk ([] ++ zrep [.int .i64 0] (8 * l.length + 1)) 3)]) ⟨Nat.zero_le _, .at_ rfl (by simp [zrep_length]) (by show 8 * l.length + 1 ≤ 9223372036854775807; omega)⟩ ⟨rfl, rfl, rfl, rfl, rfl, rfl, rfl, trivial⟩ (List.Sublist.refl _) ?_
  rintro ⟨i, vd, hp⟩ ⟨hi, hsl⟩
  change IsSl 3 1 vd i hp (digs l i) at hsl
  change i ≤ 8 * l.length + 1 at hi
  refine W.norm (F' := [(23, .int .i64 (i : Nat)), (22, .int .i64 ((8 * l.length + 1 : Nat) : Int)), (7, .int .i64 (ov l i : Nat)), (6, .func (.func 85) #[] #[.pointer (some ⟨b3, 0, none⟩)]), (5, vd), (4, .pointer (some ⟨b4, 0, none⟩)), (2, .pointer (some ⟨b2, 0, none⟩))]) (H' := hp ++ [(b4, blk (cellsP (0, 0)) 48), (b3, blk [.slice ad l.length cap] 22), (b2, blk (cellsP p) 48)]) rfl rfl ?_
  refine sSeq ?_
  refine W.region ?_
  refine OpsW.det (det_lss rfl rfl) rfl ?_
  refine sNext ?_
  refine sSeq ?_
  refine W.cond rfl (fun hc24 => ?_) (fun hc24 => ?_)
  · skip
    have hlt : i < 8 * l.length + 1 := by have h := hc24; simp only [decide_eq_true_eq] at h; omega
    refine sSkip ?_
    refine sSeq ?_
    refine sBlock ?_
    refine sSeq ?_
    refine W.region ?_
    refine OpsW.det (det_move rfl) rfl ?_
    refine OpsW.det (det_assign rfl) rfl ?_
    refine sNext ?_
    refine W.keep (F' := [(8, _), (23, _), (22, _), (7, _), (6, _), (5, _), (4, _), (2, _)]) ⟨rfl, rfl, rfl, rfl, rfl, rfl, rfl, rfl, trivial⟩ ?_
    refine sSeq ?_
    refine W.region ?_
    refine OpsW.det (det_move rfl) rfl ?_
    refine OpsW.det (det_move rfl) rfl ?_
    refine OpsW.det (det_callv en85 (caps := [.pointer (some ⟨b3, 0, none⟩)]) rfl rfl (fun w hb ho => bit_ok (G' := G') (bv := b3) (i := i) hB hl (by omega) (blocks_cons (hb _ (List.mem_append_right _ (List.Mem.tail _ (List.Mem.head _)))) ho.blocks))) rfl ?_
    refine OpsW.det (det_move rfl) rfl ?_
    refine OpsW.det (det_addN rfl rfl (by have := bitB_le l i; have := ov_le l i; omega)) rfl ?_
    refine OpsW.det (det_assign rfl) rfl ?_
    refine sNext ?_
    refine W.keep (F' := [(9, _), (8, _), (23, _), (22, _), (6, _), (5, _), (4, _), (2, _)]) ⟨rfl, rfl, rfl, rfl, rfl, rfl, rfl, rfl, trivial⟩ ?_
    refine sSeq ?_
    refine W.region ?_
    refine OpsW.det (det_move rfl) rfl ?_
    refine OpsW.det (det_half rfl rfl) rfl ?_
    refine OpsW.det (det_assign rfl) rfl ?_
    refine sNext ?_
    refine W.keep (F' := [(7, _), (9, _), (8, _), (23, _), (22, _), (6, _), (5, _), (4, _), (2, _)]) ⟨rfl, rfl, rfl, rfl, rfl, rfl, rfl, rfl, rfl, trivial⟩ ?_
    refine sSeq ?_
    refine sSeq ?_
    refine W.region ?_
    refine OpsW.det (det_move rfl) rfl ?_
    refine OpsW.test (det_eql rfl rfl) rfl (fun hc34 => ?_) (fun hc34 => ?_)
    · skip
      refine OpsW.det (det_move rfl) rfl ?_
      refine OpsW.guard_yes rfl rfl ?_
      refine OpsW.det (det_move rfl) rfl ?_
      refine OpsW.guard_yes rfl rfl ?_
      refine OpsW.det (det_move rfl) rfl ?_
      refine OpsW.guard_yes rfl rfl ?_
      refine OpsW.det (det_addN (b := 1) rfl rfl (by omega)) rfl ?_
      refine OpsW.guard_yes rfl rfl ?_
      refine OpsW.det (det_callv en85 (caps := [.pointer (some ⟨b3, 0, none⟩)]) rfl rfl (fun w hb ho => bit_ok (G' := G') (bv := b3) (i := (i + 1)) hB hl (by omega) (blocks_cons (hb _ (List.mem_append_right _ (List.Mem.tail _ (List.Mem.head _)))) ho.blocks))) rfl ?_
      refine OpsW.guard_yes rfl rfl ?_
      refine OpsW.det (det_eql rfl rfl) rfl ?_
      refine OpsW.det (det_pick rfl rfl) rfl ?_
      refine sNext ?_
      refine W.keep (F' := [(41, _), (7, _), (9, _), (23, _), (22, _), (6, _), (5, _), (4, _), (2, _)]) ⟨rfl, rfl, rfl, rfl, rfl, rfl, rfl, rfl, rfl, trivial⟩ ?_
      refine W.cond rfl (fun hc41 => ?_) (fun hc41 => ?_)
      · skip
        refine W.region ?_
        refine OpsW.det (det_assign rfl) rfl ?_
        refine OpsW.det (det_assign rfl) rfl ?_
        refine sNext ?_
        refine W.keep (F' := [(7, _), (9, _), (23, _), (22, _), (6, _), (5, _), (4, _), (2, _)]) ⟨rfl, rfl, rfl, rfl, rfl, rfl, rfl, rfl, trivial⟩ ?_
        refine W.region ?_
        refine OpsW.det (det_move rfl) rfl ?_
        refine OpsW.det (det_move rfl) rfl ?_
        refine OpsW.det (det_and rfl rfl) rfl ?_
        refine OpsW.det (det_move rfl) rfl ?_
        refine OpsW.det ((det_mul rfl rfl).to (v := .int .i64 (dg l i)) (dig_m hc34 hc41)) rfl ?_
        refine OpsW.fresh (fr_buildSlice rfl slice76) rfl fun b47 => ?_
        refine OpsW.perm (H' := hp ++ ((b47, blk [.int .i64 (dg l i)] 3) :: [(b4, blk (cellsP (0, 0)) 48), (b3, blk [.slice ad l.length cap] 22), (b2, blk (cellsP p) 48)])) List.perm_middle ?_
        refine OpsW.append (dd := 48) ty76 rfl hsl rfl (.inl (List.mem_append_right _ (List.Mem.head _))) rfl (fun j u h => by simpa using h) rfl (by show i + 1 ≤ 9223372036854775807; omega) (by show (i + 1) * 8 ≤ 140737488355328; omega) rfl fun v' hp' hsl' => ?_
        refine OpsW.det (det_assign rfl) rfl ?_
        refine sLast ?_
        refine bNext ?_
        refine W.keep (F' := [(5, _), (7, _), (23, _), (22, _), (6, _), (4, _), (2, _)]) ⟨rfl, rfl, rfl, rfl, rfl, rfl, rfl, trivial⟩ ?_
        refine W.region ?_
        refine OpsW.det (det_addN (b := 1) rfl rfl (by omega)) rfl ?_
        refine OpsW.det (det_move rfl) rfl ?_
        refine sLast ?_
        have ho := ov_m hc34 hc41
        exact rEnd (i + 1, v', hp') ⟨hlt, by rw [digs_succ]; exact hsl'⟩ ⟨rfl, rfl, by rw [← ho]; rfl, rfl, rfl, rfl, rfl, trivial⟩ (List.Sublist.append_left (List.Sublist.cons _ (List.Sublist.refl _)) _) (step_lt hlt)
      · skip
        refine sSkip ?_
        refine W.region ?_
        refine OpsW.det (det_move rfl) rfl ?_
        refine OpsW.det (det_move rfl) rfl ?_
        refine OpsW.det (det_and rfl rfl) rfl ?_
        refine OpsW.det (det_move rfl) rfl ?_
        refine OpsW.det ((det_mul rfl rfl).to (v := .int .i64 (dg l i)) (dig_1 hc34 hc41)) rfl ?_
        refine OpsW.fresh (fr_buildSlice rfl slice76) rfl fun b47 => ?_
        refine OpsW.perm (H' := hp ++ ((b47, blk [.int .i64 (dg l i)] 3) :: [(b4, blk (cellsP (0, 0)) 48), (b3, blk [.slice ad l.length cap] 22), (b2, blk (cellsP p) 48)])) List.perm_middle ?_
        refine OpsW.append (dd := 48) ty76 rfl hsl rfl (.inl (List.mem_append_right _ (List.Mem.head _))) rfl (fun j u h => by simpa using h) rfl (by show i + 1 ≤ 9223372036854775807; omega) (by show (i + 1) * 8 ≤ 140737488355328; omega) rfl fun v' hp' hsl' => ?_
        refine OpsW.det (det_assign rfl) rfl ?_
        refine sLast ?_
        refine bNext ?_
        refine W.keep (F' := [(5, _), (7, _), (23, _), (22, _), (6, _), (4, _), (2, _)]) ⟨rfl, rfl, rfl, rfl, rfl, rfl, rfl, trivial⟩ ?_
        refine W.region ?_
        refine OpsW.det (det_addN (b := 1) rfl rfl (by omega)) rfl ?_
        refine OpsW.det (det_move rfl) rfl ?_
        refine sLast ?_
        have ho := ov_1 hc41
        exact rEnd (i + 1, v', hp') ⟨hlt, by rw [digs_succ]; exact hsl'⟩ ⟨rfl, rfl, by rw [← ho]; rfl, rfl, rfl, rfl, rfl, trivial⟩ (List.Sublist.append_left (List.Sublist.cons _ (List.Sublist.refl _)) _) (step_lt hlt)
    · skip
      refine OpsW.det (det_move rfl) rfl ?_
      refine OpsW.guard_no rfl rfl rfl ?_
      refine OpsW.guard_no rfl rfl rfl ?_
      refine OpsW.guard_no rfl rfl rfl ?_
      refine OpsW.guard_no rfl rfl rfl ?_
      refine OpsW.guard_no rfl rfl rfl ?_
      refine OpsW.det (det_pick rfl rfl) rfl ?_
      refine sNext ?_
      refine W.keep (F' := [(41, _), (7, _), (9, _), (23, _), (22, _), (6, _), (5, _), (4, _), (2, _)]) ⟨rfl, rfl, rfl, rfl, rfl, rfl, rfl, rfl, rfl, trivial⟩ ?_
      refine W.cond_false rfl ?_
      refine sSkip ?_
      refine W.region ?_
      refine OpsW.det (det_move rfl) rfl ?_
      refine OpsW.det (det_move rfl) rfl ?_
      refine OpsW.det (det_and rfl rfl) rfl ?_
      refine OpsW.det (det_move rfl) rfl ?_
      refine OpsW.det ((det_mul rfl rfl).to (v := .int .i64 (dg l i)) (dig_n hc34)) rfl ?_
      refine OpsW.fresh (fr_buildSlice rfl slice76) rfl fun b47 => ?_
      refine OpsW.perm (H' := hp ++ ((b47, blk [.int .i64 (dg l i)] 3) :: [(b4, blk (cellsP (0, 0)) 48), (b3, blk [.slice ad l.length cap] 22), (b2, blk (cellsP p) 48)])) List.perm_middle ?_
      refine OpsW.append (dd := 48) ty76 rfl hsl rfl (.inl (List.mem_append_right _ (List.Mem.head _))) rfl (fun j u h => by simpa using h) rfl (by show i + 1 ≤ 9223372036854775807; omega) (by show (i + 1) * 8 ≤ 140737488355328; omega) rfl fun v' hp' hsl' => ?_
      refine OpsW.det (det_assign rfl) rfl ?_
      refine sLast ?_
      refine bNext ?_
      refine W.keep (F' := [(5, _), (7, _), (23, _), (22, _), (6, _), (4, _), (2, _)]) ⟨rfl, rfl, rfl, rfl, rfl, rfl, rfl, trivial⟩ ?_
      refine W.region ?_
      refine OpsW.det (det_addN (b := 1) rfl rfl (by omega)) rfl ?_
      refine OpsW.det (det_move rfl) rfl ?_
      refine sLast ?_
      have ho := ov_n hc34
      exact rEnd (i + 1, v', hp') ⟨hlt, by rw [digs_succ]; exact hsl'⟩ ⟨rfl, rfl, by rw [← ho]; rfl, rfl, rfl, rfl, rfl, trivial⟩ (List.Sublist.append_left (List.Sublist.cons _ (List.Sublist.refl _)) _) (step_lt hlt)
  · skip
    have hiN : i = 8 * l.length + 1 := by have h := hc24; simp only [decide_eq_false_iff_not] at h; omega
    subst hiN
    obtain ⟨pd, rfl, rfl, hpp⟩ := isSl_at hsl (Nat.succ_pos _)
    refine W.norm (F' := _) (H' := [(_, _), (_, _), (_, _), (_, _)]) rfl rfl ?_
    refine sExit ?_
    refine xLoop ?_
    refine xHere ?_
    refine W.keep (F' := [(5, _), (4, _), (2, _)]) ⟨rfl, rfl, rfl, trivial⟩ ?_
    refine sSeq ?_
    refine W.region ?_
    refine OpsW.fresh (fr_alloc z112r) rfl fun b10 => ?_
    refine sNext ?_
    refine sSeq ?_
    refine W.region ?_
    refine OpsW.det (det_loadW48 rfl (List.Mem.tail _ (List.Mem.tail _ (List.Mem.tail _ (List.Mem.tail _ (List.Mem.head _)))))) rfl ?_
    refine OpsW.det (det_call en46 rfl (fun w hb ho => PNeg_ok (fun p hp => ho.look (List.mem_append_right _ hp)))) rfl ?_
    refine OpsW.fresh (fr_alloc z48r) rfl fun b11 => ?_
    refine OpsW.storeW48 rfl rfl (Upd.here) ?_
    refine sNext ?_
    refine W.keep (F' := [(11, _), (10, _), (5, _), (4, _), (2, _)]) ⟨rfl, rfl, rfl, rfl, rfl, trivial⟩ ?_
    refine sSeq ?_
    refine sSeq ?_
    refine W.region ?_
    refine OpsW.det (det_move rfl) rfl ?_
    refine OpsW.det (det_len u76 rfl) rfl ?_
    refine OpsW.det (det_subZ (c := ((8 * l.length + 1 : Nat) : Int) - 1) rfl rfl (by omega) (by omega)) rfl ?_
    refine OpsW.det (det_assign rfl) rfl ?_
    refine sNext ?_
    refine W.keep (F' := [(12, _), (11, _), (10, _), (5, _), (4, _), (2, _)]) ⟨rfl, rfl, rfl, rfl, rfl, rfl, trivial⟩ ?_
    refine sBlock ?_
    have hjl : jl l p (8 * l.length + 1 - (8 * l.length + 1)) = (0, 0, 0) := by rw [Nat.sub_self]; rfl
    refine sLoop (σ := Nat) (fun k => [(12, .int .i64 (((k : Nat) : Int) - 1)), (11, .pointer (some ⟨b11, 0, none⟩)), (10, .pointer (some ⟨b10, 0, none⟩)), (5, .slice (some ⟨pd.1, 0, none⟩) (8 * l.length + 1) pd.2.1), (4, .pointer (some ⟨b4, 0, none⟩)), (2, .pointer (some ⟨b2, 0, none⟩))]) (fun k => [(b11, blk (cellsP (pneg p)) 48), (b10, blk (cellsJ (jl l p (8 * l.length + 1 - k))) 112), (pd.1, blk (digs l (8 * l.length + 1) ++ pd.2.2) 3), (b4, blk (cellsP (0, 0)) 48), (b3, blk [.slice ad l.length cap] 22), (b2, blk (cellsP p) 48)]) (fun k => k ≤ 8 * l.length + 1) (fun k => k) (8 * l.length + 1) (Nat.le_refl _) ⟨rfl, rfl, rfl, rfl, rfl, rfl, trivial⟩ (by rw [hjl]; exact List.Sublist.refl _) ?_
    intro k hk
    refine sSeq ?_
    refine sSeq ?_
    refine W.region ?_
    refine OpsW.det (det_move rfl) rfl ?_
    refine OpsW.det (det_geq rfl rfl) rfl ?_
    refine sNext ?_
    refine W.keep (F' := [(56, _), (12, _), (11, _), (10, _), (5, _), (4, _), (2, _)]) ⟨rfl, rfl, rfl, rfl, rfl, rfl, rfl, trivial⟩ ?_
    refine W.cond rfl (fun hc56 => ?_) (fun hc56 => ?_)
    · skip
      obtain ⟨k, rfl⟩ : ∃ j, k = j + 1 := ⟨k - 1, by have h := hc56; simp only [decide_eq_true_eq] at h; omega⟩
      refine W.norm (F' := [(56, _), (12, .int .i64 (k : Nat)), (11, _), (10, _), (5, _), (4, _), (2, _)]) (H' := [(_, _), (_, _), (_, _), (_, _), (_, _), (_, _)]) (by rw [show (((k + 1 : Nat) : Int) - 1) = ((k : Nat) : Int) by omega]) rfl ?_
      refine sSkip ?_
      refine sSeq ?_
      refine sBlock ?_
      refine sSeq ?_
      refine W.region ?_
      refine OpsW.det (det_loadW112 rfl (List.Mem.tail _ (List.Mem.head _))) rfl ?_
      refine OpsW.det (det_call en86 rfl (fun w hb ho => jdbl_ok (fun p hp => ho.look (List.mem_append_right _ hp)))) rfl ?_
      refine OpsW.storeW112 rfl rfl (Upd.there (Upd.here)) ?_
      refine sNext ?_
      refine W.keep (F' := [(12, _), (11, _), (10, _), (5, _), (4, _), (2, _)]) ⟨rfl, rfl, rfl, rfl, rfl, rfl, trivial⟩ ?_
      refine sSeq ?_
      refine W.region ?_
      refine OpsW.det (det_move rfl) rfl ?_
      refine OpsW.det (det_move rfl) rfl ?_
      refine OpsW.det (det_indexAddr_sl u76 sz3 rfl rfl ⟨by omega, by omega⟩) rfl ?_
      refine OpsW.det (det_loadC ty3 rfl (List.Mem.tail _ (List.Mem.tail _ (List.Mem.head _))) (digs_at (i := k) (n := 8 * l.length + 1) (by omega) (by omega))) rfl ?_
      refine sNext ?_
      refine W.keep (F' := [(64, _), (12, _), (11, _), (10, _), (5, _), (4, _), (2, _)]) ⟨rfl, rfl, rfl, rfl, rfl, rfl, rfl, trivial⟩ ?_
      refine sBlock ?_
      refine sSeq ?_
      refine W.region ?_
      refine OpsW.det (det_eql rfl rfl) rfl ?_
      refine OpsW.det (det_assign rfl) rfl ?_
      refine sNext ?_
      refine W.keep (F' := [(65, _), (64, _), (12, _), (11, _), (10, _), (5, _), (4, _), (2, _)]) ⟨rfl, rfl, rfl, rfl, rfl, rfl, rfl, rfl, trivial⟩ ?_
      refine W.cond rfl (fun hc65 => ?_) (fun hc65 => ?_)
      · skip
        refine W.region ?_
        refine OpsW.det (det_loadW112 rfl (List.Mem.tail _ (List.Mem.head _))) rfl ?_
        refine OpsW.det (det_loadW48 rfl (List.Mem.tail _ (List.Mem.tail _ (List.Mem.tail _ (List.Mem.tail _ (List.Mem.tail _ (List.Mem.head _))))))) rfl ?_
        refine OpsW.det (det_call en87 rfl (fun w hb ho => jadd_ok (fun p hp => ho.look (List.mem_append_right _ hp)))) rfl ?_
        refine OpsW.storeW112 rfl rfl (Upd.there (Upd.here)) ?_
        refine sLast ?_
        refine bLast ?_
        refine bNext ?_
        refine W.keep (F' := [(12, _), (11, _), (10, _), (5, _), (4, _), (2, _)]) ⟨rfl, rfl, rfl, rfl, rfl, rfl, trivial⟩ ?_
        refine W.region ?_
        refine OpsW.det (det_move rfl) rfl ?_
        refine OpsW.det (det_subZ (c := ((k : Nat) : Int) - 1) rfl rfl (by omega) (by omega)) rfl ?_
        refine OpsW.det (det_assign rfl) rfl ?_
        refine sLast ?_
        exact rEnd k (Nat.le_of_succ_le hk) ⟨rfl, rfl, rfl, rfl, rfl, rfl, trivial⟩ (by rw [jl_one hk hc65]; exact List.Sublist.refl _) (Nat.lt_succ_self _)
      · skip
        refine sSeq ?_
        refine W.region ?_
        refine OpsW.det (det_eql rfl rfl) rfl ?_
        refine OpsW.det (det_assign rfl) rfl ?_
        refine sNext ?_
        refine W.keep (F' := [(70, _), (12, _), (11, _), (10, _), (5, _), (4, _), (2, _)]) ⟨rfl, rfl, rfl, rfl, rfl, rfl, rfl, trivial⟩ ?_
        refine W.cond rfl (fun hc70 => ?_) (fun hc70 => ?_)
        · skip
          refine W.region ?_
          refine OpsW.det (det_loadW112 rfl (List.Mem.tail _ (List.Mem.head _))) rfl ?_
          refine OpsW.det (det_loadW48 rfl (List.Mem.head _)) rfl ?_
          refine OpsW.det (det_call en87 rfl (fun w hb ho => jadd_ok (fun p hp => ho.look (List.mem_append_right _ hp)))) rfl ?_
          refine OpsW.storeW112 rfl rfl (Upd.there (Upd.here)) ?_
          refine sLast ?_
          refine bLast ?_
          refine bNext ?_
          refine W.keep (F' := [(12, _), (11, _), (10, _), (5, _), (4, _), (2, _)]) ⟨rfl, rfl, rfl, rfl, rfl, rfl, trivial⟩ ?_
          refine W.region ?_
          refine OpsW.det (det_move rfl) rfl ?_
          refine OpsW.det (det_subZ (c := ((k : Nat) : Int) - 1) rfl rfl (by omega) (by omega)) rfl ?_
          refine OpsW.det (det_assign rfl) rfl ?_
          refine sLast ?_
          exact rEnd k (Nat.le_of_succ_le hk) ⟨rfl, rfl, rfl, rfl, rfl, rfl, trivial⟩ (by rw [jl_neg hk hc65 hc70]; exact List.Sublist.refl _) (Nat.lt_succ_self _)
        · skip
          refine sSkip0 ?_
          refine bLast ?_
          refine bNext ?_
          refine W.keep (F' := [(12, _), (11, _), (10, _), (5, _), (4, _), (2, _)]) ⟨rfl, rfl, rfl, rfl, rfl, rfl, trivial⟩ ?_
          refine W.region ?_
          refine OpsW.det (det_move rfl) rfl ?_
          refine OpsW.det (det_subZ (c := ((k : Nat) : Int) - 1) rfl rfl (by omega) (by omega)) rfl ?_
          refine OpsW.det (det_assign rfl) rfl ?_
          refine sLast ?_
          exact rEnd k (Nat.le_of_succ_le hk) ⟨rfl, rfl, rfl, rfl, rfl, rfl, trivial⟩ (by rw [jl_nil hk hc65 hc70]; exact List.Sublist.refl _) (Nat.lt_succ_self _)
    · skip
      have hk0 : k = 0 := by have h := hc56; simp only [decide_eq_false_iff_not] at h; omega
      subst hk0
      refine sExit ?_
      refine xLoop ?_
      refine xHere ?_
      refine W.keep (F' := [(10, _), (4, _)]) ⟨rfl, rfl, trivial⟩ ?_
      refine sSeq ?_
      refine W.region ?_
      refine OpsW.det (det_loadW112 rfl (List.Mem.tail _ (List.Mem.head _))) rfl ?_
      refine OpsW.det (det_call en88 rfl (fun w hb ho => point_ok (fun p hp => ho.look (List.mem_append_right _ hp)))) rfl ?_
      refine OpsW.storeW48 rfl rfl (Upd.there (Upd.there (Upd.there (Upd.here)))) ?_
      refine sNext ?_
      refine W.keep (F' := [(4, _)]) ⟨rfl, trivial⟩ ?_
      refine sRet ?_
      exact done1 Tryd.results64 (rv_cellA ty48 rfl (List.Mem.tail _ (List.Mem.tail _ (List.Mem.tail _ (List.Mem.head _)))) rfl) rfl

end Go.Cw

/- The second group: products with scalars, sums of lists: the walks. Conditions: as many as memory has. -/
namespace Go.Cw
open Go Go.Vm Go.RowKit Go.Proofs Go.Cu
attribute [local irreducible] W OpsW Det Fresh New Writes Vm.Pure Makes Changes ExternTo BuildTo ZeroTo FieldTo IndexTo BinTo SliceTo Vm.Enters
set_option linter.unusedVariables false
set_option linter.unusedSimpArgs false
variable {T : Nat → TypeId × Nat × Nat}

/-- So many times. -/
def pmul (p : Pt) (x : Fs) : Pt := times (blist x) p
/-- v is a slice of the points l, which lie in a block of G'. -/
structure Pts (G' : Hp) (v : Value) (l : List Pt) : Prop where
  shape : ∃ ad cap, v = .slice ad l.length cap
  at_ : ∀ i (h : i < l.length), ∃ (b o cap : Nat) (cs : List Value) (e : TypeId) (fr : Nat × Nat), v = .slice (some ⟨b, o, none⟩) l.length cap ∧ (b, Obj.cells cs.toArray e fr) ∈ G' ∧ cut (o + i * 24) 24 cs = some (cellsP l[i])
def jsum (l : List Pt) : Jac := l.foldl (fun j p => jadd j p) (0, 0, 0)
def psum (l : List Pt) : Pt := point (jsum l)
theorem jsum_step {l : List Pt} {i : Nat} (h : i < l.length) : jsum (l.take (i + 1)) = jadd (jsum (l.take i)) l[i] := by
  unfold jsum
  rw [List.take_succ_eq_append_getElem h, List.foldl_append]
  rfl
theorem off_i {o i : Nat} : o + ((i : Nat) : Int).toNat * 24 = o + i * 24 := by simp
theorem pmul_def (p : Pt) (x : Fs) : encP (times (blist x) p) = encP (pmul p x) := rfl




end Go.Cw

/- The second group: the generator, the turn, and which points are in the group: the walks. Conditions: none. -/
namespace Go.Cw
open Go Go.Vm Go.RowKit Go.Proofs Go.Cu
attribute [local irreducible] W OpsW Det Fresh New Writes Vm.Pure Makes Changes ExternTo BuildTo ZeroTo FieldTo IndexTo BinTo SliceTo Vm.Enters
set_option linter.unusedVariables false
set_option linter.unusedSimpArgs false
variable {T : Nat → TypeId × Nat × Nat}

def gX : List Nat := [19, 224, 43, 96, 82, 113, 159, 96, 125, 172, 211, 160, 136, 39, 79, 101, 89, 107, 208, 208, 153, 32, 182, 26, 181, 218, 97, 187, 220, 127, 80, 73, 51, 76, 241, 18, 19, 148, 93, 87, 229, 172, 125, 5, 93, 4, 43, 126, 2, 74, 162, 178, 240, 143, 10, 145, 38, 8, 5, 39, 45, 197, 16, 81, 198, 228, 122, 212, 250, 64, 59, 2, 180, 81, 11, 100, 122, 227, 209, 119, 11, 172, 3, 38, 168, 5, 187, 239, 212, 128, 86, 200, 193, 33, 189, 184]
def gY : List Nat := [6, 6, 196, 160, 46, 167, 52, 204, 50, 172, 210, 176, 43, 194, 139, 153, 203, 62, 40, 126, 133, 167, 99, 175, 38, 116, 146, 171, 87, 46, 153, 171, 63, 55, 13, 39, 92, 236, 29, 161, 170, 169, 7, 95, 240, 95, 121, 190, 12, 229, 213, 39, 114, 125, 110, 17, 140, 201, 205, 198, 218, 46, 53, 26, 173, 253, 155, 170, 140, 189, 211, 167, 109, 66, 154, 105, 81, 96, 209, 44, 146, 58, 201, 204, 59, 172, 162, 137, 225, 147, 84, 134, 8, 184, 40, 1]
def tX : List Nat := [26, 1, 17, 234, 57, 127, 230, 153, 236, 2, 64, 134, 99, 212, 222, 133, 170, 13, 133, 125, 137, 117, 154, 212, 137, 125, 41, 101, 15, 184, 95, 155, 64, 148, 39, 235, 79, 73, 255, 253, 139, 253, 0, 0, 0, 0, 170, 173, 0, 0, 0, 0, 0, 0, 0, 0, 0, 0, 0, 0, 0, 0, 0, 0, 0, 0, 0, 0, 0, 0, 0, 0, 0, 0, 0, 0, 0, 0, 0, 0, 0, 0, 0, 0, 0, 0, 0, 0, 0, 0, 0, 0, 0, 0, 0, 0]
def tY : List Nat := [6, 175, 14, 4, 55, 255, 64, 11, 104, 49, 227, 109, 107, 209, 127, 254, 72, 57, 93, 171, 194, 211, 67, 94, 119, 247, 110, 23, 0, 146, 65, 197, 238, 103, 153, 47, 114, 236, 5, 244, 200, 16, 132, 251, 237, 227, 204, 9, 19, 82, 3, 230, 1, 128, 166, 142, 226, 233, 196, 72, 215, 122, 44, 217, 28, 61, 237, 217, 48, 177, 207, 96, 239, 57, 100, 137, 246, 30, 180, 94, 48, 68, 102, 207, 62, 103, 250, 10, 241, 238, 123, 4, 18, 27, 222, 162]
def gen : Pt := ((read2 gX).1, (read2 gY).1)
def turnx : Fq2 := (read2 tX).1
def turny : Fq2 := (read2 tY).1
def turnP (p : Pt) : Pt := (conj2 p.1 * turnx, conj2 p.2 * turny)
def inB (p : Pt) : Bool := decide (turnP p = pneg (times sizeL p))
theorem gX_sl : SliceTo Tryd.prog 22 96 [(0, .int .u8 19), (1, .int .u8 224), (2, .int .u8 43), (3, .int .u8 96), (4, .int .u8 82), (5, .int .u8 113), (6, .int .u8 159), (7, .int .u8 96), (8, .int .u8 125), (9, .int .u8 172), (10, .int .u8 211), (11, .int .u8 160), (12, .int .u8 136), (13, .int .u8 39), (14, .int .u8 79), (15, .int .u8 101), (16, .int .u8 89), (17, .int .u8 107), (18, .int .u8 208), (19, .int .u8 208), (20, .int .u8 153), (21, .int .u8 32), (22, .int .u8 182), (23, .int .u8 26), (24, .int .u8 181), (25, .int .u8 218), (26, .int .u8 97), (27, .int .u8 187), (28, .int .u8 220), (29, .int .u8 127), (30, .int .u8 80), (31, .int .u8 73), (32, .int .u8 51), (33, .int .u8 76), (34, .int .u8 241), (35, .int .u8 18), (36, .int .u8 19), (37, .int .u8 148), (38, .int .u8 93), (39, .int .u8 87), (40, .int .u8 229), (41, .int .u8 172), (42, .int .u8 125), (43, .int .u8 5), (44, .int .u8 93), (45, .int .u8 4), (46, .int .u8 43), (47, .int .u8 126), (48, .int .u8 2), (49, .int .u8 74), (50, .int .u8 162), (51, .int .u8 178), (52, .int .u8 240), (53, .int .u8 143), (54, .int .u8 10), (55, .int .u8 145), (56, .int .u8 38), (57, .int .u8 8), (58, .int .u8 5), (59, .int .u8 39), (60, .int .u8 45), (61, .int .u8 197), (62, .int .u8 16), (63, .int .u8 81), (64, .int .u8 198), (65, .int .u8 228), (66, .int .u8 122), (67, .int .u8 212), (68, .int .u8 250), (69, .int .u8 64), (70, .int .u8 59), (71, .int .u8 2), (72, .int .u8 180), (73, .int .u8 81), (74, .int .u8 11), (75, .int .u8 100), (76, .int .u8 122), (77, .int .u8 227), (78, .int .u8 209), (79, .int .u8 119), (80, .int .u8 11), (81, .int .u8 172), (82, .int .u8 3), (83, .int .u8 38), (84, .int .u8 168), (85, .int .u8 5), (86, .int .u8 187), (87, .int .u8 239), (88, .int .u8 212), (89, .int .u8 128), (90, .int .u8 86), (91, .int .u8 200), (92, .int .u8 193), (93, .int .u8 33), (94, .int .u8 189), (95, .int .u8 184)] (bcells gX ++ []) 5 := SliceTo.of fun _ => by kernel_rfl
theorem gX_small : ∀ c ∈ gX, c < 256 := by decide
theorem gY_sl : SliceTo Tryd.prog 22 96 [(0, .int .u8 6), (1, .int .u8 6), (2, .int .u8 196), (3, .int .u8 160), (4, .int .u8 46), (5, .int .u8 167), (6, .int .u8 52), (7, .int .u8 204), (8, .int .u8 50), (9, .int .u8 172), (10, .int .u8 210), (11, .int .u8 176), (12, .int .u8 43), (13, .int .u8 194), (14, .int .u8 139), (15, .int .u8 153), (16, .int .u8 203), (17, .int .u8 62), (18, .int .u8 40), (19, .int .u8 126), (20, .int .u8 133), (21, .int .u8 167), (22, .int .u8 99), (23, .int .u8 175), (24, .int .u8 38), (25, .int .u8 116), (26, .int .u8 146), (27, .int .u8 171), (28, .int .u8 87), (29, .int .u8 46), (30, .int .u8 153), (31, .int .u8 171), (32, .int .u8 63), (33, .int .u8 55), (34, .int .u8 13), (35, .int .u8 39), (36, .int .u8 92), (37, .int .u8 236), (38, .int .u8 29), (39, .int .u8 161), (40, .int .u8 170), (41, .int .u8 169), (42, .int .u8 7), (43, .int .u8 95), (44, .int .u8 240), (45, .int .u8 95), (46, .int .u8 121), (47, .int .u8 190), (48, .int .u8 12), (49, .int .u8 229), (50, .int .u8 213), (51, .int .u8 39), (52, .int .u8 114), (53, .int .u8 125), (54, .int .u8 110), (55, .int .u8 17), (56, .int .u8 140), (57, .int .u8 201), (58, .int .u8 205), (59, .int .u8 198), (60, .int .u8 218), (61, .int .u8 46), (62, .int .u8 53), (63, .int .u8 26), (64, .int .u8 173), (65, .int .u8 253), (66, .int .u8 155), (67, .int .u8 170), (68, .int .u8 140), (69, .int .u8 189), (70, .int .u8 211), (71, .int .u8 167), (72, .int .u8 109), (73, .int .u8 66), (74, .int .u8 154), (75, .int .u8 105), (76, .int .u8 81), (77, .int .u8 96), (78, .int .u8 209), (79, .int .u8 44), (80, .int .u8 146), (81, .int .u8 58), (82, .int .u8 201), (83, .int .u8 204), (84, .int .u8 59), (85, .int .u8 172), (86, .int .u8 162), (87, .int .u8 137), (88, .int .u8 225), (89, .int .u8 147), (90, .int .u8 84), (91, .int .u8 134), (92, .int .u8 8), (93, .int .u8 184), (94, .int .u8 40), (95, .int .u8 1)] (bcells gY ++ []) 5 := SliceTo.of fun _ => by kernel_rfl
theorem gY_small : ∀ c ∈ gY, c < 256 := by decide
theorem tX_sl : SliceTo Tryd.prog 22 96 [(0, .int .u8 26), (1, .int .u8 1), (2, .int .u8 17), (3, .int .u8 234), (4, .int .u8 57), (5, .int .u8 127), (6, .int .u8 230), (7, .int .u8 153), (8, .int .u8 236), (9, .int .u8 2), (10, .int .u8 64), (11, .int .u8 134), (12, .int .u8 99), (13, .int .u8 212), (14, .int .u8 222), (15, .int .u8 133), (16, .int .u8 170), (17, .int .u8 13), (18, .int .u8 133), (19, .int .u8 125), (20, .int .u8 137), (21, .int .u8 117), (22, .int .u8 154), (23, .int .u8 212), (24, .int .u8 137), (25, .int .u8 125), (26, .int .u8 41), (27, .int .u8 101), (28, .int .u8 15), (29, .int .u8 184), (30, .int .u8 95), (31, .int .u8 155), (32, .int .u8 64), (33, .int .u8 148), (34, .int .u8 39), (35, .int .u8 235), (36, .int .u8 79), (37, .int .u8 73), (38, .int .u8 255), (39, .int .u8 253), (40, .int .u8 139), (41, .int .u8 253), (42, .int .u8 0), (43, .int .u8 0), (44, .int .u8 0), (45, .int .u8 0), (46, .int .u8 170), (47, .int .u8 173), (48, .int .u8 0), (49, .int .u8 0), (50, .int .u8 0), (51, .int .u8 0), (52, .int .u8 0), (53, .int .u8 0), (54, .int .u8 0), (55, .int .u8 0), (56, .int .u8 0), (57, .int .u8 0), (58, .int .u8 0), (59, .int .u8 0), (60, .int .u8 0), (61, .int .u8 0), (62, .int .u8 0), (63, .int .u8 0), (64, .int .u8 0), (65, .int .u8 0), (66, .int .u8 0), (67, .int .u8 0), (68, .int .u8 0), (69, .int .u8 0), (70, .int .u8 0), (71, .int .u8 0), (72, .int .u8 0), (73, .int .u8 0), (74, .int .u8 0), (75, .int .u8 0), (76, .int .u8 0), (77, .int .u8 0), (78, .int .u8 0), (79, .int .u8 0), (80, .int .u8 0), (81, .int .u8 0), (82, .int .u8 0), (83, .int .u8 0), (84, .int .u8 0), (85, .int .u8 0), (86, .int .u8 0), (87, .int .u8 0), (88, .int .u8 0), (89, .int .u8 0), (90, .int .u8 0), (91, .int .u8 0), (92, .int .u8 0), (93, .int .u8 0), (94, .int .u8 0), (95, .int .u8 0)] (bcells tX ++ []) 5 := SliceTo.of fun _ => by kernel_rfl
theorem tX_small : ∀ c ∈ tX, c < 256 := by decide
theorem tY_sl : SliceTo Tryd.prog 22 96 [(0, .int .u8 6), (1, .int .u8 175), (2, .int .u8 14), (3, .int .u8 4), (4, .int .u8 55), (5, .int .u8 255), (6, .int .u8 64), (7, .int .u8 11), (8, .int .u8 104), (9, .int .u8 49), (10, .int .u8 227), (11, .int .u8 109), (12, .int .u8 107), (13, .int .u8 209), (14, .int .u8 127), (15, .int .u8 254), (16, .int .u8 72), (17, .int .u8 57), (18, .int .u8 93), (19, .int .u8 171), (20, .int .u8 194), (21, .int .u8 211), (22, .int .u8 67), (23, .int .u8 94), (24, .int .u8 119), (25, .int .u8 247), (26, .int .u8 110), (27, .int .u8 23), (28, .int .u8 0), (29, .int .u8 146), (30, .int .u8 65), (31, .int .u8 197), (32, .int .u8 238), (33, .int .u8 103), (34, .int .u8 153), (35, .int .u8 47), (36, .int .u8 114), (37, .int .u8 236), (38, .int .u8 5), (39, .int .u8 244), (40, .int .u8 200), (41, .int .u8 16), (42, .int .u8 132), (43, .int .u8 251), (44, .int .u8 237), (45, .int .u8 227), (46, .int .u8 204), (47, .int .u8 9), (48, .int .u8 19), (49, .int .u8 82), (50, .int .u8 3), (51, .int .u8 230), (52, .int .u8 1), (53, .int .u8 128), (54, .int .u8 166), (55, .int .u8 142), (56, .int .u8 226), (57, .int .u8 233), (58, .int .u8 196), (59, .int .u8 72), (60, .int .u8 215), (61, .int .u8 122), (62, .int .u8 44), (63, .int .u8 217), (64, .int .u8 28), (65, .int .u8 61), (66, .int .u8 237), (67, .int .u8 217), (68, .int .u8 48), (69, .int .u8 177), (70, .int .u8 207), (71, .int .u8 96), (72, .int .u8 239), (73, .int .u8 57), (74, .int .u8 100), (75, .int .u8 137), (76, .int .u8 246), (77, .int .u8 30), (78, .int .u8 180), (79, .int .u8 94), (80, .int .u8 48), (81, .int .u8 68), (82, .int .u8 102), (83, .int .u8 207), (84, .int .u8 62), (85, .int .u8 103), (86, .int .u8 250), (87, .int .u8 10), (88, .int .u8 241), (89, .int .u8 238), (90, .int .u8 123), (91, .int .u8 4), (92, .int .u8 18), (93, .int .u8 27), (94, .int .u8 222), (95, .int .u8 162)] (bcells tY ++ []) 5 := SliceTo.of fun _ => by kernel_rfl
theorem tY_small : ∀ c ∈ tY, c < 256 := by decide

theorem en64 : Vm.Enters Tryd.prog 64 := Vm.Enters.of fun _ _ => by kernel_rfl
theorem en25 : Vm.Enters Tryd.prog 25 := Vm.Enters.of fun _ _ => by kernel_rfl
theorem en63 : Vm.Enters Tryd.prog 63 := Vm.Enters.of fun _ _ => by kernel_rfl
set_option maxRecDepth 100000 in
theorem Gen_ok  {w : World} (hG : Blocks (GH T) w)  : Vm.Pure Tryd.prog 43 #[] w (encP gen) := by
  refine pure_of_W (n := 18) (args := []) Tryd.func43 rfl Tryd.ntmps43 (Nat.le_of_ble_eq_true rfl) hG ?_
  refine sStart ?_
  refine sSeq ?_
  refine W.region ?_
  refine OpsW.fresh (fr_alloc z48r) rfl fun b0 => ?_
  refine sNext ?_
  refine sSeq ?_
  refine W.region ?_
  refine OpsW.fresh (fr_buildSlice rfl gX_sl) rfl fun b6 => ?_
  refine OpsW.det (det_call en25 rfl (fun w hb ho => Read_ok (G' := [(b6, blk (bcells gX ++ []) 5)]) (Bs.of gX_small (Nat.le_refl _)) (blocks_cons (hb _ (List.Mem.head _)) ho.blocks))) rfl ?_
  refine OpsW.det (det_move rfl) rfl ?_
  refine OpsW.det (det_extract rfl rfl) rfl ?_
  refine OpsW.det (det_extract rfl rfl) rfl ?_
  refine OpsW.fresh (fr_alloc z46r) rfl fun b1 => ?_
  refine OpsW.storeW46 rfl rfl (Upd.here) ?_
  refine OpsW.det (det_assign rfl) rfl ?_
  refine sNext ?_
  refine W.keep (F' := [(1, _), (0, _)]) ⟨rfl, rfl, trivial⟩ ?_
  refine sSeq ?_
  refine W.region ?_
  refine OpsW.fresh (fr_buildSlice rfl gY_sl) rfl fun b11 => ?_
  refine OpsW.det (det_call en25 rfl (fun w hb ho => Read_ok (G' := [(b11, blk (bcells gY ++ []) 5)]) (Bs.of gY_small (Nat.le_refl _)) (blocks_cons (hb _ (List.Mem.head _)) ho.blocks))) rfl ?_
  refine OpsW.det (det_move rfl) rfl ?_
  refine OpsW.det (det_extract rfl rfl) rfl ?_
  refine OpsW.det (det_extract rfl rfl) rfl ?_
  refine OpsW.fresh (fr_alloc z46r) rfl fun b3 => ?_
  refine OpsW.storeW46 rfl rfl (Upd.here) ?_
  refine OpsW.det (det_assign rfl) rfl ?_
  refine sNext ?_
  refine W.keep (F' := [(3, _), (1, _), (0, _)]) ⟨rfl, rfl, rfl, trivial⟩ ?_
  refine sSeq ?_
  refine W.region ?_
  refine OpsW.det (det_loadW46 rfl (List.Mem.tail _ (List.Mem.tail _ (List.Mem.head _)))) rfl ?_
  refine OpsW.det (det_loadW46 rfl (List.Mem.head _)) rfl ?_
  refine OpsW.det (det_build rfl bld48) rfl ?_
  refine OpsW.storeW48 rfl rfl (Upd.there (Upd.there (Upd.there (Upd.there (Upd.here))))) ?_
  refine sNext ?_
  refine W.keep (F' := [(0, _)]) ⟨rfl, trivial⟩ ?_
  refine sRet ?_
  exact done1 Tryd.results43 (rv_cellA ty48 rfl (List.Mem.tail _ (List.Mem.tail _ (List.Mem.tail _ (List.Mem.tail _ (List.Mem.head _))))) rfl) rfl
set_option maxRecDepth 100000 in
theorem Pturn_ok {p : Pt} {w : World} (hG : Blocks (GH T) w)  : Vm.Pure Tryd.prog 63 #[encP p] w (encP (turnP p)) := by
  refine pure_of_W (n := 28) (args := [encP p]) Tryd.func63 rfl Tryd.ntmps63 (Nat.le_of_ble_eq_true rfl) hG ?_
  refine sStart ?_
  refine sSeq ?_
  refine W.region ?_
  refine OpsW.fresh (fr_boxW48 rfl) rfl fun b1 => ?_
  refine OpsW.fresh (fr_alloc z48r) rfl fun b2 => ?_
  refine sNext ?_
  refine W.keep (F' := [(2, _), (1, _)]) ⟨rfl, rfl, trivial⟩ ?_
  refine sSeq ?_
  refine W.region ?_
  refine OpsW.fresh (fr_buildSlice rfl tX_sl) rfl fun b8 => ?_
  refine OpsW.det (det_call en25 rfl (fun w hb ho => Read_ok (G' := [(b8, blk (bcells tX ++ []) 5)]) (Bs.of tX_small (Nat.le_refl _)) (blocks_cons (hb _ (List.Mem.head _)) ho.blocks))) rfl ?_
  refine OpsW.det (det_move rfl) rfl ?_
  refine OpsW.det (det_extract rfl rfl) rfl ?_
  refine OpsW.det (det_extract rfl rfl) rfl ?_
  refine OpsW.fresh (fr_alloc z46r) rfl fun b3 => ?_
  refine OpsW.storeW46 rfl rfl (Upd.here) ?_
  refine OpsW.det (det_assign rfl) rfl ?_
  refine sNext ?_
  refine W.keep (F' := [(3, _), (2, _), (1, _)]) ⟨rfl, rfl, rfl, trivial⟩ ?_
  refine sSeq ?_
  refine W.region ?_
  refine OpsW.fresh (fr_buildSlice rfl tY_sl) rfl fun b13 => ?_
  refine OpsW.det (det_call en25 rfl (fun w hb ho => Read_ok (G' := [(b13, blk (bcells tY ++ []) 5)]) (Bs.of tY_small (Nat.le_refl _)) (blocks_cons (hb _ (List.Mem.head _)) ho.blocks))) rfl ?_
  refine OpsW.det (det_move rfl) rfl ?_
  refine OpsW.det (det_extract rfl rfl) rfl ?_
  refine OpsW.det (det_extract rfl rfl) rfl ?_
  refine OpsW.fresh (fr_alloc z46r) rfl fun b5 => ?_
  refine OpsW.storeW46 rfl rfl (Upd.here) ?_
  refine OpsW.det (det_assign rfl) rfl ?_
  refine sNext ?_
  refine W.keep (F' := [(5, _), (3, _), (2, _), (1, _)]) ⟨rfl, rfl, rfl, rfl, trivial⟩ ?_
  refine sSeq ?_
  refine W.draw mixed 11 [[], [0], [0, 1], [], [0, 1, 2, 3], [], [5], [0, 1, 2, 3, 4, 5, 6], [], [0, 1, 2, 3, 4, 5, 6, 7, 8], [0, 1, 2, 3, 4, 5, 6, 7, 8, 9], [0, 1, 2, 3, 4, 5, 6, 7, 8, 9, 10]] (cl_lt (by decide)) ?_
  refine HeadR.start (cl_lt (by decide)) ?_
  refine HeadR.det rfl (fun β hβ => (det_fieldAddr fl48_0 rfl)) ?_
  refine HeadR.det rfl (fun β hβ => (det_loadA ty46 rfl (List.Mem.tail _ (List.Mem.tail _ (List.Mem.tail _ (List.Mem.tail _ (List.Mem.tail _ (List.Mem.head _)))))) rfl)) ?_
  refine HeadR.det rfl (fun β hβ => (det_call en84 rfl (fun w hb ho => Conj_ok ho.blocks))) ?_
  refine HeadR.det rfl (fun β hβ => (det_loadW46 rfl (List.Mem.tail _ (List.Mem.tail _ (List.Mem.head _))))) ?_
  refine HeadR.det rfl (fun β hβ => (det_call en27 rfl (fun w hb ho => Mul_ok ho.blocks))) ?_
  refine HeadR.det rfl (fun β hβ => (det_fieldAddr fl48_1 rfl)) ?_
  refine HeadR.det rfl (fun β hβ => (det_loadA ty46 rfl (List.Mem.tail _ (List.Mem.tail _ (List.Mem.tail _ (List.Mem.tail _ (List.Mem.tail _ (List.Mem.head _)))))) rfl)) ?_
  refine HeadR.det rfl (fun β hβ => (det_call en84 rfl (fun w hb ho => Conj_ok ho.blocks))) ?_
  refine HeadR.det rfl (fun β hβ => (det_loadW46 rfl (List.Mem.head _))) ?_
  refine HeadR.det rfl (fun β hβ => (det_call en27 rfl (fun w hb ho => Mul_ok ho.blocks))) ?_
  refine HeadR.det rfl (fun β hβ => (det_build rfl bld48)) ?_
  refine HeadR.done ⟨by kernel_rfl, fun β hβ => ?_⟩
  refine OpsW.norm (F' := [(17, _), (18, _), (19, _), (20, _), (21, _), (22, _), (23, _), (24, _), (25, _), (26, _), (27, _), (5, _), (3, _), (2, _), (1, _)]) (H' := [(_, _), (_, _), (_, _), (_, _), (_, _), (_, _)]) rfl rfl ?_
  refine OpsW.storeW48 rfl rfl (Upd.there (Upd.there (Upd.there (Upd.there (Upd.here))))) ?_
  refine sNext ?_
  refine W.keep (F' := [(2, _)]) ⟨rfl, trivial⟩ ?_
  refine sRet ?_
  exact done1 Tryd.results63 (rv_cellA ty48 rfl (List.Mem.tail _ (List.Mem.tail _ (List.Mem.tail _ (List.Mem.tail _ (List.Mem.head _))))) rfl) rfl
theorem PIn_ok {p : Pt} {w : World} (hG : Blocks (GH T) w)  : Vm.Pure Tryd.prog 30 #[encP p] w (.bool (inB p)) := by
  refine pure_of_W (n := 10) (args := [encP p]) Tryd.func30 rfl Tryd.ntmps30 (Nat.le_of_ble_eq_true rfl) hG ?_
  refine sStart ?_
  refine sSeq ?_
  refine W.region ?_
  refine OpsW.fresh (fr_boxW48 rfl) rfl fun b1 => ?_
  refine OpsW.det (det_assign rfl) rfl ?_
  refine sNext ?_
  refine W.keep (F' := [(1, _)]) ⟨rfl, trivial⟩ ?_
  refine sSeq ?_
  refine W.draw mixed 8 [[], [0], [], [], [0, 1, 2, 3], [0, 1, 2, 3, 4], [0, 1, 2, 3, 4, 5], [0, 1, 2, 3, 4, 5, 6]] (cl_lt (by decide)) ?_
  refine HeadR.start (cl_lt (by decide)) ?_
  refine HeadR.det rfl (fun β hβ => (det_loadW48 rfl (List.Mem.head _))) ?_
  refine HeadR.det rfl (fun β hβ => (det_call en63 rfl (fun w hb ho => Pturn_ok ho.blocks))) ?_
  refine HeadR.det rfl (fun β hβ => (det_loadW48 rfl (List.Mem.head _))) ?_
  refine HeadR.fresh rfl (fun β hβ => (fr_buildSlice rfl sizeL_sl).new) ?_
  refine HeadR.det rfl (fun β hβ => (det_call en64 rfl (fun w hb ho => Times_ok (G' := [((β 6).1, blk (bcells sizeL ++ []) 5)]) (p := p) (Bs.of sizeL_small (Nat.le_refl _)) (by decide) (blocks_cons (hb _ (List.Mem.head _)) ho.blocks)))) ?_
  refine HeadR.det rfl (fun β hβ => (det_call en46 rfl (fun w hb ho => PNeg_ok ho.blocks))) ?_
  refine HeadR.det rfl (fun β hβ => (det_eql48 rfl rfl)) ?_
  refine HeadR.det rfl (fun β hβ => (det_assign rfl)) ?_
  refine HeadR.done ⟨by kernel_rfl, fun β hβ => ?_⟩
  refine OpsW.norm (F' := [(3, _), (4, _), (5, _), (6, .slice (some ⟨(β 6).1, 0, none⟩) 8 8), (7, _), (8, _), (9, _), (2, _), (1, _)]) (H' := [(_, _), (_, _)]) rfl rfl ?_
  generalize (β 6).1 = b6
  refine sNext ?_
  refine W.keep (F' := [(2, _)]) ⟨rfl, trivial⟩ ?_
  refine sRet ?_
  exact done1 Tryd.results30 (rv_tmp rfl) rfl

end Go.Cw

/- What the rows of the codec's and of the setups' laws give their walks: the listed variables, slices of bytes; and a world for their witnesses. -/
namespace Go.Cu
open Go Go.Vm Go.RowKit Go.Proofs Go.Proofs.YtndonmbemehefaaDoor Go.ChangeShapes Go.WideShapes
set_option linter.unusedVariables false
set_option linter.unusedSimpArgs false
set_option linter.unusedSectionVars false
set_option linter.constructorNameAsVariable false

theorem laid_all {W : World} (h : laidMetH Tryd.prog Rows.dealSetupsRow.laid W) : ∃ T, Blocks (GH T) W := by
  have h : laidMet Tryd.prog [(_, Lib.tabData .u64 [13402431016077863595, 2210141511517208575, 7435674573564081700, 7239337960414712511, 5412103778470702295, 1873798617647539866]), (_, Lib.tabData .u64 [17644856173732828998, 754043588434789617, 10224657059481499349, 7488229067341005760, 11130996698012816685, 1267921511277847466])] W := h
  obtain ⟨t2, h2⟩ := laid_block (g := 1) (t := 27) (e := 26) (n := 6) (by kernel_rfl) (by kernel_rfl) (by kernel_rfl) (by kernel_rfl) (by kernel_rfl) (by kernel_rfl) h
  obtain ⟨t1, h1⟩ := laid_block (g := 0) (t := 27) (e := 26) (n := 6) (by kernel_rfl) (by kernel_rfl) (by kernel_rfl) (by kernel_rfl) (by kernel_rfl) (by kernel_rfl) (laid_tail h)
  refine ⟨fun i => match i with | 1 => t1 | _ => t2, fun p hp => ?_⟩
  simp only [GH, List.mem_cons, List.not_mem_nil, or_false] at hp
  rcases hp with rfl | rfl
  · exact h1
  · exact h2
theorem cells5 : Tryd.prog.cellsOf 5 = 1 := by kernel_rfl
set_option maxRecDepth 100000 in
/-- A slice of bytes among the arguments. -/
theorem open_Bs {H : Type} {enc : TypeId × Value → H} {W : World} {base : Nat} {v : Value} {d : DataW H} {ps : List MemPlace} (hval : Value.okWide Tryd.prog W .any base 22 v) (h : DataW.Trod enc Tryd.prog W 0 (fun _ => true) true 22 v d ps) :
    ∃ G' l, Bs G' v l ∧ Blocks G' W := by
  rcases open_u8s (P := Tryd.prog) (t := 22) (e := 5) Tryd.underlying22 Tryd.underlying5 cells5 hval h with rfl | ⟨b, o, len, cap, cs, T, fr, zs, rfl, hb, rfl, hlc, hcm, hz, hcell⟩
  · exact ⟨[], [], ⟨⟨none, 0, rfl⟩, fun c hc => (by cases hc), fun hc => (by cases hc)⟩, fun p hp => (by cases hp)⟩
  · refine ⟨[(b, .cells cs.toArray T fr)], zs, ⟨⟨_, _, rfl⟩, hz, fun _ => ⟨b, o, cap, cs, T, fr, rfl, List.mem_singleton.2 rfl, hlc, fun i h => ?_⟩⟩, fun p hp => ?_⟩
    · rw [hcell i zs[i] (List.getElem?_eq_getElem h)]; rfl
    · rw [List.mem_singleton.1 hp]; exact hb
theorem fit_u8 {a : Int} (h : (Lit.int .u8 a).wf = true) : ∃ n : Nat, a = (n : Int) ∧ n < 256 := by
  unfold Lit.wf at h
  simp only [Bool.and_eq_true, decide_eq_true_eq] at h
  have h : 0 ≤ a ∧ a ≤ 255 := h
  exact ⟨a.toNat, by omega, by omega⟩
theorem fit_u16 {a : Int} (h : (Lit.int .u16 a).wf = true) : ∃ n : Nat, a = (n : Int) ∧ n < 65536 := by
  unfold Lit.wf at h
  simp only [Bool.and_eq_true, decide_eq_true_eq] at h
  have h : 0 ≤ a ∧ a ≤ 65535 := h
  exact ⟨a.toNat, by omega, by omega⟩
/-- A world for the witnesses. -/
noncomputable def laidWorld (os : Os) : World :=
  { World.holding Tryd.prog os ⟨#[], #[], []⟩ with heap := (((World.holding Tryd.prog os ⟨#[], #[], []⟩).heap.modify 0 fun
      | .cells _ t frozen => .cells glo1.toArray t frozen
      | o => o).modify 1 fun
      | .cells _ t frozen => .cells glo2.toArray t frozen
      | o => o) }
/-- What the rows' readings ask of the program's types. -/
theorem laidOut : laidOutB Tryd.prog = true := by kernel_rfl
theorem own : ownKnob Tryd.prog.godebug = none := by kernel_rfl
end Go.Cu

/- The field's numbers: how they are written, which are the greater ones; a form's marks: the walks. Conditions: none. -/
namespace Go.Cu
open Go Go.Vm Go.RowKit Go.Proofs 
attribute [local irreducible] W OpsW Det Fresh New Writes Vm.Pure Makes Changes ExternTo BuildTo ZeroTo FieldTo IndexTo BinTo SliceTo Vm.Enters
set_option linter.unusedVariables false
set_option linter.unusedSimpArgs false
variable {T : Nat → TypeId × Nat × Nat}

theorem at6n {f : Nat → Nat} {i j : Nat} (h : i < 6) (e : j = i) : (w6 f)[j]? = some (u64 (f i)) := by
  subst e
  have : j = 0 ∨ j = 1 ∨ j = 2 ∨ j = 3 ∨ j = 4 ∨ j = 5 := by omega
  rcases this with rfl | rfl | rfl | rfl | rfl | rfl <;> rfl
theorem bytes_word6 {V i : Nat} (h : i < 6) : bytes V 48 (8 * i) ++ bytes (lim V (5 - i)) 8 8 = bytes V 48 (8 * (i + 1)) := by
  rw [Nat.mul_succ, bytes_more V 48 (8 * i) 8, bytes_all]
  congr 1
  refine List.map_congr_left fun j hj => ?_
  have hj : j < 8 := by simpa using hj
  rw [byt_lim (by omega)]
  congr 2
  omega
def fst6 (V i : Nat) : List Value := bytes V 48 (8 * i) ++ List.replicate (48 - 8 * i) (u8 0)
theorem fst6_put {V i : Nat} (h : i < 6) : splice (8 * i) (bytes (lim V (5 - i)) 8 8) (fst6 V i) = some (fst6 V (i + 1)) := by
  have := splice_app (a := bytes V 48 (8 * i)) (new := bytes (lim V (5 - i)) 8 8) (c := List.replicate (48 - 8 * i) (u8 0)) (by rw [bytes_len, List.length_replicate]; omega)
  rw [bytes_len] at this
  unfold fst6
  rw [this, bytes_word6 h, bytes_len, List.drop_replicate]
  congr 3
theorem u58 : Tryd.prog.underlying 58 = some (.array 48 5) := by kernel_rfl
theorem z58 : TyZ Tryd.prog 58 (.agg (fst6 0 0).toArray) (fst6 0 0) := ⟨fun _ => by kernel_rfl, by kernel_rfl⟩
theorem fst6_6 {V : Nat} : fst6 V 6 = bytes V 48 48 := by unfold fst6; simp
/-- How a number of the field is written. -/
def fbytes (x : Fq) : List Value := bytes x.val 48 48
theorem fbytes_len (x : Fq) : (fbytes x).length = 48 := bytes_len _ _ _
theorem fbytes_one (x : Fq) : (fbytes x).all (·.oneCell') = true := bytes_one _ _ _
theorem fst6_len {V i : Nat} (h : i ≤ 6) : (fst6 V i).length = 48 := by unfold fst6; rw [List.length_append, bytes_len, List.length_replicate]; omega
theorem fst6_one {V i : Nat} : (fst6 V i).all (·.oneCell') = true := by
  unfold fst6; rw [List.all_append, bytes_one, List.all_replicate]; simp; exact .inr rfl
theorem fbytes_cons (x : Fq) : fbytes x = u8 (byt x.val 47) :: (fbytes x).tail := by unfold fbytes; rw [bytes_all]; rfl
/-! ### The greater one of a number and its negative -/
def largeF (x : Fq) : Bool := decide ((0 - x).val < x.val)
theorem lt_of_div {a b m : Nat} (hm : 0 < m) (h : a / m ≠ b / m) : a < b ↔ a / m < b / m := by
  constructor
  · intro hab
    have := Nat.div_le_div_right (c := m) (Nat.le_of_lt hab)
    omega
  · intro hab
    exact Nat.lt_of_div_lt_div hab
theorem lim_div (V i : Nat) : V / 18446744073709551616 ^ i = V / 18446744073709551616 ^ (i + 1) * 18446744073709551616 + lim V i := by
  unfold lim
  rw [Nat.pow_succ, ← Nat.div_div_eq_div_mul]
  have := Nat.div_add_mod (V / 18446744073709551616 ^ i) 18446744073709551616
  omega
theorem large_start (x : Fq) : x.val / 18446744073709551616 ^ 6 = (0 - x).val / 18446744073709551616 ^ 6 := by
  have h1 := x.lt
  have h2 := (0 - x).lt
  rw [Nat.div_eq_of_lt (Nat.lt_trans h1 (by decide)), Nat.div_eq_of_lt (Nat.lt_trans h2 (by decide))]
theorem large_same {V U k : Nat} (hk : k < 6) (h : V / 18446744073709551616 ^ (6 - k) = U / 18446744073709551616 ^ (6 - k)) (he : ((lim V (5 - k) : Nat) : Int) = ((lim U (5 - k) : Nat) : Int)) : V / 18446744073709551616 ^ (6 - (k + 1)) = U / 18446744073709551616 ^ (6 - (k + 1)) := by
  have h1 := lim_div V (5 - k)
  have h2 := lim_div U (5 - k)
  rw [show 5 - k + 1 = 6 - k by omega] at h1 h2
  rw [show 6 - (k + 1) = 5 - k by omega, h1, h2, h, Int.ofNat_inj.1 he]
theorem large_here {V U k : Nat} (hk : k < 6) (h : V / 18446744073709551616 ^ (6 - k) = U / 18446744073709551616 ^ (6 - k)) (he : ¬ ((lim V (5 - k) : Nat) : Int) = ((lim U (5 - k) : Nat) : Int)) :
    decide (((lim U (5 - k) : Nat) : Int) < ((lim V (5 - k) : Nat) : Int)) = decide (U < V) := by
  have h1 := lim_div V (5 - k)
  have h2 := lim_div U (5 - k)
  rw [show 5 - k + 1 = 6 - k by omega] at h1 h2
  rw [h] at h1
  have hm : 0 < 18446744073709551616 ^ (5 - k) := Nat.pow_pos (by decide)
  generalize U / 18446744073709551616 ^ (6 - k) = z at h1 h2
  have hd : U / 18446744073709551616 ^ (5 - k) ≠ V / 18446744073709551616 ^ (5 - k) := by omega
  have := lt_of_div hm hd
  rw [Bool.eq_iff_iff, decide_eq_true_iff, decide_eq_true_iff, this, h1, h2]
  omega
theorem large_end {V U : Nat} (h : V / 18446744073709551616 ^ (6 - 6) = U / 18446744073709551616 ^ (6 - 6)) : (false : Bool) = decide (U < V) := by
  simp only [Nat.sub_self, Nat.pow_zero, Nat.div_one] at h
  rw [h]; simp
/-- The marks of a form. -/
def flg (s n l : Bool) : Int := (cond s 128 0) + (cond n 64 0) + (cond (s && !n && l) 32 0)

theorem en61 : Vm.Enters Tryd.prog 61 := Vm.Enters.of fun _ _ => by kernel_rfl
theorem en89 : Vm.Enters Tryd.prog 89 := Vm.Enters.of fun _ _ => by kernel_rfl
theorem sz58 : sizeIn Tryd.prog 58 = some 48 := by kernel_rfl
theorem ty58 : TyA Tryd.prog 58 48 := ⟨by kernel_rfl, by kernel_rfl⟩
theorem fput_ok {x n : Nat} (hx : x < 18446744073709551616) (hn : 0 < n ∧ n ≤ 8) {w : World} (hG : Blocks (GH T) w)  : Makes Tryd.prog 89 #[.slice none 0 0, u64 x, .int .i64 (n : Nat)] w (fun p => .slice (some ⟨p.1, 0, none⟩) n p.2.1) (fun p => [(p.1, blk (bytes x n n ++ p.2.2) 5)]) (fun p => (bytes x n n ++ p.2.2).length = p.2.1 * 1) := by
  refine makes_of_W (n := 23) (args := [.slice none 0 0, u64 x, .int .i64 (n : Nat)]) Tryd.func89 rfl Tryd.ntmps89 (Nat.le_of_ble_eq_true rfl) hG ?_
  refine sStart ?_
  refine sSeq ?_
  refine W.region ?_
  refine OpsW.det (det_assign rfl) rfl ?_
  refine sNext ?_
  refine W.keep (F' := [(0, _), (1, _), (2, _)]) ⟨rfl, rfl, rfl, trivial⟩ ?_
  refine sSeq ?_
  refine sSeq ?_
  refine W.region ?_
  refine OpsW.det (det_move rfl) rfl ?_
  refine OpsW.det (det_subZ (c := ((n - 0 : Nat) : Int) - 1) rfl rfl (by omega) (by omega)) rfl ?_
  refine OpsW.det (det_assign rfl) rfl ?_
  refine sNext ?_
  refine W.keep (F' := [(7, _), (0, _), (1, _)]) ⟨rfl, rfl, rfl, trivial⟩ ?_
  refine sBlock ?_
  refine sLoop (σ := Nat × Value × Hp) (fun s => [(7, .int .i64 (((n - s.1 : Nat) : Int) - 1)), (1, u64 x), (0, s.2.1)]) (fun s => s.2.2) (fun s => s.1 ≤ n ∧ IsSl 5 1 s.2.1 s.1 s.2.2 (bytes x n s.1)) (fun s => n - s.1) (0, .slice none 0 0, []) ⟨Nat.zero_le _, .nil⟩ ⟨rfl, rfl, rfl, trivial⟩ (List.Sublist.refl _) ?_
  rintro ⟨k, v, hp⟩ ⟨hk, hsl⟩
  change IsSl 5 1 v k hp (bytes x n k) at hsl
  change k ≤ n at hk
  refine W.norm (F' := [(7, .int .i64 (((n - k : Nat) : Int) - 1)), (1, u64 x), (0, v)]) (H' := hp) rfl rfl ?_
  refine sSeq ?_
  refine sSeq ?_
  refine W.region ?_
  refine OpsW.det (det_move rfl) rfl ?_
  refine OpsW.det (det_geq rfl rfl) rfl ?_
  refine sNext ?_
  refine W.keep (F' := [(11, _), (7, _), (1, _), (0, _)]) ⟨rfl, rfl, rfl, rfl, trivial⟩ ?_
  refine W.cond rfl (fun hc11 => ?_) (fun hc11 => ?_)
  · skip
    have hkn : k < n := by have h := hc11; simp only [decide_eq_true_eq] at h; omega
    refine W.norm (F' := [(11, _), (7, .int .i64 ((n - 1 - k : Nat) : Int)), (1, u64 x), (0, v)]) (H' := hp) (by rw [show ((n - k : Nat) : Int) - 1 = ((n - 1 - k : Nat) : Int) by omega]) rfl ?_
    refine sSkip ?_
    refine sSeq ?_
    refine sBlock ?_
    refine W.region ?_
    refine OpsW.det (det_move rfl) rfl ?_
    refine OpsW.det (det_move rfl) rfl ?_
    refine OpsW.det (det_move rfl) rfl ?_
    refine OpsW.det ((det_mul rfl rfl).to (v := .int .i64 ((8 * (n - 1 - k) : Nat) : Int)) (by rw [wrap_i64 (by omega)]; congr 1)) rfl ?_
    refine OpsW.det (det_shrN rfl rfl (by omega)) rfl ?_
    refine OpsW.det ((det_conv u26 u5 rfl).to (v := u8 (byt x (n - 1 - k))) (by rw [wrap_u8, byt_eq]; rfl)) rfl ?_
    refine OpsW.fresh (fr_buildSlice rfl slice22) rfl fun b20 => ?_
    refine OpsW.perm (H' := hp ++ [(b20, blk [u8 (byt x (n - 1 - k))] 5)]) List.perm_append_comm ?_
    refine OpsW.append (dd := 21) ty22 rfl hsl rfl (.inl (List.mem_append_right _ (List.Mem.head _))) rfl (fun j u h => by simpa using h) rfl (by show k + 1 ≤ 9223372036854775807; omega) (by show (k + 1) * 1 ≤ 140737488355328; omega) rfl fun v' hp' hsl' => ?_
    refine OpsW.det (det_assign rfl) rfl ?_
    refine sLast ?_
    refine bNext ?_
    refine W.keep (F' := [(0, _), (7, _), (1, _)]) ⟨rfl, rfl, rfl, trivial⟩ ?_
    refine W.region ?_
    refine OpsW.det (det_move rfl) rfl ?_
    refine OpsW.det (det_subZ (c := ((n - (k + 1) : Nat) : Int) - 1) rfl rfl (by omega) (by omega)) rfl ?_
    refine OpsW.det (det_assign rfl) rfl ?_
    refine sLast ?_
    exact rEnd (k + 1, v', hp') ⟨by omega, hsl'⟩ ⟨rfl, rfl, rfl, trivial⟩ (List.sublist_append_left _ _) (by show n - (k + 1) < n - k; omega)
  · skip
    have hkn : k = n := by have h := hc11; simp only [decide_eq_false_iff_not] at h; omega
    subst hkn
    obtain ⟨p, rfl, rfl, hpp⟩ := isSl_at hsl hn.1
    refine sExit ?_
    refine xLoop ?_
    refine xHere ?_
    refine W.keep (F' := [(0, _)]) ⟨rfl, trivial⟩ ?_
    refine sSeq ?_
    refine W.region ?_
    refine OpsW.det (det_move rfl) rfl ?_
    refine OpsW.det (det_assign rfl) rfl ?_
    refine sNext ?_
    refine W.keep (F' := [(6, _)]) ⟨rfl, trivial⟩ ?_
    refine sRet ?_
    exact done1 Tryd.results89 (rv_tmp rfl) ⟨p, hpp, rfl, List.Sublist.refl _⟩
theorem FBytes_ok {x : Fq} {w : World} (hG : Blocks (GH T) w)  : Vm.Pure Tryd.prog 68 #[encF x] w (.agg (fbytes x).toArray) := by
  refine pure_of_W (n := 22) (args := [encF x]) Tryd.func68 rfl Tryd.ntmps68 (Nat.le_of_ble_eq_true rfl) hG ?_
  refine sStart ?_
  refine sSeq ?_
  refine W.region ?_
  refine OpsW.fresh (fr_box rfl rfl) rfl fun b1 => ?_
  refine OpsW.fresh (fr_alloc z58) rfl fun b2 => ?_
  refine sNext ?_
  refine W.keep (F' := [(2, _), (1, _)]) ⟨rfl, rfl, trivial⟩ ?_
  refine sSeq ?_
  refine W.region ?_
  refine OpsW.fresh (fr_alloc z58) rfl fun b3 => ?_
  refine sNext ?_
  refine sSeq ?_
  refine W.region ?_
  refine OpsW.det (det_loadA ty29 rfl (List.Mem.tail _ (List.Mem.tail _ (List.Mem.head _))) rfl) rfl ?_
  refine OpsW.det (det_call en61 rfl (fun w hb ho => Cu.Plain_ok ho.blocks)) rfl ?_
  refine OpsW.fresh (fr_alloc z27) rfl fun b4 => ?_
  refine OpsW.store sz27 rfl rfl rfl rfl rfl (Upd.here) rfl ?_
  refine sNext ?_
  refine W.keep (F' := [(4, _), (3, _), (2, _)]) ⟨rfl, rfl, rfl, trivial⟩ ?_
  refine sSeq ?_
  refine sSeq ?_
  refine W.region ?_
  refine OpsW.det (det_move rfl) rfl ?_
  refine sNext ?_
  refine sBlock ?_
  refine sLoop (σ := Nat) (fun i => [(8, .int .i64 (i : Nat)), (4, .pointer (some ⟨b4, 0, none⟩)), (3, .pointer (some ⟨b3, 0, none⟩)), (2, .pointer (some ⟨b2, 0, none⟩))]) (fun i => [(b4, blk (w6 (lim x.val)) 27), (b3, blk (fst6 x.val i) 58), (b2, blk (fst6 0 0) 58), (b1, blk (w6 (lim (mont x))) 29)]) (fun i => i ≤ 6) (fun i => 6 - i) 0 (by decide) ⟨rfl, rfl, rfl, rfl, trivial⟩ (List.Sublist.refl _) ?_
  intro i hi
  refine sSeq ?_
  refine W.region ?_
  refine OpsW.det (det_lss rfl rfl) rfl ?_
  refine sNext ?_
  refine sSeq ?_
  refine W.cond rfl (fun hc9 => ?_) (fun hc9 => ?_)
  · skip
    have hlt : i < 6 := by have h := hc9; simp only [decide_eq_true_eq] at h; omega
    refine sSkip ?_
    refine sSeq ?_
    refine sBlock ?_
    refine sSeq ?_
    refine W.region ?_
    refine OpsW.det (det_move rfl) rfl ?_
    refine OpsW.det (det_assign rfl) rfl ?_
    refine sNext ?_
    refine W.keep (F' := [(5, _), (8, _), (4, _), (3, _), (2, _)]) ⟨rfl, rfl, rfl, rfl, rfl, trivial⟩ ?_
    refine W.draw mixed 8 [[], [0], [0, 1], [], [3], [3, 4], [3, 4, 5], [3, 4, 5, 6], [0, 1, 2, 3, 4, 5, 6, 7]] (cl_lt (by decide)) ?_
    refine HeadR.start (cl_lt (by decide)) ?_
    refine HeadR.det rfl (fun β hβ => (det_move rfl)) ?_
    refine HeadR.det rfl (fun β hβ => ((det_mul rfl rfl).to (v := .int .i64 ((8 * i : Nat) : Int)) (by rw [wrap_i64 (by omega)]; congr 1))) ?_
    refine HeadR.det rfl (fun β hβ => ((det_sliceArr (lo := some (.tmp 12)) (hi := none) (l := 8 * i) (h := 48) u58 sz5 rfl ⟨_, rfl⟩ rfl (by omega) (by omega)).to (v := .slice (some ⟨b3, 8 * i, none⟩) (48 - 8 * i) (48 - 8 * i)) (by rw [if_neg (by omega)]; simp))) ?_
    refine HeadR.det rfl (fun β hβ => (det_move rfl)) ?_
    refine HeadR.det rfl (fun β hβ => (det_subZ (c := ((5 - i : Nat) : Int)) rfl rfl (by omega) (by omega))) ?_
    refine HeadR.det rfl (fun β hβ => (det_indexAddr_arr u27 sz26 rfl rfl ⟨by omega, by omega⟩)) ?_
    refine HeadR.det rfl (fun β hβ => (det_loadC ty26 rfl (List.Mem.head _) (at6n (f := lim x.val) (i := 5 - i) (by omega) (by omega)))) ?_
    refine HeadR.fresh rfl (fun β hβ => (new_call en89 rfl (fun w hb ho => fput_ok (x := lim x.val (5 - i)) (n := 8) (lim_lt _ _) (by decide) ho.blocks))) ?_
    refine HeadR.done ⟨by kernel_rfl, fun β hβ => ?_⟩
    refine OpsW.norm (F' := [(11, _), (12, _), (13, _), (14, _), (15, _), (16, _), (17, _), (18, .slice (some ⟨(β 18).1, 0, none⟩) 8 (β 18).2.1), (5, _), (8, _), (4, _), (3, _), (2, _)]) (H' := [(_, _), (_, _), (_, _), (_, _), (_, _)]) rfl rfl ?_
    generalize β 18 = p18
    refine OpsW.copy u22 sz5 rfl rfl (.inl (List.Mem.head _)) (by rw [bytes_len]; show 8 = min 8 (48 - 8 * i); omega) (fun j u h => by rw [Nat.zero_add, List.getElem?_append_left (List.getElem?_eq_some_iff.1 h).1]; exact h) (bytes_one _ _ _) (Upd.there (Upd.there Upd.here)) (fst6_put hlt) rfl ?_
    refine sLast ?_
    refine bNext ?_
    refine W.keep (F' := [(8, _), (4, _), (3, _), (2, _)]) ⟨rfl, rfl, rfl, rfl, trivial⟩ ?_
    refine W.region ?_
    refine OpsW.det (det_addN (b := 1) rfl rfl (idx_ok hlt (by decide))) rfl ?_
    refine OpsW.det (det_move rfl) rfl ?_
    refine sLast ?_
    exact rEnd (i + 1) hlt ⟨rfl, rfl, rfl, rfl, trivial⟩ (List.Sublist.cons _ (List.Sublist.refl _)) (step_lt hlt)
  · skip
    have hi6 : i = 6 := by have h := hc9; simp only [decide_eq_false_iff_not] at h; omega
    subst hi6
    refine sExit ?_
    refine xLoop ?_
    refine xHere ?_
    refine W.keep (F' := [(3, _), (2, _)]) ⟨rfl, rfl, trivial⟩ ?_
    refine sSeq ?_
    refine W.region ?_
    refine OpsW.det (det_loadA ty58 rfl (List.Mem.tail _ (List.Mem.head _)) (show cut 0 48 (fst6 x.val 6) = some (fst6 x.val 6) from cut_all (fst6_len (Nat.le_refl _)))) rfl ?_
    refine OpsW.store sz58 rfl rfl rfl (fst6_len (Nat.le_refl _)) fst6_one (Upd.there (Upd.there (Upd.here))) (splice_all (by rw [fst6_len (Nat.le_refl _), fst6_len (Nat.zero_le _)])) ?_
    refine sNext ?_
    refine W.keep (F' := [(2, _)]) ⟨rfl, trivial⟩ ?_
    refine sRet ?_
    exact done1 Tryd.results68 (rv_cellA ty58 rfl (List.Mem.tail _ (List.Mem.tail _ (List.Mem.head _))) (show cut 0 48 (fst6 x.val 6) = some (fst6 x.val 6) from cut_all (fst6_len (Nat.le_refl _)))) (congrArg (fun l : List Value => Value.agg l.toArray) fst6_6)
theorem Large_ok {x : Fq} {w : World} (hG : Blocks (GH T) w)  : Vm.Pure Tryd.prog 22 #[encF x] w (.bool (largeF x)) := by
  refine pure_of_W (n := 29) (args := [encF x]) Tryd.func22 rfl Tryd.ntmps22 (Nat.le_of_ble_eq_true rfl) hG ?_
  refine sStart ?_
  refine sSeq ?_
  refine W.region ?_
  refine OpsW.fresh (fr_box rfl rfl) rfl fun b1 => ?_
  refine OpsW.det (det_assign rfl) rfl ?_
  refine sNext ?_
  refine W.keep (F' := [(1, _)]) ⟨rfl, trivial⟩ ?_
  refine sSeq ?_
  refine W.draw mixed 7 [[], [0], [], [0, 1, 2], [0, 1, 2, 3], [], [], [0, 1, 2, 3, 4, 5, 6], [0, 1, 2, 3, 4, 5, 6, 7]] (cl_lt (by decide)) ?_
  refine HeadR.start (cl_lt (by decide)) ?_
  refine HeadR.det rfl (fun β hβ => (det_loadA ty29 rfl (List.Mem.head _) rfl)) ?_
  refine HeadR.det rfl (fun β hβ => (det_call en61 rfl (fun w hb ho => Cu.Plain_ok ho.blocks))) ?_
  refine HeadR.det rfl (fun β hβ => (det_loadA ty29 rfl (List.Mem.head _) rfl)) ?_
  refine HeadR.det rfl (fun β hβ => (det_call en23 rfl (fun w hb ho => Cu.Neg_ok ho.blocks))) ?_
  refine HeadR.det rfl (fun β hβ => (det_call en61 rfl (fun w hb ho => Cu.Plain_ok ho.blocks))) ?_
  refine HeadR.fresh rfl (fun β hβ => (fr_alloc z27).new) ?_
  refine HeadR.fresh rfl (fun β hβ => (fr_alloc z27).new) ?_
  refine HeadR.done ⟨by kernel_rfl, fun β hβ => ?_⟩
  refine OpsW.norm (F' := [(6, _), (7, _), (8, _), (9, _), (10, _), (3, .pointer (some ⟨(β 3).1, 0, none⟩)), (4, .pointer (some ⟨(β 4).1, 0, none⟩)), (1, _)]) (H' := [(_, _), (_, _), (_, _)]) rfl rfl ?_
  generalize (β 3).1 = b3
  generalize (β 4).1 = b4
  refine OpsW.store sz27 rfl rfl rfl rfl rfl (Upd.here) rfl ?_
  refine OpsW.store sz27 rfl rfl rfl rfl rfl (Upd.there (Upd.here)) rfl ?_
  refine sNext ?_
  refine W.keep (F' := [(3, _), (4, _)]) ⟨rfl, rfl, trivial⟩ ?_
  refine sSeq ?_
  refine sSeq ?_
  refine W.region ?_
  refine OpsW.det (det_assign rfl) rfl ?_
  refine sNext ?_
  refine sBlock ?_
  refine sLoop (σ := Nat) (fun k => [(5, .int .i64 ((5 : Int) - ((k : Nat) : Int))), (4, .pointer (some ⟨b4, 0, none⟩)), (3, .pointer (some ⟨b3, 0, none⟩))]) (fun k => [(b3, blk (w6 (lim x.val)) 27), (b4, blk (w6 (lim (0 - x).val)) 27)]) (fun k => k ≤ 6 ∧ x.val / 18446744073709551616 ^ (6 - k) = (0 - x).val / 18446744073709551616 ^ (6 - k)) (fun k => 6 - k) 0 ⟨by decide, large_start x⟩ ⟨rfl, rfl, rfl, trivial⟩ (List.Sublist.cons_cons _ (List.Sublist.cons_cons _ (List.nil_sublist _))) ?_
  rintro k ⟨hk6, hI⟩
  refine sSeq ?_
  refine sSeq ?_
  refine W.region ?_
  refine OpsW.det (det_move rfl) rfl ?_
  refine OpsW.det (det_geq (a := (5 : Int) - ((k : Nat) : Int)) (b := 0) rfl rfl) rfl ?_
  refine sNext ?_
  refine W.keep (F' := [(12, _), (5, _), (4, _), (3, _)]) ⟨rfl, rfl, rfl, rfl, trivial⟩ ?_
  refine W.cond rfl (fun hc12 => ?_) (fun hc12 => ?_)
  · skip
    have hk : k < 6 := by have h := hc12; simp only [decide_eq_true_eq] at h; omega
    refine sSkip ?_
    refine sSeq ?_
    refine sBlock ?_
    refine sSeq ?_
    refine W.draw mixed 7 [[], [0], [0, 1], [], [3], [3, 4], [0, 1, 2, 3, 4, 5]] (cl_lt (by decide)) ?_
    refine HeadR.start (cl_lt (by decide)) ?_
    refine HeadR.det rfl (fun β hβ => (det_move rfl)) ?_
    refine HeadR.det rfl (fun β hβ => (det_indexAddr_arr u27 sz26 rfl rfl ⟨by omega, by omega⟩)) ?_
    refine HeadR.det rfl (fun β hβ => (det_loadC ty26 rfl (List.Mem.head _) (at6n (f := lim x.val) (i := 5 - k) (by omega) (by omega)))) ?_
    refine HeadR.det rfl (fun β hβ => (det_move rfl)) ?_
    refine HeadR.det rfl (fun β hβ => (det_indexAddr_arr u27 sz26 rfl rfl ⟨by omega, by omega⟩)) ?_
    refine HeadR.det rfl (fun β hβ => (det_loadC ty26 rfl (List.Mem.tail _ (List.Mem.head _)) (at6n (f := lim (0 - x).val) (i := 5 - k) (by omega) (by omega)))) ?_
    refine HeadR.det rfl (fun β hβ => ((det_neq (a := ((lim x.val (5 - k) : Nat) : Int)) (b := ((lim (0 - x).val (5 - k) : Nat) : Int)) rfl rfl))) ?_
    refine HeadR.done ⟨by kernel_rfl, fun β hβ => ?_⟩
    refine OpsW.norm (F' := [(15, _), (16, _), (17, _), (18, _), (19, _), (20, _), (21, _), (12, _), (5, _), (4, _), (3, _)]) (H' := [(_, _), (_, _)]) rfl rfl ?_
    refine sNext ?_
    refine W.keep (F' := [(21, _), (5, _), (4, _), (3, _)]) ⟨rfl, rfl, rfl, rfl, trivial⟩ ?_
    refine W.cond rfl (fun hc21 => ?_) (fun hc21 => ?_)
    · skip
      refine sSeq ?_
      refine W.draw mixed 8 [[], [0], [0, 1], [], [3], [3, 4], [0, 1, 2, 3, 4, 5], [0, 1, 2, 3, 4, 5, 6]] (cl_lt (by decide)) ?_
      refine HeadR.start (cl_lt (by decide)) ?_
      refine HeadR.det rfl (fun β hβ => (det_move rfl)) ?_
      refine HeadR.det rfl (fun β hβ => (det_indexAddr_arr u27 sz26 rfl rfl ⟨by omega, by omega⟩)) ?_
      refine HeadR.det rfl (fun β hβ => (det_loadC ty26 rfl (List.Mem.head _) (at6n (f := lim x.val) (i := 5 - k) (by omega) (by omega)))) ?_
      refine HeadR.det rfl (fun β hβ => (det_move rfl)) ?_
      refine HeadR.det rfl (fun β hβ => (det_indexAddr_arr u27 sz26 rfl rfl ⟨by omega, by omega⟩)) ?_
      refine HeadR.det rfl (fun β hβ => (det_loadC ty26 rfl (List.Mem.tail _ (List.Mem.head _)) (at6n (f := lim (0 - x).val) (i := 5 - k) (by omega) (by omega)))) ?_
      refine HeadR.det rfl (fun β hβ => ((det_gtr (a := ((lim x.val (5 - k) : Nat) : Int)) (b := ((lim (0 - x).val (5 - k) : Nat) : Int)) rfl rfl))) ?_
      refine HeadR.det rfl (fun β hβ => (det_assign rfl)) ?_
      refine HeadR.done ⟨by kernel_rfl, fun β hβ => ?_⟩
      refine OpsW.norm (F' := [(22, _), (23, _), (24, _), (25, _), (26, _), (27, _), (28, _), (2, _), (21, _), (5, _), (4, _), (3, _)]) (H' := [(_, _), (_, _)]) rfl rfl ?_
      refine sNext ?_
      refine W.keep (F' := [(2, _)]) ⟨rfl, trivial⟩ ?_
      refine sRet ?_
      refine retBlk ?_
      refine retLoop ?_
      refine retBlk ?_
      exact done1 Tryd.results22 (rv_tmp rfl) (congrArg Value.bool (large_here hk hI (by have h := hc21; simpa using h)))
    · skip
      refine sSkip0 ?_
      refine bNext ?_
      refine W.keep (F' := [(5, _), (4, _), (3, _)]) ⟨rfl, rfl, rfl, trivial⟩ ?_
      refine W.region ?_
      refine OpsW.det (det_move rfl) rfl ?_
      refine OpsW.det (det_subZ (a := (5 : Int) - ((k : Nat) : Int)) (b := 1) (c := (5 : Int) - ((k + 1 : Nat) : Int)) rfl rfl (by omega) (by omega)) rfl ?_
      refine OpsW.det (det_assign rfl) rfl ?_
      refine sLast ?_
      exact rEnd (k + 1) ⟨hk, large_same hk hI (by have h := hc21; simpa using h)⟩ ⟨rfl, rfl, rfl, trivial⟩ (List.Sublist.refl _) (step_lt hk)
  · skip
    have hk : k = 6 := by have h := hc12; simp only [decide_eq_false_iff_not] at h; omega
    subst hk
    refine sExit ?_
    refine xLoop ?_
    refine xHere ?_
    refine W.keep (F' := []) trivial ?_
    refine sSeq ?_
    refine W.region ?_
    refine OpsW.det (det_assign rfl) rfl ?_
    refine sNext ?_
    refine sRet ?_
    exact done1 Tryd.results22 (rv_tmp rfl) (congrArg Value.bool (large_end hI))
theorem flags_ok {s n l : Bool} {w : World} (hG : Blocks (GH T) w)  : Vm.Pure Tryd.prog 69 #[.bool s, .bool n, .bool l] w (.int .u8 (flg s n l)) := by
  refine pure_of_W (n := 25) (args := [.bool s, .bool n, .bool l]) Tryd.func69 rfl Tryd.ntmps69 (Nat.le_of_ble_eq_true rfl) hG ?_
  refine sStart ?_
  refine sSeq ?_
  refine W.region ?_
  refine OpsW.det (det_assign rfl) rfl ?_
  refine sNext ?_
  refine W.keep (F' := [(0, _), (1, _), (2, _)]) ⟨rfl, rfl, rfl, trivial⟩ ?_
  refine sSeq ?_
  rcases s with _ | _ <;> rcases n with _ | _ <;> rcases l with _ | _
  · skip
    refine W.region ?_
    refine OpsW.det (det_assign rfl) rfl ?_
    refine sNext ?_
    refine sSeq ?_
    refine sSeq ?_
    refine W.region ?_
    refine OpsW.det (det_move rfl) rfl ?_
    refine sNext ?_
    refine W.cond_false rfl ?_
    refine sSkip ?_
    refine sSeq ?_
    refine sSeq ?_
    refine W.region ?_
    refine OpsW.det (det_move rfl) rfl ?_
    refine sNext ?_
    refine W.keep (F' := [(11, _), (7, _), (0, _), (1, _), (2, _)]) ⟨rfl, rfl, rfl, rfl, rfl, trivial⟩ ?_
    refine W.cond_false rfl ?_
    refine sSkip ?_
    refine sSeq ?_
    refine sSeq ?_
    refine W.region ?_
    refine OpsW.det (det_move rfl) rfl ?_
    refine OpsW.det (det_move rfl) rfl ?_
    refine OpsW.guard_no rfl rfl rfl ?_
    refine OpsW.guard_no rfl rfl rfl ?_
    refine OpsW.det (det_pick rfl rfl) rfl ?_
    refine OpsW.det (det_move rfl) rfl ?_
    refine OpsW.guard_no rfl rfl rfl ?_
    refine OpsW.det (det_pick rfl rfl) rfl ?_
    refine sNext ?_
    refine W.keep (F' := [(21, _), (7, _)]) ⟨rfl, rfl, trivial⟩ ?_
    refine W.cond_false rfl ?_
    refine sSkip ?_
    refine sSeq ?_
    refine W.region ?_
    refine OpsW.det (det_move rfl) rfl ?_
    refine OpsW.det (det_assign rfl) rfl ?_
    refine sNext ?_
    refine W.keep (F' := [(6, _)]) ⟨rfl, trivial⟩ ?_
    refine sRet ?_
    exact done1 Tryd.results69 (rv_tmp rfl) (by kernel_rfl)
  · skip
    refine W.region ?_
    refine OpsW.det (det_assign rfl) rfl ?_
    refine sNext ?_
    refine sSeq ?_
    refine sSeq ?_
    refine W.region ?_
    refine OpsW.det (det_move rfl) rfl ?_
    refine sNext ?_
    refine W.cond_false rfl ?_
    refine sSkip ?_
    refine sSeq ?_
    refine sSeq ?_
    refine W.region ?_
    refine OpsW.det (det_move rfl) rfl ?_
    refine sNext ?_
    refine W.keep (F' := [(11, _), (7, _), (0, _), (1, _), (2, _)]) ⟨rfl, rfl, rfl, rfl, rfl, trivial⟩ ?_
    refine W.cond_false rfl ?_
    refine sSkip ?_
    refine sSeq ?_
    refine sSeq ?_
    refine W.region ?_
    refine OpsW.det (det_move rfl) rfl ?_
    refine OpsW.det (det_move rfl) rfl ?_
    refine OpsW.guard_no rfl rfl rfl ?_
    refine OpsW.guard_no rfl rfl rfl ?_
    refine OpsW.det (det_pick rfl rfl) rfl ?_
    refine OpsW.det (det_move rfl) rfl ?_
    refine OpsW.guard_no rfl rfl rfl ?_
    refine OpsW.det (det_pick rfl rfl) rfl ?_
    refine sNext ?_
    refine W.keep (F' := [(21, _), (7, _)]) ⟨rfl, rfl, trivial⟩ ?_
    refine W.cond_false rfl ?_
    refine sSkip ?_
    refine sSeq ?_
    refine W.region ?_
    refine OpsW.det (det_move rfl) rfl ?_
    refine OpsW.det (det_assign rfl) rfl ?_
    refine sNext ?_
    refine W.keep (F' := [(6, _)]) ⟨rfl, trivial⟩ ?_
    refine sRet ?_
    exact done1 Tryd.results69 (rv_tmp rfl) (by kernel_rfl)
  · skip
    refine W.region ?_
    refine OpsW.det (det_assign rfl) rfl ?_
    refine sNext ?_
    refine sSeq ?_
    refine sSeq ?_
    refine W.region ?_
    refine OpsW.det (det_move rfl) rfl ?_
    refine sNext ?_
    refine W.cond_false rfl ?_
    refine sSkip ?_
    refine sSeq ?_
    refine sSeq ?_
    refine W.region ?_
    refine OpsW.det (det_move rfl) rfl ?_
    refine sNext ?_
    refine W.keep (F' := [(11, _), (7, _), (0, _), (1, _), (2, _)]) ⟨rfl, rfl, rfl, rfl, rfl, trivial⟩ ?_
    refine W.cond_true rfl ?_
    refine W.region ?_
    refine OpsW.det (det_move rfl) rfl ?_
    refine OpsW.det (det_or rfl rfl) rfl ?_
    refine OpsW.det (det_assign rfl) rfl ?_
    refine sNext ?_
    refine W.keep (F' := [(7, _), (0, _), (1, _), (2, _)]) ⟨rfl, rfl, rfl, rfl, trivial⟩ ?_
    refine sSeq ?_
    refine sSeq ?_
    refine W.region ?_
    refine OpsW.det (det_move rfl) rfl ?_
    refine OpsW.det (det_move rfl) rfl ?_
    refine OpsW.guard_no rfl rfl rfl ?_
    refine OpsW.guard_no rfl rfl rfl ?_
    refine OpsW.det (det_pick rfl rfl) rfl ?_
    refine OpsW.det (det_move rfl) rfl ?_
    refine OpsW.guard_no rfl rfl rfl ?_
    refine OpsW.det (det_pick rfl rfl) rfl ?_
    refine sNext ?_
    refine W.keep (F' := [(21, _), (7, _)]) ⟨rfl, rfl, trivial⟩ ?_
    refine W.cond_false rfl ?_
    refine sSkip ?_
    refine sSeq ?_
    refine W.region ?_
    refine OpsW.det (det_move rfl) rfl ?_
    refine OpsW.det (det_assign rfl) rfl ?_
    refine sNext ?_
    refine W.keep (F' := [(6, _)]) ⟨rfl, trivial⟩ ?_
    refine sRet ?_
    exact done1 Tryd.results69 (rv_tmp rfl) (by kernel_rfl)
  · skip
    refine W.region ?_
    refine OpsW.det (det_assign rfl) rfl ?_
    refine sNext ?_
    refine sSeq ?_
    refine sSeq ?_
    refine W.region ?_
    refine OpsW.det (det_move rfl) rfl ?_
    refine sNext ?_
    refine W.cond_false rfl ?_
    refine sSkip ?_
    refine sSeq ?_
    refine sSeq ?_
    refine W.region ?_
    refine OpsW.det (det_move rfl) rfl ?_
    refine sNext ?_
    refine W.keep (F' := [(11, _), (7, _), (0, _), (1, _), (2, _)]) ⟨rfl, rfl, rfl, rfl, rfl, trivial⟩ ?_
    refine W.cond_true rfl ?_
    refine W.region ?_
    refine OpsW.det (det_move rfl) rfl ?_
    refine OpsW.det (det_or rfl rfl) rfl ?_
    refine OpsW.det (det_assign rfl) rfl ?_
    refine sNext ?_
    refine W.keep (F' := [(7, _), (0, _), (1, _), (2, _)]) ⟨rfl, rfl, rfl, rfl, trivial⟩ ?_
    refine sSeq ?_
    refine sSeq ?_
    refine W.region ?_
    refine OpsW.det (det_move rfl) rfl ?_
    refine OpsW.det (det_move rfl) rfl ?_
    refine OpsW.guard_no rfl rfl rfl ?_
    refine OpsW.guard_no rfl rfl rfl ?_
    refine OpsW.det (det_pick rfl rfl) rfl ?_
    refine OpsW.det (det_move rfl) rfl ?_
    refine OpsW.guard_no rfl rfl rfl ?_
    refine OpsW.det (det_pick rfl rfl) rfl ?_
    refine sNext ?_
    refine W.keep (F' := [(21, _), (7, _)]) ⟨rfl, rfl, trivial⟩ ?_
    refine W.cond_false rfl ?_
    refine sSkip ?_
    refine sSeq ?_
    refine W.region ?_
    refine OpsW.det (det_move rfl) rfl ?_
    refine OpsW.det (det_assign rfl) rfl ?_
    refine sNext ?_
    refine W.keep (F' := [(6, _)]) ⟨rfl, trivial⟩ ?_
    refine sRet ?_
    exact done1 Tryd.results69 (rv_tmp rfl) (by kernel_rfl)
  · skip
    refine W.region ?_
    refine OpsW.det (det_assign rfl) rfl ?_
    refine sNext ?_
    refine sSeq ?_
    refine sSeq ?_
    refine W.region ?_
    refine OpsW.det (det_move rfl) rfl ?_
    refine sNext ?_
    refine W.cond_true rfl ?_
    refine W.region ?_
    refine OpsW.det (det_move rfl) rfl ?_
    refine OpsW.det (det_or rfl rfl) rfl ?_
    refine OpsW.det (det_assign rfl) rfl ?_
    refine sNext ?_
    refine W.keep (F' := [(7, _), (0, _), (1, _), (2, _)]) ⟨rfl, rfl, rfl, rfl, trivial⟩ ?_
    refine sSeq ?_
    refine sSeq ?_
    refine W.region ?_
    refine OpsW.det (det_move rfl) rfl ?_
    refine sNext ?_
    refine W.cond_false rfl ?_
    refine sSkip ?_
    refine sSeq ?_
    refine sSeq ?_
    refine W.region ?_
    refine OpsW.det (det_move rfl) rfl ?_
    refine OpsW.det (det_move rfl) rfl ?_
    refine OpsW.guard_yes rfl rfl ?_
    refine OpsW.det (det_move rfl) rfl ?_
    refine OpsW.guard_yes rfl rfl ?_
    refine OpsW.det (det_not rfl) rfl ?_
    refine OpsW.det (det_pick rfl rfl) rfl ?_
    refine OpsW.det (det_move rfl) rfl ?_
    refine OpsW.guard_yes rfl rfl ?_
    refine OpsW.det (det_move rfl) rfl ?_
    refine OpsW.det (det_pick rfl rfl) rfl ?_
    refine sNext ?_
    refine W.keep (F' := [(21, _), (7, _)]) ⟨rfl, rfl, trivial⟩ ?_
    refine W.cond_false rfl ?_
    refine sSkip ?_
    refine sSeq ?_
    refine W.region ?_
    refine OpsW.det (det_move rfl) rfl ?_
    refine OpsW.det (det_assign rfl) rfl ?_
    refine sNext ?_
    refine W.keep (F' := [(6, _)]) ⟨rfl, trivial⟩ ?_
    refine sRet ?_
    exact done1 Tryd.results69 (rv_tmp rfl) (by kernel_rfl)
  · skip
    refine W.region ?_
    refine OpsW.det (det_assign rfl) rfl ?_
    refine sNext ?_
    refine sSeq ?_
    refine sSeq ?_
    refine W.region ?_
    refine OpsW.det (det_move rfl) rfl ?_
    refine sNext ?_
    refine W.cond_true rfl ?_
    refine W.region ?_
    refine OpsW.det (det_move rfl) rfl ?_
    refine OpsW.det (det_or rfl rfl) rfl ?_
    refine OpsW.det (det_assign rfl) rfl ?_
    refine sNext ?_
    refine W.keep (F' := [(7, _), (0, _), (1, _), (2, _)]) ⟨rfl, rfl, rfl, rfl, trivial⟩ ?_
    refine sSeq ?_
    refine sSeq ?_
    refine W.region ?_
    refine OpsW.det (det_move rfl) rfl ?_
    refine sNext ?_
    refine W.cond_false rfl ?_
    refine sSkip ?_
    refine sSeq ?_
    refine sSeq ?_
    refine W.region ?_
    refine OpsW.det (det_move rfl) rfl ?_
    refine OpsW.det (det_move rfl) rfl ?_
    refine OpsW.guard_yes rfl rfl ?_
    refine OpsW.det (det_move rfl) rfl ?_
    refine OpsW.guard_yes rfl rfl ?_
    refine OpsW.det (det_not rfl) rfl ?_
    refine OpsW.det (det_pick rfl rfl) rfl ?_
    refine OpsW.det (det_move rfl) rfl ?_
    refine OpsW.guard_yes rfl rfl ?_
    refine OpsW.det (det_move rfl) rfl ?_
    refine OpsW.det (det_pick rfl rfl) rfl ?_
    refine sNext ?_
    refine W.keep (F' := [(21, _), (7, _)]) ⟨rfl, rfl, trivial⟩ ?_
    refine W.cond_true rfl ?_
    refine W.region ?_
    refine OpsW.det (det_move rfl) rfl ?_
    refine OpsW.det (det_or rfl rfl) rfl ?_
    refine OpsW.det (det_assign rfl) rfl ?_
    refine sNext ?_
    refine W.keep (F' := [(7, _)]) ⟨rfl, trivial⟩ ?_
    refine sSeq ?_
    refine W.region ?_
    refine OpsW.det (det_move rfl) rfl ?_
    refine OpsW.det (det_assign rfl) rfl ?_
    refine sNext ?_
    refine W.keep (F' := [(6, _)]) ⟨rfl, trivial⟩ ?_
    refine sRet ?_
    exact done1 Tryd.results69 (rv_tmp rfl) (by kernel_rfl)
  · skip
    refine W.region ?_
    refine OpsW.det (det_assign rfl) rfl ?_
    refine sNext ?_
    refine sSeq ?_
    refine sSeq ?_
    refine W.region ?_
    refine OpsW.det (det_move rfl) rfl ?_
    refine sNext ?_
    refine W.cond_true rfl ?_
    refine W.region ?_
    refine OpsW.det (det_move rfl) rfl ?_
    refine OpsW.det (det_or rfl rfl) rfl ?_
    refine OpsW.det (det_assign rfl) rfl ?_
    refine sNext ?_
    refine W.keep (F' := [(7, _), (0, _), (1, _), (2, _)]) ⟨rfl, rfl, rfl, rfl, trivial⟩ ?_
    refine sSeq ?_
    refine sSeq ?_
    refine W.region ?_
    refine OpsW.det (det_move rfl) rfl ?_
    refine sNext ?_
    refine W.cond_true rfl ?_
    refine W.region ?_
    refine OpsW.det (det_move rfl) rfl ?_
    refine OpsW.det (det_or rfl rfl) rfl ?_
    refine OpsW.det (det_assign rfl) rfl ?_
    refine sNext ?_
    refine W.keep (F' := [(7, _), (0, _), (1, _), (2, _)]) ⟨rfl, rfl, rfl, rfl, trivial⟩ ?_
    refine sSeq ?_
    refine sSeq ?_
    refine W.region ?_
    refine OpsW.det (det_move rfl) rfl ?_
    refine OpsW.det (det_move rfl) rfl ?_
    refine OpsW.guard_yes rfl rfl ?_
    refine OpsW.det (det_move rfl) rfl ?_
    refine OpsW.guard_yes rfl rfl ?_
    refine OpsW.det (det_not rfl) rfl ?_
    refine OpsW.det (det_pick rfl rfl) rfl ?_
    refine OpsW.det (det_move rfl) rfl ?_
    refine OpsW.guard_no rfl rfl rfl ?_
    refine OpsW.det (det_pick rfl rfl) rfl ?_
    refine sNext ?_
    refine W.keep (F' := [(21, _), (7, _)]) ⟨rfl, rfl, trivial⟩ ?_
    refine W.cond_false rfl ?_
    refine sSkip ?_
    refine sSeq ?_
    refine W.region ?_
    refine OpsW.det (det_move rfl) rfl ?_
    refine OpsW.det (det_assign rfl) rfl ?_
    refine sNext ?_
    refine W.keep (F' := [(6, _)]) ⟨rfl, trivial⟩ ?_
    refine sRet ?_
    exact done1 Tryd.results69 (rv_tmp rfl) (by kernel_rfl)
  · skip
    refine W.region ?_
    refine OpsW.det (det_assign rfl) rfl ?_
    refine sNext ?_
    refine sSeq ?_
    refine sSeq ?_
    refine W.region ?_
    refine OpsW.det (det_move rfl) rfl ?_
    refine sNext ?_
    refine W.cond_true rfl ?_
    refine W.region ?_
    refine OpsW.det (det_move rfl) rfl ?_
    refine OpsW.det (det_or rfl rfl) rfl ?_
    refine OpsW.det (det_assign rfl) rfl ?_
    refine sNext ?_
    refine W.keep (F' := [(7, _), (0, _), (1, _), (2, _)]) ⟨rfl, rfl, rfl, rfl, trivial⟩ ?_
    refine sSeq ?_
    refine sSeq ?_
    refine W.region ?_
    refine OpsW.det (det_move rfl) rfl ?_
    refine sNext ?_
    refine W.cond_true rfl ?_
    refine W.region ?_
    refine OpsW.det (det_move rfl) rfl ?_
    refine OpsW.det (det_or rfl rfl) rfl ?_
    refine OpsW.det (det_assign rfl) rfl ?_
    refine sNext ?_
    refine W.keep (F' := [(7, _), (0, _), (1, _), (2, _)]) ⟨rfl, rfl, rfl, rfl, trivial⟩ ?_
    refine sSeq ?_
    refine sSeq ?_
    refine W.region ?_
    refine OpsW.det (det_move rfl) rfl ?_
    refine OpsW.det (det_move rfl) rfl ?_
    refine OpsW.guard_yes rfl rfl ?_
    refine OpsW.det (det_move rfl) rfl ?_
    refine OpsW.guard_yes rfl rfl ?_
    refine OpsW.det (det_not rfl) rfl ?_
    refine OpsW.det (det_pick rfl rfl) rfl ?_
    refine OpsW.det (det_move rfl) rfl ?_
    refine OpsW.guard_no rfl rfl rfl ?_
    refine OpsW.det (det_pick rfl rfl) rfl ?_
    refine sNext ?_
    refine W.keep (F' := [(21, _), (7, _)]) ⟨rfl, rfl, trivial⟩ ?_
    refine W.cond_false rfl ?_
    refine sSkip ?_
    refine sSeq ?_
    refine W.region ?_
    refine OpsW.det (det_move rfl) rfl ?_
    refine OpsW.det (det_assign rfl) rfl ?_
    refine sNext ?_
    refine W.keep (F' := [(6, _)]) ⟨rfl, trivial⟩ ?_
    refine sRet ?_
    exact done1 Tryd.results69 (rv_tmp rfl) (by kernel_rfl)

end Go.Cu

/- The short form of a point of the first group: the walk. Conditions: none. -/
namespace Go.Cu
open Go Go.Vm Go.RowKit Go.Proofs 
attribute [local irreducible] W OpsW Det Fresh New Writes Vm.Pure Makes Changes ExternTo BuildTo ZeroTo FieldTo IndexTo BinTo SliceTo Vm.Enters
set_option linter.unusedVariables false
set_option linter.unusedSimpArgs false
variable {T : Nat → TypeId × Nat × Nat}

/-- The short form of a point of the first group. -/
def form1 (p : Pt) : List Value := .int .u8 (bitsOf .or .u8 ((byt p.1.val 47 : Nat) : Int) (flg true (decide (p = (0, 0))) (largeF p.2))) :: (fbytes p.1).tail
theorem form1_len (p : Pt) : (form1 p).length = 48 := by
  have h := fbytes_len p.1
  rw [fbytes_cons] at h
  exact h
theorem form1_one (p : Pt) : (form1 p).all (·.oneCell') = true := by
  have h := fbytes_one p.1
  rw [fbytes_cons] at h
  exact h
theorem fbytes_at (x : Fq) : (fbytes x)[0 + (0 : Int).toNat * 1]? = some (.int .u8 ((byt x.val 47 : Nat) : Int)) := by rw [fbytes_cons]; rfl
theorem fbytes_set (x : Fq) (v : Value) : splice (0 + (0 : Int).toNat * 1) [v] (fbytes x) = some (v :: (fbytes x).tail) := by
  rw [fbytes_cons]
  show splice 0 [v] (u8 (byt x.val 47) :: (fbytes x).tail) = _
  exact splice_app (a := []) (new := [v]) (c := u8 (byt x.val 47) :: (fbytes x).tail) (Nat.succ_le_succ (Nat.zero_le _))

theorem en22 : Vm.Enters Tryd.prog 22 := Vm.Enters.of fun _ _ => by kernel_rfl
theorem en68 : Vm.Enters Tryd.prog 68 := Vm.Enters.of fun _ _ => by kernel_rfl
theorem en69 : Vm.Enters Tryd.prog 69 := Vm.Enters.of fun _ _ => by kernel_rfl
theorem CG1_ok {p : Pt} {w : World} (hG : Blocks (GH T) w)  : Vm.Pure Tryd.prog 34 #[encP p] w (.agg (form1 p).toArray) := by
  refine pure_of_W (n := 19) (args := [encP p]) Tryd.func34 rfl Tryd.ntmps34 (Nat.le_of_ble_eq_true rfl) hG ?_
  refine sStart ?_
  refine sSeq ?_
  refine W.region ?_
  refine OpsW.fresh (fr_box rfl rfl) rfl fun b1 => ?_
  refine OpsW.fresh (fr_alloc z58) rfl fun b2 => ?_
  refine sNext ?_
  refine W.keep (F' := [(2, _), (1, _)]) ⟨rfl, rfl, trivial⟩ ?_
  refine sSeq ?_
  refine W.region ?_
  refine OpsW.det (det_fieldAddr fl31_0 rfl) rfl ?_
  refine OpsW.det (det_loadA ty29 rfl (List.Mem.tail _ (List.Mem.head _)) rfl) rfl ?_
  refine OpsW.det (det_call en68 rfl (fun w hb ho => FBytes_ok ho.blocks)) rfl ?_
  refine OpsW.fresh (fr_alloc z58) rfl fun b3 => ?_
  refine OpsW.store sz58 rfl rfl rfl (fbytes_len p.1) (fbytes_one p.1) (Upd.here) (splice_all (by rw [fbytes_len, fst6_len (Nat.zero_le _)])) ?_
  refine sNext ?_
  refine W.keep (F' := [(3, _), (2, _), (1, _)]) ⟨rfl, rfl, rfl, trivial⟩ ?_
  refine sSeq ?_
  refine W.draw mixed 11 [[], [0], [], [], [2, 3], [], [5], [5, 6], [2, 3, 4, 5, 6, 7], [0, 1, 2, 3, 4, 5, 6, 7, 8], [0, 1, 2, 3, 4, 5, 6, 7, 8, 9], [0, 1, 2, 3, 4, 5, 6, 7, 8, 9, 10]] (cl_lt (by decide)) ?_
  refine HeadR.start (cl_lt (by decide)) ?_
  refine HeadR.det rfl (fun β hβ => (det_indexAddr_arr u58 sz5 rfl rfl ⟨by decide, by decide⟩)) ?_
  refine HeadR.det rfl (fun β hβ => (det_loadC ty5 rfl (List.Mem.head _) (fbytes_at p.1))) ?_
  refine HeadR.det rfl (fun β hβ => (det_loadA ty31 rfl (List.Mem.tail _ (List.Mem.tail _ (List.Mem.head _))) rfl)) ?_
  refine HeadR.det rfl (fun β hβ => (det_zero bz31)) ?_
  refine HeadR.det rfl (fun β hβ => (det_eql31 rfl rfl)) ?_
  refine HeadR.det rfl (fun β hβ => (det_fieldAddr fl31_1 rfl)) ?_
  refine HeadR.det rfl (fun β hβ => (det_loadA ty29 rfl (List.Mem.tail _ (List.Mem.tail _ (List.Mem.head _))) rfl)) ?_
  refine HeadR.det rfl (fun β hβ => (det_call en22 rfl (fun w hb ho => Large_ok ho.blocks))) ?_
  refine HeadR.det rfl (fun β hβ => (det_call en69 rfl (fun w hb ho => flags_ok (s := true) (n := decide (p = (0, 0))) (l := largeF p.2) ho.blocks))) ?_
  refine HeadR.det rfl (fun β hβ => (det_or rfl rfl)) ?_
  refine HeadR.det rfl (fun β hβ => (det_indexAddr_arr u58 sz5 rfl rfl ⟨by decide, by decide⟩)) ?_
  refine HeadR.done ⟨by kernel_rfl, fun β hβ => ?_⟩
  refine OpsW.norm (F' := [(7, _), (8, _), (9, _), (10, _), (11, _), (12, _), (13, _), (14, _), (15, _), (16, _), (17, _), (3, _), (2, _), (1, _)]) (H' := [(_, _), (_, _), (_, _)]) rfl rfl ?_
  refine OpsW.store sz5 rfl rfl rfl rfl rfl (Upd.here) (fbytes_set p.1 _) ?_
  refine sNext ?_
  refine W.keep (F' := [(3, _), (2, _)]) ⟨rfl, rfl, trivial⟩ ?_
  refine sSeq ?_
  refine W.region ?_
  refine OpsW.det (det_loadA ty58 rfl (List.Mem.head _) (show cut 0 48 (form1 p) = some (form1 p) from cut_all (form1_len p))) rfl ?_
  refine OpsW.store sz58 rfl rfl rfl (form1_len p) (form1_one p) (Upd.there (Upd.here)) (splice_all (by rw [form1_len, fst6_len (Nat.zero_le _)])) ?_
  refine sNext ?_
  refine W.keep (F' := [(2, _)]) ⟨rfl, trivial⟩ ?_
  refine sRet ?_
  exact done1 Tryd.results34 (rv_cellA ty58 rfl (List.Mem.tail _ (List.Mem.head _)) (show cut 0 48 (form1 p) = some (form1 p) from cut_all (form1_len p))) rfl

end Go.Cu
