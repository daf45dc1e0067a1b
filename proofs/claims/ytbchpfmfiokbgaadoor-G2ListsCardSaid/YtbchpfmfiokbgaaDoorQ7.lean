/-
  Part 7 of the joined texts of the curves' laws: The field with i: numbers a + b i, their sums and products, inverses; how Go lays them, and when two of them are equal in Go.
  Conditions: those that each theorem states.
-/
import Derived.Test.YtbchpfmfiokbgaaDoorQ6
import Derived.Test.YtbchpfmfiokbgaaDoorQ2
/- The field with i: numbers a + b i, their sums and products, inverses; how Go lays them, and when two of them are equal in Go. -/
namespace Go.Cu
open Go Go.Ec Go.Vm Go.RowKit Go.Proofs
set_option linter.unusedVariables false
set_option linter.unusedSimpArgs false
set_option linter.unusedSectionVars false
attribute [local irreducible] W OpsW Det Fresh New Writes Vm.Pure Makes Changes ExternTo BuildTo ZeroTo FieldTo IndexTo BinTo SliceTo Vm.Enters
open CR

/-- a + b i, where i i = -1. -/
structure Fq2 where
  a : Fq
  b : Fq
theorem Fq2.ext : ∀ {x y : Fq2}, x.a = y.a → x.b = y.b → x = y
  | ⟨_, _⟩, ⟨_, _⟩, rfl, rfl => rfl
theorem Fq2.ext_iff {x y : Fq2} : x = y ↔ x.a = y.a ∧ x.b = y.b := ⟨fun h => by rw [h]; exact ⟨rfl, rfl⟩, fun h => Fq2.ext h.1 h.2⟩
instance : DecidableEq Fq2 := fun x y => decidable_of_iff (x.a = y.a ∧ x.b = y.b) Fq2.ext_iff.symm
instance : CR Fq2 where
  add x y := ⟨x.a + y.a, x.b + y.b⟩
  mul x y := ⟨x.a * y.a - x.b * y.b, (x.a + x.b) * (y.a + y.b) - x.a * y.a - x.b * y.b⟩
  neg x := ⟨-x.a, -x.b⟩
  sub x y := ⟨x.a - y.a, x.b - y.b⟩
  zero := ⟨0, 0⟩
  one := ⟨1, 0⟩
  add_comm u v := Fq2.ext (add_comm _ _) (add_comm _ _)
  add_assoc u v w := Fq2.ext (add_assoc _ _ _) (add_assoc _ _ _)
  zero_add u := Fq2.ext (zero_add _) (zero_add _)
  neg_add u := Fq2.ext (neg_add _) (neg_add _)
  sub_eq u v := Fq2.ext (sub_eq _ _) (sub_eq _ _)
  mul_comm u v := Fq2.ext (show ((u.a * v.a) - (u.b * v.b)) = ((v.a * u.a) - (v.b * u.b)) from ring_id (fun vi_ => vget vi_ [u.a, u.b, v.a, v.b]) (.sub (.mul (.var 0) (.var 2)) (.mul (.var 1) (.var 3))) (.sub (.mul (.var 2) (.var 0)) (.mul (.var 3) (.var 1))) (by kernel_rfl)) (show ((((u.a + u.b) * (v.a + v.b)) - (u.a * v.a)) - (u.b * v.b)) = ((((v.a + v.b) * (u.a + u.b)) - (v.a * u.a)) - (v.b * u.b)) from ring_id (fun vi_ => vget vi_ [u.a, u.b, v.a, v.b]) (.sub (.sub (.mul (.add (.var 0) (.var 1)) (.add (.var 2) (.var 3))) (.mul (.var 0) (.var 2))) (.mul (.var 1) (.var 3))) (.sub (.sub (.mul (.add (.var 2) (.var 3)) (.add (.var 0) (.var 1))) (.mul (.var 2) (.var 0))) (.mul (.var 3) (.var 1))) (by kernel_rfl))
  mul_assoc u v w := Fq2.ext (show ((((u.a * v.a) - (u.b * v.b)) * w.a) - (((((u.a + u.b) * (v.a + v.b)) - (u.a * v.a)) - (u.b * v.b)) * w.b)) = ((u.a * ((v.a * w.a) - (v.b * w.b))) - (u.b * ((((v.a + v.b) * (w.a + w.b)) - (v.a * w.a)) - (v.b * w.b)))) from ring_id (fun vi_ => vget vi_ [u.a, u.b, v.a, v.b, w.a, w.b]) (.sub (.mul (.sub (.mul (.var 0) (.var 2)) (.mul (.var 1) (.var 3))) (.var 4)) (.mul (.sub (.sub (.mul (.add (.var 0) (.var 1)) (.add (.var 2) (.var 3))) (.mul (.var 0) (.var 2))) (.mul (.var 1) (.var 3))) (.var 5))) (.sub (.mul (.var 0) (.sub (.mul (.var 2) (.var 4)) (.mul (.var 3) (.var 5)))) (.mul (.var 1) (.sub (.sub (.mul (.add (.var 2) (.var 3)) (.add (.var 4) (.var 5))) (.mul (.var 2) (.var 4))) (.mul (.var 3) (.var 5))))) (by kernel_rfl))
    (show ((((((u.a * v.a) - (u.b * v.b)) + ((((u.a + u.b) * (v.a + v.b)) - (u.a * v.a)) - (u.b * v.b))) * (w.a + w.b)) - (((u.a * v.a) - (u.b * v.b)) * w.a)) - (((((u.a + u.b) * (v.a + v.b)) - (u.a * v.a)) - (u.b * v.b)) * w.b)) = ((((u.a + u.b) * (((v.a * w.a) - (v.b * w.b)) + ((((v.a + v.b) * (w.a + w.b)) - (v.a * w.a)) - (v.b * w.b)))) - (u.a * ((v.a * w.a) - (v.b * w.b)))) - (u.b * ((((v.a + v.b) * (w.a + w.b)) - (v.a * w.a)) - (v.b * w.b)))) from ring_id (fun vi_ => vget vi_ [u.a, u.b, v.a, v.b, w.a, w.b]) (.sub (.sub (.mul (.add (.sub (.mul (.var 0) (.var 2)) (.mul (.var 1) (.var 3))) (.sub (.sub (.mul (.add (.var 0) (.var 1)) (.add (.var 2) (.var 3))) (.mul (.var 0) (.var 2))) (.mul (.var 1) (.var 3)))) (.add (.var 4) (.var 5))) (.mul (.sub (.mul (.var 0) (.var 2)) (.mul (.var 1) (.var 3))) (.var 4))) (.mul (.sub (.sub (.mul (.add (.var 0) (.var 1)) (.add (.var 2) (.var 3))) (.mul (.var 0) (.var 2))) (.mul (.var 1) (.var 3))) (.var 5))) (.sub (.sub (.mul (.add (.var 0) (.var 1)) (.add (.sub (.mul (.var 2) (.var 4)) (.mul (.var 3) (.var 5))) (.sub (.sub (.mul (.add (.var 2) (.var 3)) (.add (.var 4) (.var 5))) (.mul (.var 2) (.var 4))) (.mul (.var 3) (.var 5))))) (.mul (.var 0) (.sub (.mul (.var 2) (.var 4)) (.mul (.var 3) (.var 5))))) (.mul (.var 1) (.sub (.sub (.mul (.add (.var 2) (.var 3)) (.add (.var 4) (.var 5))) (.mul (.var 2) (.var 4))) (.mul (.var 3) (.var 5))))) (by kernel_rfl))
  one_mul u := Fq2.ext (show ((1 * u.a) - (0 * u.b)) = u.a from ring_id (fun vi_ => vget vi_ [u.a, u.b]) (.sub (.mul .one (.var 0)) (.mul .zero (.var 1))) (.var 0) (by kernel_rfl)) (show ((((1 + 0) * (u.a + u.b)) - (1 * u.a)) - (0 * u.b)) = u.b from ring_id (fun vi_ => vget vi_ [u.a, u.b]) (.sub (.sub (.mul (.add .one .zero) (.add (.var 0) (.var 1))) (.mul .one (.var 0))) (.mul .zero (.var 1))) (.var 1) (by kernel_rfl))
  mul_add u v w := Fq2.ext (show ((u.a * (v.a + w.a)) - (u.b * (v.b + w.b))) = (((u.a * v.a) - (u.b * v.b)) + ((u.a * w.a) - (u.b * w.b))) from ring_id (fun vi_ => vget vi_ [u.a, u.b, v.a, v.b, w.a, w.b]) (.sub (.mul (.var 0) (.add (.var 2) (.var 4))) (.mul (.var 1) (.add (.var 3) (.var 5)))) (.add (.sub (.mul (.var 0) (.var 2)) (.mul (.var 1) (.var 3))) (.sub (.mul (.var 0) (.var 4)) (.mul (.var 1) (.var 5)))) (by kernel_rfl))
    (show ((((u.a + u.b) * ((v.a + w.a) + (v.b + w.b))) - (u.a * (v.a + w.a))) - (u.b * (v.b + w.b))) = (((((u.a + u.b) * (v.a + v.b)) - (u.a * v.a)) - (u.b * v.b)) + ((((u.a + u.b) * (w.a + w.b)) - (u.a * w.a)) - (u.b * w.b))) from ring_id (fun vi_ => vget vi_ [u.a, u.b, v.a, v.b, w.a, w.b]) (.sub (.sub (.mul (.add (.var 0) (.var 1)) (.add (.add (.var 2) (.var 4)) (.add (.var 3) (.var 5)))) (.mul (.var 0) (.add (.var 2) (.var 4)))) (.mul (.var 1) (.add (.var 3) (.var 5)))) (.add (.sub (.sub (.mul (.add (.var 0) (.var 1)) (.add (.var 2) (.var 3))) (.mul (.var 0) (.var 2))) (.mul (.var 1) (.var 3))) (.sub (.sub (.mul (.add (.var 0) (.var 1)) (.add (.var 4) (.var 5))) (.mul (.var 0) (.var 4))) (.mul (.var 1) (.var 5)))) (by kernel_rfl))
def norm2 (x : Fq2) : Fq := x.a * x.a + x.b * x.b
def conj2 (x : Fq2) : Fq2 := ⟨x.a, 0 - x.b⟩
def scale2 (x : Fq2) (k : Fq) : Fq2 := ⟨x.a * k, x.b * k⟩
def inv2 (x : Fq2) : Fq2 := scale2 (conj2 x) (inv (norm2 x))
def small (a b : Nat) : Fq2 := ⟨Zp.of a, Zp.of b⟩
theorem sq_no_neg (x : Fq) : x * x + 1 ≠ 0 := by
  intro h
  have hx : x ≠ 0 := by
    rintro rfl
    rw [mul_zero', zero_add] at h
    exact one_ne prime_pp h
  have h1 := fermat prime_pp hx
  have h2 : x * x = -1 := (eq_of_sub (Eq.trans (show ((x * x) - (-1)) = (1 * (((x * x) + 1) - 0)) from ring_id (fun vi_ => vget vi_ [x]) (.sub (.mul (.var 0) (.var 0)) (.neg .one)) (.mul .one (.sub (.add (.mul (.var 0) (.var 0)) .one) .zero)) (by kernel_rfl)) (lz h)))
  obtain ⟨k, hk⟩ : ∃ k, pp - 1 = 2 * (2 * k + 1) := ⟨(pp - 3) / 4, by decide +kernel⟩
  rw [hk, pw_mul, show pw x 2 = x * x by rw [pw, pw, pw, one_mul], h2, pw, pw_mul, show pw (-1 : Fq) 2 = 1 from by decide +kernel, one_pw, one_mul] at h1
  exact absurd h1 (by decide +kernel)
theorem norm2_ne {x : Fq2} (hx : x ≠ 0) : norm2 x ≠ 0 := by
  intro h
  have h : x.a * x.a + x.b * x.b = 0 := h
  by_cases hb : x.b = 0
  · rw [hb, mul_zero', add_zero'] at h
    have ha : x.a = 0 := Classical.byContradiction fun ha => Fld.mul_ne ha ha h
    exact hx (Fq2.ext ha hb)
  · have hi := Fld.mul_finv x.b hb
    generalize Fld.finv x.b = v at hi
    refine sq_no_neg (x.a * v) ?_
    exact (eq_of_sub (Eq.trans (show ((((x.a * v) * (x.a * v)) + 1) - 0) = (((v * v) * (((x.a * x.a) + (x.b * x.b)) - 0)) + ((-((x.b * v) + 1)) * ((x.b * v) - 1))) from ring_id (fun vi_ => vget vi_ [x.a, x.b, v]) (.sub (.add (.mul (.mul (.var 0) (.var 2)) (.mul (.var 0) (.var 2))) .one) .zero) (.add (.mul (.mul (.var 2) (.var 2)) (.sub (.add (.mul (.var 0) (.var 0)) (.mul (.var 1) (.var 1))) .zero)) (.mul (.neg (.add (.mul (.var 1) (.var 2)) .one)) (.sub (.mul (.var 1) (.var 2)) .one))) (by kernel_rfl)) (lz2 (lz h) (lz hi))))
instance fq2Fld : Fld Fq2 where
  toCR := inferInstance
  finv := inv2
  mul_finv x hx := by
    have hi := Fld.mul_finv (norm2 x) (norm2_ne hx)
    have hi : (x.a * x.a + x.b * x.b) * inv (norm2 x) = 1 := hi
    show (⟨x.a * (x.a * inv (norm2 x)) - x.b * ((0 - x.b) * inv (norm2 x)), (x.a + x.b) * (x.a * inv (norm2 x) + (0 - x.b) * inv (norm2 x)) - x.a * (x.a * inv (norm2 x)) - x.b * ((0 - x.b) * inv (norm2 x))⟩ : Fq2) = ⟨1, 0⟩
    generalize inv (norm2 x) = n at hi
    refine Fq2.ext ?_ ?_
    · exact (eq_of_sub (Eq.trans (show (((x.a * (x.a * n)) - (x.b * ((0 - x.b) * n))) - 1) = (1 * ((((x.a * x.a) + (x.b * x.b)) * n) - 1)) from ring_id (fun vi_ => vget vi_ [x.a, x.b, n]) (.sub (.sub (.mul (.var 0) (.mul (.var 0) (.var 2))) (.mul (.var 1) (.mul (.sub .zero (.var 1)) (.var 2)))) .one) (.mul .one (.sub (.mul (.add (.mul (.var 0) (.var 0)) (.mul (.var 1) (.var 1))) (.var 2)) .one)) (by kernel_rfl)) (lz hi)))
    · exact (show ((((x.a + x.b) * ((x.a * n) + ((0 - x.b) * n))) - (x.a * (x.a * n))) - (x.b * ((0 - x.b) * n))) = 0 from ring_id (fun vi_ => vget vi_ [x.a, x.b, n]) (.sub (.sub (.mul (.add (.var 0) (.var 1)) (.add (.mul (.var 0) (.var 2)) (.mul (.sub .zero (.var 1)) (.var 2)))) (.mul (.var 0) (.mul (.var 0) (.var 2)))) (.mul (.var 1) (.mul (.sub .zero (.var 1)) (.var 2)))) .zero (by kernel_rfl))
  one_ne h := one_ne prime_pp (congrArg Fq2.a h)
theorem sq2 (x : Fq2) : (⟨(x.a + x.b) * (x.a - x.b), x.a * x.b + x.a * x.b⟩ : Fq2) = x * x :=
  Fq2.ext (show ((x.a + x.b) * (x.a - x.b)) = ((x.a * x.a) - (x.b * x.b)) from ring_id (fun vi_ => vget vi_ [x.a, x.b]) (.mul (.add (.var 0) (.var 1)) (.sub (.var 0) (.var 1))) (.sub (.mul (.var 0) (.var 0)) (.mul (.var 1) (.var 1))) (by kernel_rfl)) (show ((x.a * x.b) + (x.a * x.b)) = ((((x.a + x.b) * (x.a + x.b)) - (x.a * x.a)) - (x.b * x.b)) from ring_id (fun vi_ => vget vi_ [x.a, x.b]) (.add (.mul (.var 0) (.var 1)) (.mul (.var 0) (.var 1))) (.sub (.sub (.mul (.add (.var 0) (.var 1)) (.add (.var 0) (.var 1))) (.mul (.var 0) (.var 0))) (.mul (.var 1) (.var 1))) (by kernel_rfl))
end Go.Cu
namespace Go.Cw
open Go Go.Cu Go.Ec Go.Vm Go.RowKit Go.Proofs
attribute [local irreducible] W OpsW Det Fresh New Writes Vm.Pure Makes Changes ExternTo BuildTo ZeroTo FieldTo IndexTo BinTo SliceTo Vm.Enters
def cellsF (x : Fq2) : List Value := Cu.cellsF x.a ++ Cu.cellsF x.b
def encF (x : Fq2) : Value := .agg (cellsF x).toArray
abbrev Pt := Fq2 × Fq2
abbrev Jac := Fq2 × Fq2 × Fq2
def encP (p : Pt) : Value := .agg (cellsF p.1 ++ cellsF p.2).toArray
def encJ (p : Jac) : Value := .agg (cellsF p.1 ++ cellsF p.2.1 ++ cellsF p.2.2).toArray
def cellsJ (j : Jac) : List Value := cellsF j.1 ++ cellsF j.2.1 ++ cellsF j.2.2
def cellsP (p : Pt) : List Value := cellsF p.1 ++ cellsF p.2
theorem eqTo57 (d : Nat) (x y : Fq2) : EqTo Tryd.prog (d + 4) 57 (encF x) (encF y) (decide (x = y)) := by
  have h := eq_two (P := Tryd.prog) (d := d + 3) (t := 57) (xs := (Cu.cellsF x.a ++ Cu.cellsF x.b).toArray) (ys := (Cu.cellsF y.a ++ Cu.cellsF y.b).toArray) (by kernel_rfl) (by kernel_rfl) (nm := "A") (ft := 28) (off := 0) (nm' := "B") (ft' := 28) (off' := 6) (by kernel_rfl) (by decide) (by decide)
    (fun w => by kernel_rfl) (fun w => by kernel_rfl) (eqTo28 d x.a y.a) (fun w => by kernel_rfl) (fun w => by kernel_rfl) (eqTo28 d x.b y.b)
  have hb : (decide (x.a = y.a) && decide (x.b = y.b)) = decide (x = y) := by
    rw [Bool.eq_iff_iff]; simp [Fq2.ext_iff]
  rw [hb] at h
  exact h
theorem eqTo59 (d : Nat) (p q : Pt) : EqTo Tryd.prog (d + 5) 59 (encP p) (encP q) (decide (p = q)) := by
  have h := eq_two (P := Tryd.prog) (d := d + 4) (t := 59) (xs := (cellsF p.1 ++ cellsF p.2).toArray) (ys := (cellsF q.1 ++ cellsF q.2).toArray) (by kernel_rfl) (by kernel_rfl) (nm := "X") (ft := 57) (off := 0) (nm' := "Y") (ft' := 57) (off' := 12) (by kernel_rfl) (by decide) (by decide)
    (fun w => by kernel_rfl) (fun w => by kernel_rfl) (eqTo57 d p.1 q.1) (fun w => by kernel_rfl) (fun w => by kernel_rfl) (eqTo57 d p.2 q.2)
  have hb : (decide (p.1 = q.1) && decide (p.2 = q.2)) = decide (p = q) := by
    rw [Bool.eq_iff_iff]; simp [Prod.ext_iff]
  rw [hb] at h
  exact h
theorem eq57 {x y : Operand} {a b : Fq2} : BinTo Tryd.prog .eql 57 x y (encF a) (encF b) (.bool (decide (a = b))) := bin_of_eq (by kernel_rfl) (eqTo57 9996 a b)
theorem ne57 {x y : Operand} {a b : Fq2} : BinTo Tryd.prog .neq 57 x y (encF a) (encF b) (.bool (!decide (a = b))) := bin_of_ne (by kernel_rfl) (eqTo57 9996 a b)
theorem eq59 {x y : Operand} {a b : Pt} : BinTo Tryd.prog .eql 59 x y (encP a) (encP b) (.bool (decide (a = b))) := bin_of_eq (by kernel_rfl) (eqTo59 9995 a b)
theorem ne59 {x y : Operand} {a b : Pt} : BinTo Tryd.prog .neq 59 x y (encP a) (encP b) (.bool (!decide (a = b))) := bin_of_ne (by kernel_rfl) (eqTo59 9995 a b)
section
variable {K : List Nat} {G : Hp} {w0 : World} {d : Option Tmp} {ty xt yt : TypeId} {pos : String} {after : Array Edge} {g : Option (Nat × Bool)} {F : Fr} {H : Hp} {x y : Operand}
theorem det_eql57 {a b : Fq2} (hx : ev F x = some (encF a)) (hy : ev F y = some (encF b)) : Det Tryd.prog K G w0 ⟨d, .binOp .eql 57 x y yt, ty, pos, after, g⟩ F H (.bool (decide (a = b))) := det_binTo hx hy eq57
theorem det_neq57 {a b : Fq2} (hx : ev F x = some (encF a)) (hy : ev F y = some (encF b)) : Det Tryd.prog K G w0 ⟨d, .binOp .neq 57 x y yt, ty, pos, after, g⟩ F H (.bool (!decide (a = b))) := det_binTo hx hy ne57
theorem det_eql59 {a b : Pt} (hx : ev F x = some (encP a)) (hy : ev F y = some (encP b)) : Det Tryd.prog K G w0 ⟨d, .binOp .eql 59 x y yt, ty, pos, after, g⟩ F H (.bool (decide (a = b))) := det_binTo hx hy eq59
theorem det_neq59 {a b : Pt} (hx : ev F x = some (encP a)) (hy : ev F y = some (encP b)) : Det Tryd.prog K G w0 ⟨d, .binOp .neq 59 x y yt, ty, pos, after, g⟩ F H (.bool (!decide (a = b))) := det_binTo hx hy ne59
theorem z57r : TyZ Tryd.prog 57 (encF 0) (cellsF 0) := ⟨fun _ => by kernel_rfl, rfl⟩
theorem tyW57 : TyA Tryd.prog 57 12 := ⟨by kernel_rfl, by kernel_rfl⟩
theorem szW57 : sizeIn Tryd.prog 57 = some 12 := by kernel_rfl
theorem det_loadW57 {p : Fq2} {b e : Nat} {fr : Nat × Nat} (hx : ev F x = some (.pointer (some ⟨b, 0, none⟩))) (hm : (b, Obj.cells (cellsF p).toArray e fr) ∈ H) : Det Tryd.prog K G w0 ⟨d, .load 57 x, ty, pos, after, g⟩ F H (encF p) := det_loadW tyW57 rfl hx hm
theorem fr_boxW57 {p : Fq2} (hx : ev F x = some (encF p)) : Fresh Tryd.prog K G w0 ⟨d, .box 57 x, ty, pos, after, g⟩ F (fun b => .pointer (some ⟨b, 0, none⟩)) (blk (cellsF p) 57) := fr_box hx rfl
theorem OpsW.storeW57 {n : Nat} {ops : Array Oper} {rest : List Oper} {R : Fr → Hp → Prop} {H' : Hp} {p q : Fq2} {b e : Nat} (hx : ev F x = some (.pointer (some ⟨b, 0, none⟩))) (hy : ev F y = some (encF p)) (hu : Upd H b (blk (cellsF q) e) (blk (cellsF p) e) H') (h : OpsW Tryd.prog n K G w0 ops rest R F H') :
    OpsW Tryd.prog n K G w0 ops (⟨none, .store 57 x y, ty, pos, after, none⟩ :: rest) R F H := Vm.OpsW.storeW szW57 rfl rfl rfl hx hy hu h
theorem z59r : TyZ Tryd.prog 59 (encP (0, 0)) (cellsP (0, 0)) := ⟨fun _ => by kernel_rfl, rfl⟩
theorem tyW59 : TyA Tryd.prog 59 24 := ⟨by kernel_rfl, by kernel_rfl⟩
theorem szW59 : sizeIn Tryd.prog 59 = some 24 := by kernel_rfl
theorem det_loadW59 {p : Pt} {b e : Nat} {fr : Nat × Nat} (hx : ev F x = some (.pointer (some ⟨b, 0, none⟩))) (hm : (b, Obj.cells (cellsP p).toArray e fr) ∈ H) : Det Tryd.prog K G w0 ⟨d, .load 59 x, ty, pos, after, g⟩ F H (encP p) := det_loadW tyW59 rfl hx hm
theorem fr_boxW59 {p : Pt} (hx : ev F x = some (encP p)) : Fresh Tryd.prog K G w0 ⟨d, .box 59 x, ty, pos, after, g⟩ F (fun b => .pointer (some ⟨b, 0, none⟩)) (blk (cellsP p) 59) := fr_box hx rfl
theorem OpsW.storeW59 {n : Nat} {ops : Array Oper} {rest : List Oper} {R : Fr → Hp → Prop} {H' : Hp} {p q : Pt} {b e : Nat} (hx : ev F x = some (.pointer (some ⟨b, 0, none⟩))) (hy : ev F y = some (encP p)) (hu : Upd H b (blk (cellsP q) e) (blk (cellsP p) e) H') (h : OpsW Tryd.prog n K G w0 ops rest R F H') :
    OpsW Tryd.prog n K G w0 ops (⟨none, .store 59 x y, ty, pos, after, none⟩ :: rest) R F H := Vm.OpsW.storeW szW59 rfl rfl rfl hx hy hu h
theorem z94r : TyZ Tryd.prog 94 (encJ (0, 0, 0)) (cellsJ (0, 0, 0)) := ⟨fun _ => by kernel_rfl, rfl⟩
theorem tyW94 : TyA Tryd.prog 94 36 := ⟨by kernel_rfl, by kernel_rfl⟩
theorem szW94 : sizeIn Tryd.prog 94 = some 36 := by kernel_rfl
theorem det_loadW94 {p : Jac} {b e : Nat} {fr : Nat × Nat} (hx : ev F x = some (.pointer (some ⟨b, 0, none⟩))) (hm : (b, Obj.cells (cellsJ p).toArray e fr) ∈ H) : Det Tryd.prog K G w0 ⟨d, .load 94 x, ty, pos, after, g⟩ F H (encJ p) := det_loadW tyW94 rfl hx hm
theorem fr_boxW94 {p : Jac} (hx : ev F x = some (encJ p)) : Fresh Tryd.prog K G w0 ⟨d, .box 94 x, ty, pos, after, g⟩ F (fun b => .pointer (some ⟨b, 0, none⟩)) (blk (cellsJ p) 94) := fr_box hx rfl
theorem OpsW.storeW94 {n : Nat} {ops : Array Oper} {rest : List Oper} {R : Fr → Hp → Prop} {H' : Hp} {p q : Jac} {b e : Nat} (hx : ev F x = some (.pointer (some ⟨b, 0, none⟩))) (hy : ev F y = some (encJ p)) (hu : Upd H b (blk (cellsJ q) e) (blk (cellsJ p) e) H') (h : OpsW Tryd.prog n K G w0 ops rest R F H') :
    OpsW Tryd.prog n K G w0 ops (⟨none, .store 94 x y, ty, pos, after, none⟩ :: rest) R F H := Vm.OpsW.storeW szW94 rfl rfl rfl hx hy hu h
def cellsR (x : Fs) : List Value := w4 (lim (montr x))
theorem z35r : TyZ Tryd.prog 35 (encR 0) (cellsR 0) := ⟨fun _ => by kernel_rfl, rfl⟩
theorem tyW35 : TyA Tryd.prog 35 4 := ⟨by kernel_rfl, by kernel_rfl⟩
theorem szW35 : sizeIn Tryd.prog 35 = some 4 := by kernel_rfl
theorem det_loadW35 {p : Fs} {b e : Nat} {fr : Nat × Nat} (hx : ev F x = some (.pointer (some ⟨b, 0, none⟩))) (hm : (b, Obj.cells (cellsR p).toArray e fr) ∈ H) : Det Tryd.prog K G w0 ⟨d, .load 35 x, ty, pos, after, g⟩ F H (encR p) := det_loadW tyW35 rfl hx hm
theorem fr_boxW35 {p : Fs} (hx : ev F x = some (encR p)) : Fresh Tryd.prog K G w0 ⟨d, .box 35 x, ty, pos, after, g⟩ F (fun b => .pointer (some ⟨b, 0, none⟩)) (blk (cellsR p) 35) := fr_box hx rfl
theorem OpsW.storeW35 {n : Nat} {ops : Array Oper} {rest : List Oper} {R : Fr → Hp → Prop} {H' : Hp} {p q : Fs} {b e : Nat} (hx : ev F x = some (.pointer (some ⟨b, 0, none⟩))) (hy : ev F y = some (encR p)) (hu : Upd H b (blk (cellsR q) e) (blk (cellsR p) e) H') (h : OpsW Tryd.prog n K G w0 ops rest R F H') :
    OpsW Tryd.prog n K G w0 ops (⟨none, .store 35 x y, ty, pos, after, none⟩ :: rest) R F H := Vm.OpsW.storeW szW35 rfl rfl rfl hx hy hu h
end
end Go.Cw

/- The field with i: what its functions compute: the walks. Conditions: none. -/
namespace Go.Cw
open Go Go.Vm Go.RowKit Go.Proofs Go.Cu
attribute [local irreducible] W OpsW Det Fresh New Writes Vm.Pure Makes Changes ExternTo BuildTo ZeroTo FieldTo IndexTo BinTo SliceTo Vm.Enters
set_option linter.unusedVariables false
set_option linter.unusedSimpArgs false
variable {T : Nat → TypeId × Nat × Nat}

theorem bld57 {a b : Fq} : BuildTo Tryd.prog 57 [(0, Cu.encF a), (1, Cu.encF b)] (encF ⟨a, b⟩) := BuildTo.of fun _ => by kernel_rfl
theorem bz57 : ZeroTo Tryd.prog 57 (encF 0) := ZeroTo.of fun _ => by kernel_rfl
theorem en101 : Vm.Enters Tryd.prog 101 := Vm.Enters.of fun _ _ => by kernel_rfl
theorem en102 : Vm.Enters Tryd.prog 102 := Vm.Enters.of fun _ _ => by kernel_rfl
theorem en103 : Vm.Enters Tryd.prog 103 := Vm.Enters.of fun _ _ => by kernel_rfl
theorem en84 : Vm.Enters Tryd.prog 84 := Vm.Enters.of fun _ _ => by kernel_rfl
theorem fl57_0 : TyF Tryd.prog 57 0 0 6 := ⟨⟨28, by kernel_rfl, by kernel_rfl⟩, by decide⟩
theorem fl57_1 : TyF Tryd.prog 57 1 6 6 := ⟨⟨28, by kernel_rfl, by kernel_rfl⟩, by decide⟩
theorem sz57 : sizeIn Tryd.prog 57 = some 12 := by kernel_rfl
theorem ty57 : TyA Tryd.prog 57 12 := ⟨by kernel_rfl, by kernel_rfl⟩
theorem Add_ok {x y : Fq2} {w : World} (hG : Blocks (GH T) w)  : Vm.Pure Tryd.prog 47 #[encF x, encF y] w (encF (x + y)) := by
  refine pure_of_W (n := 16) (args := [encF x, encF y]) Tryd.func47 rfl Tryd.ntmps47 (Nat.le_of_ble_eq_true rfl) hG ?_
  refine sStart ?_
  refine sSeq ?_
  refine W.region ?_
  refine OpsW.fresh (fr_boxW57 rfl) rfl fun b2 => ?_
  refine OpsW.fresh (fr_boxW57 rfl) rfl fun b3 => ?_
  refine OpsW.fresh (fr_alloc z57r) rfl fun b4 => ?_
  refine sNext ?_
  refine W.keep (F' := [(4, _), (3, _), (2, _)]) ⟨rfl, rfl, rfl, trivial⟩ ?_
  refine sSeq ?_
  refine W.draw mixed 11 [[], [0], [], [2], [0, 1, 2, 3], [], [5], [], [7], [0, 1, 2, 3, 4, 5, 6, 7, 8], [0, 1, 2, 3, 4, 5, 6, 7, 8, 9], [0, 1, 2, 3, 4, 5, 6, 7, 8, 9, 10]] (cl_lt (by decide)) ?_
  refine HeadR.start (cl_lt (by decide)) ?_
  refine HeadR.det rfl (fun β hβ => (det_fieldAddr fl57_0 rfl)) ?_
  refine HeadR.det rfl (fun β hβ => (det_loadA ty28 rfl (List.Mem.tail _ (List.Mem.tail _ (List.Mem.head _))) rfl)) ?_
  refine HeadR.det rfl (fun β hβ => (det_fieldAddr fl57_0 rfl)) ?_
  refine HeadR.det rfl (fun β hβ => (det_loadA ty28 rfl (List.Mem.tail _ (List.Mem.head _)) rfl)) ?_
  refine HeadR.det rfl (fun β hβ => (det_call en33 rfl (fun w hb ho => Cu.Add_ok ho.blocks))) ?_
  refine HeadR.det rfl (fun β hβ => (det_fieldAddr fl57_1 rfl)) ?_
  refine HeadR.det rfl (fun β hβ => (det_loadA ty28 rfl (List.Mem.tail _ (List.Mem.tail _ (List.Mem.head _))) rfl)) ?_
  refine HeadR.det rfl (fun β hβ => (det_fieldAddr fl57_1 rfl)) ?_
  refine HeadR.det rfl (fun β hβ => (det_loadA ty28 rfl (List.Mem.tail _ (List.Mem.head _)) rfl)) ?_
  refine HeadR.det rfl (fun β hβ => (det_call en33 rfl (fun w hb ho => Cu.Add_ok ho.blocks))) ?_
  refine HeadR.det rfl (fun β hβ => (det_build rfl bld57)) ?_
  refine HeadR.done ⟨by kernel_rfl, fun β hβ => ?_⟩
  refine OpsW.norm (F' := [(5, _), (6, _), (7, _), (8, _), (9, _), (10, _), (11, _), (12, _), (13, _), (14, _), (15, _), (4, _), (3, _), (2, _)]) (H' := [(_, _), (_, _), (_, _)]) rfl rfl ?_
  refine OpsW.storeW57 rfl rfl (Upd.here) ?_
  refine sNext ?_
  refine W.keep (F' := [(4, _)]) ⟨rfl, trivial⟩ ?_
  refine sRet ?_
  exact done1 Tryd.results47 (rv_cellA ty57 rfl (List.Mem.head _) rfl) rfl
theorem Sub_ok {x y : Fq2} {w : World} (hG : Blocks (GH T) w)  : Vm.Pure Tryd.prog 89 #[encF x, encF y] w (encF (x - y)) := by
  refine pure_of_W (n := 16) (args := [encF x, encF y]) Tryd.func89 rfl Tryd.ntmps89 (Nat.le_of_ble_eq_true rfl) hG ?_
  refine sStart ?_
  refine sSeq ?_
  refine W.region ?_
  refine OpsW.fresh (fr_boxW57 rfl) rfl fun b2 => ?_
  refine OpsW.fresh (fr_boxW57 rfl) rfl fun b3 => ?_
  refine OpsW.fresh (fr_alloc z57r) rfl fun b4 => ?_
  refine sNext ?_
  refine W.keep (F' := [(4, _), (3, _), (2, _)]) ⟨rfl, rfl, rfl, trivial⟩ ?_
  refine sSeq ?_
  refine W.draw mixed 11 [[], [0], [], [2], [0, 1, 2, 3], [], [5], [], [7], [0, 1, 2, 3, 4, 5, 6, 7, 8], [0, 1, 2, 3, 4, 5, 6, 7, 8, 9], [0, 1, 2, 3, 4, 5, 6, 7, 8, 9, 10]] (cl_lt (by decide)) ?_
  refine HeadR.start (cl_lt (by decide)) ?_
  refine HeadR.det rfl (fun β hβ => (det_fieldAddr fl57_0 rfl)) ?_
  refine HeadR.det rfl (fun β hβ => (det_loadA ty28 rfl (List.Mem.tail _ (List.Mem.tail _ (List.Mem.head _))) rfl)) ?_
  refine HeadR.det rfl (fun β hβ => (det_fieldAddr fl57_0 rfl)) ?_
  refine HeadR.det rfl (fun β hβ => (det_loadA ty28 rfl (List.Mem.tail _ (List.Mem.head _)) rfl)) ?_
  refine HeadR.det rfl (fun β hβ => (det_call en67 rfl (fun w hb ho => Cu.Sub_ok ho.blocks))) ?_
  refine HeadR.det rfl (fun β hβ => (det_fieldAddr fl57_1 rfl)) ?_
  refine HeadR.det rfl (fun β hβ => (det_loadA ty28 rfl (List.Mem.tail _ (List.Mem.tail _ (List.Mem.head _))) rfl)) ?_
  refine HeadR.det rfl (fun β hβ => (det_fieldAddr fl57_1 rfl)) ?_
  refine HeadR.det rfl (fun β hβ => (det_loadA ty28 rfl (List.Mem.tail _ (List.Mem.head _)) rfl)) ?_
  refine HeadR.det rfl (fun β hβ => (det_call en67 rfl (fun w hb ho => Cu.Sub_ok ho.blocks))) ?_
  refine HeadR.det rfl (fun β hβ => (det_build rfl bld57)) ?_
  refine HeadR.done ⟨by kernel_rfl, fun β hβ => ?_⟩
  refine OpsW.norm (F' := [(5, _), (6, _), (7, _), (8, _), (9, _), (10, _), (11, _), (12, _), (13, _), (14, _), (15, _), (4, _), (3, _), (2, _)]) (H' := [(_, _), (_, _), (_, _)]) rfl rfl ?_
  refine OpsW.storeW57 rfl rfl (Upd.here) ?_
  refine sNext ?_
  refine W.keep (F' := [(4, _)]) ⟨rfl, trivial⟩ ?_
  refine sRet ?_
  exact done1 Tryd.results89 (rv_cellA ty57 rfl (List.Mem.head _) rfl) rfl
theorem Mul_ok {x y : Fq2} {w : World} (hG : Blocks (GH T) w)  : Vm.Pure Tryd.prog 81 #[encF x, encF y] w (encF (x * y)) := by
  refine pure_of_W (n := 38) (args := [encF x, encF y]) Tryd.func81 rfl Tryd.ntmps81 (Nat.le_of_ble_eq_true rfl) hG ?_
  refine sStart ?_
  refine sSeq ?_
  refine W.region ?_
  refine OpsW.fresh (fr_boxW57 rfl) rfl fun b2 => ?_
  refine OpsW.fresh (fr_boxW57 rfl) rfl fun b3 => ?_
  refine OpsW.fresh (fr_alloc z57r) rfl fun b4 => ?_
  refine sNext ?_
  refine W.keep (F' := [(4, _), (3, _), (2, _)]) ⟨rfl, rfl, rfl, trivial⟩ ?_
  refine sSeq ?_
  refine W.draw mixed 12 [[], [0], [], [2], [0, 1, 2, 3], [], [5], [], [7], [0, 1, 2, 3, 4, 5, 6, 7, 8], [], [], [0, 1, 2, 3, 4, 5, 6, 7, 8, 9, 10, 11], [0, 1, 2, 3, 4, 5, 6, 7, 8, 9, 10, 11, 12]] (cl_lt (by decide)) ?_
  refine HeadR.start (cl_lt (by decide)) ?_
  refine HeadR.det rfl (fun β hβ => (det_fieldAddr fl57_0 rfl)) ?_
  refine HeadR.det rfl (fun β hβ => (det_loadA ty28 rfl (List.Mem.tail _ (List.Mem.tail _ (List.Mem.head _))) rfl)) ?_
  refine HeadR.det rfl (fun β hβ => (det_fieldAddr fl57_0 rfl)) ?_
  refine HeadR.det rfl (fun β hβ => (det_loadA ty28 rfl (List.Mem.tail _ (List.Mem.head _)) rfl)) ?_
  refine HeadR.det rfl (fun β hβ => (det_call en57 rfl (fun w hb ho => Cu.Mul_ok ho.blocks))) ?_
  refine HeadR.det rfl (fun β hβ => (det_fieldAddr fl57_1 rfl)) ?_
  refine HeadR.det rfl (fun β hβ => (det_loadA ty28 rfl (List.Mem.tail _ (List.Mem.tail _ (List.Mem.head _))) rfl)) ?_
  refine HeadR.det rfl (fun β hβ => (det_fieldAddr fl57_1 rfl)) ?_
  refine HeadR.det rfl (fun β hβ => (det_loadA ty28 rfl (List.Mem.tail _ (List.Mem.head _)) rfl)) ?_
  refine HeadR.det rfl (fun β hβ => (det_call en57 rfl (fun w hb ho => Cu.Mul_ok ho.blocks))) ?_
  refine HeadR.fresh rfl (fun β hβ => (fr_alloc z28).new) ?_
  refine HeadR.fresh rfl (fun β hβ => (fr_alloc z28).new) ?_
  refine HeadR.done ⟨by kernel_rfl, fun β hβ => ?_⟩
  refine OpsW.norm (F' := [(8, _), (9, _), (10, _), (11, _), (12, _), (13, _), (14, _), (15, _), (16, _), (17, _), (5, .pointer (some ⟨(β 5).1, 0, none⟩)), (6, .pointer (some ⟨(β 6).1, 0, none⟩)), (4, _), (3, _), (2, _)]) (H' := [(_, _), (_, _), (_, _), (_, _), (_, _)]) rfl rfl ?_
  generalize (β 5).1 = b5
  generalize (β 6).1 = b6
  refine OpsW.store sz28 rfl rfl rfl rfl rfl (Upd.here) rfl ?_
  refine OpsW.store sz28 rfl rfl rfl rfl rfl (Upd.there (Upd.here)) rfl ?_
  refine sNext ?_
  refine W.keep (F' := [(5, _), (6, _), (4, _), (3, _), (2, _)]) ⟨rfl, rfl, rfl, rfl, rfl, trivial⟩ ?_
  refine sSeq ?_
  refine W.draw mixed 12 [[], [0], [], [2], [0, 1, 2, 3], [], [5], [], [7], [0, 1, 2, 3, 4, 5, 6, 7, 8], [0, 1, 2, 3, 4, 5, 6, 7, 8, 9], [], [0, 1, 2, 3, 4, 5, 6, 7, 8, 9, 10, 11]] (cl_lt (by decide)) ?_
  refine HeadR.start (cl_lt (by decide)) ?_
  refine HeadR.det rfl (fun β hβ => (det_fieldAddr fl57_0 rfl)) ?_
  refine HeadR.det rfl (fun β hβ => (det_loadA ty28 rfl (List.Mem.tail _ (List.Mem.tail _ (List.Mem.tail _ (List.Mem.tail _ (List.Mem.head _))))) rfl)) ?_
  refine HeadR.det rfl (fun β hβ => (det_fieldAddr fl57_1 rfl)) ?_
  refine HeadR.det rfl (fun β hβ => (det_loadA ty28 rfl (List.Mem.tail _ (List.Mem.tail _ (List.Mem.tail _ (List.Mem.tail _ (List.Mem.head _))))) rfl)) ?_
  refine HeadR.det rfl (fun β hβ => (det_call en33 rfl (fun w hb ho => Cu.Add_ok ho.blocks))) ?_
  refine HeadR.det rfl (fun β hβ => (det_fieldAddr fl57_0 rfl)) ?_
  refine HeadR.det rfl (fun β hβ => (det_loadA ty28 rfl (List.Mem.tail _ (List.Mem.tail _ (List.Mem.tail _ (List.Mem.head _)))) rfl)) ?_
  refine HeadR.det rfl (fun β hβ => (det_fieldAddr fl57_1 rfl)) ?_
  refine HeadR.det rfl (fun β hβ => (det_loadA ty28 rfl (List.Mem.tail _ (List.Mem.tail _ (List.Mem.tail _ (List.Mem.head _)))) rfl)) ?_
  refine HeadR.det rfl (fun β hβ => (det_call en33 rfl (fun w hb ho => Cu.Add_ok ho.blocks))) ?_
  refine HeadR.det rfl (fun β hβ => (det_call en57 rfl (fun w hb ho => Cu.Mul_ok ho.blocks))) ?_
  refine HeadR.fresh rfl (fun β hβ => (fr_alloc z28).new) ?_
  refine HeadR.done ⟨by kernel_rfl, fun β hβ => ?_⟩
  refine OpsW.norm (F' := [(18, _), (19, _), (20, _), (21, _), (22, _), (23, _), (24, _), (25, _), (26, _), (27, _), (28, _), (7, .pointer (some ⟨(β 7).1, 0, none⟩)), (5, _), (6, _), (4, _), (3, _), (2, _)]) (H' := [(_, _), (_, _), (_, _), (_, _), (_, _), (_, _)]) rfl rfl ?_
  generalize (β 7).1 = b7
  refine OpsW.store sz28 rfl rfl rfl rfl rfl (Upd.here) rfl ?_
  refine sNext ?_
  refine W.keep (F' := [(7, _), (5, _), (6, _), (4, _)]) ⟨rfl, rfl, rfl, rfl, trivial⟩ ?_
  refine sSeq ?_
  refine W.draw mixed 9 [[], [], [0, 1], [], [], [0, 1, 2, 3, 4], [], [0, 1, 2, 3, 4, 5, 6], [0, 1, 2, 3, 4, 5, 6, 7], [0, 1, 2, 3, 4, 5, 6, 7, 8]] (cl_lt (by decide)) ?_
  refine HeadR.start (cl_lt (by decide)) ?_
  refine HeadR.det rfl (fun β hβ => (det_loadA ty28 rfl (List.Mem.tail _ (List.Mem.head _)) rfl)) ?_
  refine HeadR.det rfl (fun β hβ => (det_loadA ty28 rfl (List.Mem.tail _ (List.Mem.tail _ (List.Mem.head _))) rfl)) ?_
  refine HeadR.det rfl (fun β hβ => (det_call en67 rfl (fun w hb ho => Cu.Sub_ok ho.blocks))) ?_
  refine HeadR.det rfl (fun β hβ => (det_loadA ty28 rfl (List.Mem.head _) rfl)) ?_
  refine HeadR.det rfl (fun β hβ => (det_loadA ty28 rfl (List.Mem.tail _ (List.Mem.head _)) rfl)) ?_
  refine HeadR.det rfl (fun β hβ => (det_call en67 rfl (fun w hb ho => Cu.Sub_ok ho.blocks))) ?_
  refine HeadR.det rfl (fun β hβ => (det_loadA ty28 rfl (List.Mem.tail _ (List.Mem.tail _ (List.Mem.head _))) rfl)) ?_
  refine HeadR.det rfl (fun β hβ => (det_call en67 rfl (fun w hb ho => Cu.Sub_ok ho.blocks))) ?_
  refine HeadR.det rfl (fun β hβ => (det_build rfl bld57)) ?_
  refine HeadR.done ⟨by kernel_rfl, fun β hβ => ?_⟩
  refine OpsW.norm (F' := [(29, _), (30, _), (31, _), (32, _), (33, _), (34, _), (35, _), (36, _), (37, _), (7, _), (5, _), (6, _), (4, _)]) (H' := [(_, _), (_, _), (_, _), (_, _), (_, _), (_, _)]) rfl rfl ?_
  refine OpsW.storeW57 rfl rfl (Upd.there (Upd.there (Upd.there (Upd.here)))) ?_
  refine sNext ?_
  refine W.keep (F' := [(4, _)]) ⟨rfl, trivial⟩ ?_
  refine sRet ?_
  exact done1 Tryd.results81 (rv_cellA ty57 rfl (List.Mem.tail _ (List.Mem.tail _ (List.Mem.tail _ (List.Mem.head _)))) rfl) rfl
theorem Neg_ok {x : Fq2} {w : World} (hG : Blocks (GH T) w)  : Vm.Pure Tryd.prog 79 #[encF x] w (encF (0 - x)) := by
  refine pure_of_W (n := 10) (args := [encF x]) Tryd.func79 rfl Tryd.ntmps79 (Nat.le_of_ble_eq_true rfl) hG ?_
  refine sStart ?_
  refine sSeq ?_
  refine W.region ?_
  refine OpsW.fresh (fr_boxW57 rfl) rfl fun b1 => ?_
  refine OpsW.fresh (fr_alloc z57r) rfl fun b2 => ?_
  refine sNext ?_
  refine W.keep (F' := [(2, _), (1, _)]) ⟨rfl, rfl, trivial⟩ ?_
  refine sSeq ?_
  refine W.draw mixed 7 [[], [0], [0, 1], [], [3], [0, 1, 2, 3, 4], [0, 1, 2, 3, 4, 5], [0, 1, 2, 3, 4, 5, 6]] (cl_lt (by decide)) ?_
  refine HeadR.start (cl_lt (by decide)) ?_
  refine HeadR.det rfl (fun β hβ => (det_fieldAddr fl57_0 rfl)) ?_
  refine HeadR.det rfl (fun β hβ => (det_loadA ty28 rfl (List.Mem.tail _ (List.Mem.head _)) rfl)) ?_
  refine HeadR.det rfl (fun β hβ => (det_call en55 rfl (fun w hb ho => Cu.Neg_ok ho.blocks))) ?_
  refine HeadR.det rfl (fun β hβ => (det_fieldAddr fl57_1 rfl)) ?_
  refine HeadR.det rfl (fun β hβ => (det_loadA ty28 rfl (List.Mem.tail _ (List.Mem.head _)) rfl)) ?_
  refine HeadR.det rfl (fun β hβ => (det_call en55 rfl (fun w hb ho => Cu.Neg_ok ho.blocks))) ?_
  refine HeadR.det rfl (fun β hβ => (det_build rfl bld57)) ?_
  refine HeadR.done ⟨by kernel_rfl, fun β hβ => ?_⟩
  refine OpsW.norm (F' := [(3, _), (4, _), (5, _), (6, _), (7, _), (8, _), (9, _), (2, _), (1, _)]) (H' := [(_, _), (_, _)]) rfl rfl ?_
  refine OpsW.storeW57 rfl rfl (Upd.here) ?_
  refine sNext ?_
  refine W.keep (F' := [(2, _)]) ⟨rfl, trivial⟩ ?_
  refine sRet ?_
  exact done1 Tryd.results79 (rv_cellA ty57 rfl (List.Mem.head _) rfl) rfl
theorem Conj_ok {x : Fq2} {w : World} (hG : Blocks (GH T) w)  : Vm.Pure Tryd.prog 101 #[encF x] w (encF (conj2 x)) := by
  refine pure_of_W (n := 9) (args := [encF x]) Tryd.func101 rfl Tryd.ntmps101 (Nat.le_of_ble_eq_true rfl) hG ?_
  refine sStart ?_
  refine sSeq ?_
  refine W.region ?_
  refine OpsW.fresh (fr_boxW57 rfl) rfl fun b1 => ?_
  refine OpsW.fresh (fr_alloc z57r) rfl fun b2 => ?_
  refine sNext ?_
  refine W.keep (F' := [(2, _), (1, _)]) ⟨rfl, rfl, trivial⟩ ?_
  refine sSeq ?_
  refine W.draw mixed 6 [[], [0], [], [2], [2, 3], [0, 1, 2, 3, 4], [0, 1, 2, 3, 4, 5]] (cl_lt (by decide)) ?_
  refine HeadR.start (cl_lt (by decide)) ?_
  refine HeadR.det rfl (fun β hβ => (det_fieldAddr fl57_0 rfl)) ?_
  refine HeadR.det rfl (fun β hβ => (det_loadA ty28 rfl (List.Mem.tail _ (List.Mem.head _)) rfl)) ?_
  refine HeadR.det rfl (fun β hβ => (det_fieldAddr fl57_1 rfl)) ?_
  refine HeadR.det rfl (fun β hβ => (det_loadA ty28 rfl (List.Mem.tail _ (List.Mem.head _)) rfl)) ?_
  refine HeadR.det rfl (fun β hβ => (det_call en55 rfl (fun w hb ho => Cu.Neg_ok ho.blocks))) ?_
  refine HeadR.det rfl (fun β hβ => (det_build rfl bld57)) ?_
  refine HeadR.done ⟨by kernel_rfl, fun β hβ => ?_⟩
  refine OpsW.norm (F' := [(3, _), (4, _), (5, _), (6, _), (7, _), (8, _), (2, _), (1, _)]) (H' := [(_, _), (_, _)]) rfl rfl ?_
  refine OpsW.storeW57 rfl rfl (Upd.here) ?_
  refine sNext ?_
  refine W.keep (F' := [(2, _)]) ⟨rfl, trivial⟩ ?_
  refine sRet ?_
  exact done1 Tryd.results101 (rv_cellA ty57 rfl (List.Mem.head _) rfl) rfl
theorem Square_ok {x : Fq2} {w : World} (hG : Blocks (GH T) w)  : Vm.Pure Tryd.prog 80 #[encF x] w (encF (x * x)) := by
  refine pure_of_W (n := 24) (args := [encF x]) Tryd.func80 rfl Tryd.ntmps80 (Nat.le_of_ble_eq_true rfl) hG ?_
  refine sStart ?_
  refine sSeq ?_
  refine W.region ?_
  refine OpsW.fresh (fr_boxW57 rfl) rfl fun b1 => ?_
  refine OpsW.fresh (fr_alloc z57r) rfl fun b2 => ?_
  refine sNext ?_
  refine W.keep (F' := [(2, _), (1, _)]) ⟨rfl, rfl, trivial⟩ ?_
  refine sSeq ?_
  refine W.region ?_
  refine OpsW.det (det_fieldAddr fl57_0 rfl) rfl ?_
  refine OpsW.det (det_loadA ty28 rfl (List.Mem.tail _ (List.Mem.head _)) rfl) rfl ?_
  refine OpsW.det (det_fieldAddr fl57_1 rfl) rfl ?_
  refine OpsW.det (det_loadA ty28 rfl (List.Mem.tail _ (List.Mem.head _)) rfl) rfl ?_
  refine OpsW.det (det_call en57 rfl (fun w hb ho => Cu.Mul_ok ho.blocks)) rfl ?_
  refine OpsW.fresh (fr_alloc z28) rfl fun b3 => ?_
  refine OpsW.store sz28 rfl rfl rfl rfl rfl (Upd.here) rfl ?_
  refine sNext ?_
  refine W.keep (F' := [(3, _), (2, _), (1, _)]) ⟨rfl, rfl, rfl, trivial⟩ ?_
  refine sSeq ?_
  refine W.draw mixed 15 [[], [0], [], [2], [0, 1, 2, 3], [], [5], [], [7], [0, 1, 2, 3, 4, 5, 6, 7, 8], [0, 1, 2, 3, 4, 5, 6, 7, 8, 9], [], [], [0, 1, 2, 3, 4, 5, 6, 7, 8, 9, 10, 11, 12], [0, 1, 2, 3, 4, 5, 6, 7, 8, 9, 10, 11, 12, 13], [0, 1, 2, 3, 4, 5, 6, 7, 8, 9, 10, 11, 12, 13, 14]] (cl_lt (by decide)) ?_
  refine HeadR.start (cl_lt (by decide)) ?_
  refine HeadR.det rfl (fun β hβ => (det_fieldAddr fl57_0 rfl)) ?_
  refine HeadR.det rfl (fun β hβ => (det_loadA ty28 rfl (List.Mem.tail _ (List.Mem.tail _ (List.Mem.head _))) rfl)) ?_
  refine HeadR.det rfl (fun β hβ => (det_fieldAddr fl57_1 rfl)) ?_
  refine HeadR.det rfl (fun β hβ => (det_loadA ty28 rfl (List.Mem.tail _ (List.Mem.tail _ (List.Mem.head _))) rfl)) ?_
  refine HeadR.det rfl (fun β hβ => (det_call en33 rfl (fun w hb ho => Cu.Add_ok ho.blocks))) ?_
  refine HeadR.det rfl (fun β hβ => (det_fieldAddr fl57_0 rfl)) ?_
  refine HeadR.det rfl (fun β hβ => (det_loadA ty28 rfl (List.Mem.tail _ (List.Mem.tail _ (List.Mem.head _))) rfl)) ?_
  refine HeadR.det rfl (fun β hβ => (det_fieldAddr fl57_1 rfl)) ?_
  refine HeadR.det rfl (fun β hβ => (det_loadA ty28 rfl (List.Mem.tail _ (List.Mem.tail _ (List.Mem.head _))) rfl)) ?_
  refine HeadR.det rfl (fun β hβ => (det_call en67 rfl (fun w hb ho => Cu.Sub_ok ho.blocks))) ?_
  refine HeadR.det rfl (fun β hβ => (det_call en57 rfl (fun w hb ho => Cu.Mul_ok ho.blocks))) ?_
  refine HeadR.det rfl (fun β hβ => (det_loadA ty28 rfl (List.Mem.head _) rfl)) ?_
  refine HeadR.det rfl (fun β hβ => (det_loadA ty28 rfl (List.Mem.head _) rfl)) ?_
  refine HeadR.det rfl (fun β hβ => (det_call en33 rfl (fun w hb ho => Cu.Add_ok ho.blocks))) ?_
  refine HeadR.det rfl (fun β hβ => (det_build rfl bld57)) ?_
  refine HeadR.done ⟨by kernel_rfl, fun β hβ => ?_⟩
  refine OpsW.norm (F' := [(9, _), (10, _), (11, _), (12, _), (13, _), (14, _), (15, _), (16, _), (17, _), (18, _), (19, _), (20, _), (21, _), (22, _), (23, _), (3, _), (2, _), (1, _)]) (H' := [(_, _), (_, _), (_, _)]) rfl rfl ?_
  refine OpsW.storeW57 rfl rfl (Upd.there (Upd.here)) ?_
  refine sNext ?_
  refine W.keep (F' := [(2, _)]) ⟨rfl, trivial⟩ ?_
  refine sRet ?_
  exact done1 Tryd.results80 (rv_cellA ty57 rfl (List.Mem.tail _ (List.Mem.head _)) rfl) (congrArg encF (sq2 x))
theorem Scale_ok {x : Fq2} {k : Fq} {w : World} (hG : Blocks (GH T) w)  : Vm.Pure Tryd.prog 103 #[encF x, Cu.encF k] w (encF (scale2 x k)) := by
  refine pure_of_W (n := 14) (args := [encF x, Cu.encF k]) Tryd.func103 rfl Tryd.ntmps103 (Nat.le_of_ble_eq_true rfl) hG ?_
  refine sStart ?_
  refine sSeq ?_
  refine W.region ?_
  refine OpsW.fresh (fr_boxW57 rfl) rfl fun b2 => ?_
  refine OpsW.fresh (fr_box rfl rfl) rfl fun b3 => ?_
  refine OpsW.fresh (fr_alloc z57r) rfl fun b4 => ?_
  refine sNext ?_
  refine W.keep (F' := [(4, _), (3, _), (2, _)]) ⟨rfl, rfl, rfl, trivial⟩ ?_
  refine sSeq ?_
  refine W.draw mixed 9 [[], [0], [], [0, 1, 2], [], [4], [], [0, 1, 2, 3, 4, 5, 6], [0, 1, 2, 3, 4, 5, 6, 7], [0, 1, 2, 3, 4, 5, 6, 7, 8]] (cl_lt (by decide)) ?_
  refine HeadR.start (cl_lt (by decide)) ?_
  refine HeadR.det rfl (fun β hβ => (det_fieldAddr fl57_0 rfl)) ?_
  refine HeadR.det rfl (fun β hβ => (det_loadA ty28 rfl (List.Mem.tail _ (List.Mem.tail _ (List.Mem.head _))) rfl)) ?_
  refine HeadR.det rfl (fun β hβ => (det_loadA ty28 rfl (List.Mem.tail _ (List.Mem.head _)) rfl)) ?_
  refine HeadR.det rfl (fun β hβ => (det_call en57 rfl (fun w hb ho => Cu.Mul_ok ho.blocks))) ?_
  refine HeadR.det rfl (fun β hβ => (det_fieldAddr fl57_1 rfl)) ?_
  refine HeadR.det rfl (fun β hβ => (det_loadA ty28 rfl (List.Mem.tail _ (List.Mem.tail _ (List.Mem.head _))) rfl)) ?_
  refine HeadR.det rfl (fun β hβ => (det_loadA ty28 rfl (List.Mem.tail _ (List.Mem.head _)) rfl)) ?_
  refine HeadR.det rfl (fun β hβ => (det_call en57 rfl (fun w hb ho => Cu.Mul_ok ho.blocks))) ?_
  refine HeadR.det rfl (fun β hβ => (det_build rfl bld57)) ?_
  refine HeadR.done ⟨by kernel_rfl, fun β hβ => ?_⟩
  refine OpsW.norm (F' := [(5, _), (6, _), (7, _), (8, _), (9, _), (10, _), (11, _), (12, _), (13, _), (4, _), (3, _), (2, _)]) (H' := [(_, _), (_, _), (_, _)]) rfl rfl ?_
  refine OpsW.storeW57 rfl rfl (Upd.here) ?_
  refine sNext ?_
  refine W.keep (F' := [(4, _)]) ⟨rfl, trivial⟩ ?_
  refine sRet ?_
  exact done1 Tryd.results103 (rv_cellA ty57 rfl (List.Mem.head _) rfl) rfl
theorem Norm_ok {x : Fq2} {w : World} (hG : Blocks (GH T) w)  : Vm.Pure Tryd.prog 102 #[encF x] w (Cu.encF (norm2 x)) := by
  refine pure_of_W (n := 10) (args := [encF x]) Tryd.func102 rfl Tryd.ntmps102 (Nat.le_of_ble_eq_true rfl) hG ?_
  refine sStart ?_
  refine sSeq ?_
  refine W.region ?_
  refine OpsW.fresh (fr_boxW57 rfl) rfl fun b1 => ?_
  refine OpsW.fresh (fr_alloc z28) rfl fun b2 => ?_
  refine sNext ?_
  refine W.keep (F' := [(2, _), (1, _)]) ⟨rfl, rfl, trivial⟩ ?_
  refine sSeq ?_
  refine W.draw mixed 7 [[], [0], [0, 1], [], [3], [0, 1, 2, 3, 4], [0, 1, 2, 3, 4, 5], [0, 1, 2, 3, 4, 5, 6]] (cl_lt (by decide)) ?_
  refine HeadR.start (cl_lt (by decide)) ?_
  refine HeadR.det rfl (fun β hβ => (det_fieldAddr fl57_0 rfl)) ?_
  refine HeadR.det rfl (fun β hβ => (det_loadA ty28 rfl (List.Mem.tail _ (List.Mem.head _)) rfl)) ?_
  refine HeadR.det rfl (fun β hβ => (det_call en56 rfl (fun w hb ho => Cu.Square_ok ho.blocks))) ?_
  refine HeadR.det rfl (fun β hβ => (det_fieldAddr fl57_1 rfl)) ?_
  refine HeadR.det rfl (fun β hβ => (det_loadA ty28 rfl (List.Mem.tail _ (List.Mem.head _)) rfl)) ?_
  refine HeadR.det rfl (fun β hβ => (det_call en56 rfl (fun w hb ho => Cu.Square_ok ho.blocks))) ?_
  refine HeadR.det rfl (fun β hβ => (det_call en33 rfl (fun w hb ho => Cu.Add_ok ho.blocks))) ?_
  refine HeadR.done ⟨by kernel_rfl, fun β hβ => ?_⟩
  refine OpsW.norm (F' := [(3, _), (4, _), (5, _), (6, _), (7, _), (8, _), (9, _), (2, _), (1, _)]) (H' := [(_, _), (_, _)]) rfl rfl ?_
  refine OpsW.store sz28 rfl rfl rfl rfl rfl (Upd.here) rfl ?_
  refine sNext ?_
  refine W.keep (F' := [(2, _)]) ⟨rfl, trivial⟩ ?_
  refine sRet ?_
  exact done1 Tryd.results102 (rv_cellA ty28 rfl (List.Mem.head _) rfl) rfl
theorem Inv_ok {x : Fq2} {w : World} (hG : Blocks (GH T) w)  : Vm.Pure Tryd.prog 100 #[encF x] w (encF (inv2 x)) := by
  refine pure_of_W (n := 9) (args := [encF x]) Tryd.func100 rfl Tryd.ntmps100 (Nat.le_of_ble_eq_true rfl) hG ?_
  refine sStart ?_
  refine sSeq ?_
  refine W.region ?_
  refine OpsW.fresh (fr_boxW57 rfl) rfl fun b1 => ?_
  refine OpsW.fresh (fr_alloc z57r) rfl fun b2 => ?_
  refine sNext ?_
  refine W.keep (F' := [(2, _), (1, _)]) ⟨rfl, rfl, trivial⟩ ?_
  refine sSeq ?_
  refine W.draw mixed 6 [[], [0], [], [0, 1, 2], [0, 1, 2, 3], [0, 1, 2, 3, 4], [0, 1, 2, 3, 4, 5]] (cl_lt (by decide)) ?_
  refine HeadR.start (cl_lt (by decide)) ?_
  refine HeadR.det rfl (fun β hβ => (det_loadW57 rfl (List.Mem.tail _ (List.Mem.head _)))) ?_
  refine HeadR.det rfl (fun β hβ => (det_call en101 rfl (fun w hb ho => Conj_ok ho.blocks))) ?_
  refine HeadR.det rfl (fun β hβ => (det_loadW57 rfl (List.Mem.tail _ (List.Mem.head _)))) ?_
  refine HeadR.det rfl (fun β hβ => (det_call en102 rfl (fun w hb ho => Norm_ok ho.blocks))) ?_
  refine HeadR.det rfl (fun β hβ => (det_call en96 rfl (fun w hb ho => Cu.Inv_ok ho.blocks))) ?_
  refine HeadR.det rfl (fun β hβ => (det_call en103 rfl (fun w hb ho => Scale_ok ho.blocks))) ?_
  refine HeadR.done ⟨by kernel_rfl, fun β hβ => ?_⟩
  refine OpsW.norm (F' := [(3, _), (4, _), (5, _), (6, _), (7, _), (8, _), (2, _), (1, _)]) (H' := [(_, _), (_, _)]) rfl rfl ?_
  refine OpsW.storeW57 rfl rfl (Upd.here) ?_
  refine sNext ?_
  refine W.keep (F' := [(2, _)]) ⟨rfl, trivial⟩ ?_
  refine sRet ?_
  exact done1 Tryd.results100 (rv_cellA ty57 rfl (List.Mem.head _) rfl) rfl
theorem Zero_ok {x : Fq2} {w : World} (hG : Blocks (GH T) w)  : Vm.Pure Tryd.prog 86 #[encF x] w (.bool (decide (x = 0))) := by
  refine pure_of_W (n := 6) (args := [encF x]) Tryd.func86 rfl Tryd.ntmps86 (Nat.le_of_ble_eq_true rfl) hG ?_
  refine sStart ?_
  refine sSeq ?_
  refine W.region ?_
  refine OpsW.fresh (fr_boxW57 rfl) rfl fun b1 => ?_
  refine OpsW.det (det_assign rfl) rfl ?_
  refine sNext ?_
  refine W.keep (F' := [(1, _)]) ⟨rfl, trivial⟩ ?_
  refine sSeq ?_
  refine W.region ?_
  refine OpsW.det (det_loadW57 rfl (List.Mem.head _)) rfl ?_
  refine OpsW.det (det_zero bz57) rfl ?_
  refine OpsW.det (det_eql57 rfl rfl) rfl ?_
  refine OpsW.det (det_assign rfl) rfl ?_
  refine sNext ?_
  refine W.keep (F' := [(2, _)]) ⟨rfl, trivial⟩ ?_
  refine sRet ?_
  exact done1 Tryd.results86 (rv_tmp rfl) rfl
theorem Small_ok {m n : Nat} (hm : m < 18446744073709551616) (hn : n < 18446744073709551616) {w : World} (hG : Blocks (GH T) w)  : Vm.Pure Tryd.prog 84 #[u64 m, u64 n] w (encF (small m n)) := by
  refine pure_of_W (n := 10) (args := [u64 m, u64 n]) Tryd.func84 rfl Tryd.ntmps84 (Nat.le_of_ble_eq_true rfl) hG ?_
  refine sStart ?_
  refine sSeq ?_
  refine W.region ?_
  refine OpsW.fresh (fr_alloc z57r) rfl fun b4 => ?_
  refine sNext ?_
  refine sSeq ?_
  refine W.region ?_
  refine OpsW.det (det_move rfl) rfl ?_
  refine OpsW.det (det_call en59 rfl (fun w hb ho => Cu.Of_ok hm ho.blocks)) rfl ?_
  refine OpsW.det (det_move rfl) rfl ?_
  refine OpsW.det (det_call en59 rfl (fun w hb ho => Cu.Of_ok hn ho.blocks)) rfl ?_
  refine OpsW.det (det_build rfl bld57) rfl ?_
  refine OpsW.storeW57 rfl rfl (Upd.here) ?_
  refine sNext ?_
  refine W.keep (F' := [(4, _)]) ⟨rfl, trivial⟩ ?_
  refine sRet ?_
  exact done1 Tryd.results84 (rv_cellA ty57 rfl (List.Mem.head _) rfl) rfl
theorem four_ok  {w : World} (hG : Blocks (GH T) w)  : Vm.Pure Tryd.prog 82 #[] w (encF (small 4 4)) := by
  refine pure_of_W (n := 2) (args := []) Tryd.func82 rfl Tryd.ntmps82 (Nat.le_of_ble_eq_true rfl) hG ?_
  refine sStart ?_
  refine sSeq ?_
  refine W.region ?_
  refine OpsW.fresh (fr_alloc z57r) rfl fun b0 => ?_
  refine sNext ?_
  refine sSeq ?_
  refine W.region ?_
  refine OpsW.det (det_call en84 rfl (fun w hb ho => Small_ok (m := 4) (n := 4) (by decide) (by decide) ho.blocks)) rfl ?_
  refine OpsW.storeW57 rfl rfl (Upd.here) ?_
  refine sNext ?_
  refine W.keep (F' := [(0, _)]) ⟨rfl, trivial⟩ ?_
  refine sRet ?_
  exact done1 Tryd.results82 (rv_cellA ty57 rfl (List.Mem.head _) rfl) rfl
theorem one_ok  {w : World} (hG : Blocks (GH T) w)  : Vm.Pure Tryd.prog 99 #[] w (encF (small 1 0)) := by
  refine pure_of_W (n := 2) (args := []) Tryd.func99 rfl Tryd.ntmps99 (Nat.le_of_ble_eq_true rfl) hG ?_
  refine sStart ?_
  refine sSeq ?_
  refine W.region ?_
  refine OpsW.fresh (fr_alloc z57r) rfl fun b0 => ?_
  refine sNext ?_
  refine sSeq ?_
  refine W.region ?_
  refine OpsW.det (det_call en84 rfl (fun w hb ho => Small_ok (m := 1) (n := 0) (by decide) (by decide) ho.blocks)) rfl ?_
  refine OpsW.storeW57 rfl rfl (Upd.here) ?_
  refine sNext ?_
  refine W.keep (F' := [(0, _)]) ⟨rfl, trivial⟩ ?_
  refine sRet ?_
  exact done1 Tryd.results99 (rv_cellA ty57 rfl (List.Mem.head _) rfl) rfl

end Go.Cw

/- The field with i: numbers read, roots: the walks. Conditions: none. -/
namespace Go.Cw
open Go Go.Vm Go.RowKit Go.Proofs Go.Cu
attribute [local irreducible] W OpsW Det Fresh New Writes Vm.Pure Makes Changes ExternTo BuildTo ZeroTo FieldTo IndexTo BinTo SliceTo Vm.Enters
set_option linter.unusedVariables false
set_option linter.unusedSimpArgs false
variable {T : Nat → TypeId × Nat × Nat}

def odd2 (x : Fq2) : Bool := if x.a = 0 then oddF x.b else oddF x.a
theorem odd2_yes {x : Fq2} (h : decide (x.a = 0) = true) : odd2 x = oddF x.b := if_pos (of_decide_eq_true h)
theorem odd2_no {x : Fq2} (h : decide (x.a = 0) = false) : odd2 x = oddF x.a := if_neg (of_decide_eq_false h)
/-- 96 bytes: b first. -/
def read2 (l : List Nat) : Fq2 × Int := if l.length ≠ 96 then (0, 10) else if (readF (l.take 48)).2 ≠ 0 ∨ (readF (l.drop 48)).2 ≠ 0 then (0, 12) else (⟨(readF (l.drop 48)).1, (readF (l.take 48)).1⟩, 0)
theorem read2_len {l : List Nat} (h : l.length ≠ 96) : read2 l = (0, 10) := if_pos h
theorem read2_no {l : List Nat} (h : l.length = 96) (h2 : (readF (l.take 48)).2 ≠ 0 ∨ (readF (l.drop 48)).2 ≠ 0) : read2 l = (0, 12) := by unfold read2; rw [if_neg (by omega), if_pos h2]
theorem read2_yes {l : List Nat} (h : l.length = 96) (h1 : (readF (l.take 48)).2 = 0) (h2 : (readF (l.drop 48)).2 = 0) : read2 l = (⟨(readF (l.drop 48)).1, (readF (l.take 48)).1⟩, 0) := by
  unfold read2; rw [if_neg (by omega), if_neg (fun h => h.elim (fun h => h h1) (fun h => h h2))]
theorem read2_post {l : List Nat} {x : Fq2} {e : Int} (h : read2 l = (x, e)) : Value.tuple #[encF x, .int .i64 e] = .tuple #[encF (read2 l).1, .int .i64 (read2 l).2] := by rw [h]
/-- A piece of a slice of bytes. -/
theorem Bs_take {G' : Hp} {b o cap k : Nat} {l : List Nat} {ad : Option Addr} (hB : Bs G' (.slice (some ⟨b, o, none⟩) l.length cap) l) (hk : k ≤ l.length) : Bs G' (.slice (some ⟨b, o, none⟩) k cap) (l.take k) := by
  have hl : (l.take k).length = k := by rw [List.length_take]; omega
  refine ⟨⟨_, _, by rw [hl]⟩, fun c hc => hB.small c (List.mem_of_mem_take hc), fun h => ?_⟩
  obtain ⟨b', o', cap', cs, e, fr, hv, hm, hcap, hcs⟩ := hB.all (by omega)
  simp only [Value.slice.injEq, Option.some.injEq, Addr.mk.injEq] at hv
  obtain ⟨⟨rfl, rfl, _⟩, _, rfl⟩ := hv
  exact ⟨b, o, cap, cs, e, fr, by rw [hl], hm, by omega, fun i hi => by rw [hcs i (by omega), List.getElem_take]⟩
theorem Bs_drop {G' : Hp} {b o cap k : Nat} {l : List Nat} (hB : Bs G' (.slice (some ⟨b, o, none⟩) l.length cap) l) (hk : k < l.length) : Bs G' (.slice (some ⟨b, o + k, none⟩) (l.length - k) (cap - k)) (l.drop k) := by
  have hl : (l.drop k).length = l.length - k := List.length_drop
  refine ⟨⟨_, _, by rw [hl]⟩, fun c hc => hB.small c (List.mem_of_mem_drop hc), fun h => ?_⟩
  obtain ⟨b', o', cap', cs, e, fr, hv, hm, hcap, hcs⟩ := hB.all (by omega)
  simp only [Value.slice.injEq, Option.some.injEq, Addr.mk.injEq] at hv
  obtain ⟨⟨rfl, rfl, _⟩, _, rfl⟩ := hv
  exact ⟨b, o + k, cap - k, cs, e, fr, by rw [hl], hm, by omega, fun i hi => by rw [Nat.add_assoc, hcs (k + i) (by omega), List.getElem_drop]⟩

/-- The root by halves: f tries, the first with n. -/
def s2from (x : Fq2) (h : Fq) : Nat → Fq → Fq2 × Bool
  | 0, _ => (0, false)
  | f + 1, n => if (sqrtF ((x.a + n) * h)).2 = true ∧ (sqrtF ((x.a + n) * h)).1 ≠ 0 then (⟨(sqrtF ((x.a + n) * h)).1, x.b * h * inv (sqrtF ((x.a + n) * h)).1⟩, true) else s2from x h f (0 - n)
def sqrt2 (x : Fq2) : Fq2 × Bool :=
  if x.b = 0 then (if (sqrtF x.a).2 = true then (⟨(sqrtF x.a).1, 0⟩, true) else (⟨0, (sqrtF (0 - x.a)).1⟩, true))
  else if (sqrtF (norm2 x)).2 = true then s2from x (inv (Zp.of 2)) 2 (sqrtF (norm2 x)).1 else (0, false)
theorem sqrt2_a {x : Fq2} (h : decide (x.b = 0) = true) (h2 : (sqrtF x.a).2 = true) : sqrt2 x = (⟨(sqrtF x.a).1, 0⟩, true) := (if_pos (of_decide_eq_true h)).trans (if_pos h2)
theorem sqrt2_b {x : Fq2} (h : decide (x.b = 0) = true) (h2 : (sqrtF x.a).2 = false) : sqrt2 x = (⟨0, (sqrtF (0 - x.a)).1⟩, true) := (if_pos (of_decide_eq_true h)).trans (if_neg (by rw [h2]; decide))
theorem sqrt2_c {x : Fq2} (h : decide (x.b = 0) = false) (h2 : (!(sqrtF (norm2 x)).2) = true) : sqrt2 x = (0, false) := (if_neg (of_decide_eq_false h)).trans (if_neg (by simpa using h2))
theorem sqrt2_d {x : Fq2} (h : decide (x.b = 0) = false) (h2 : (!(sqrtF (norm2 x)).2) = false) : sqrt2 x = s2from x (inv (Zp.of 2)) 2 (sqrtF (norm2 x)).1 := (if_neg (of_decide_eq_false h)).trans (if_pos (by simpa using h2))
theorem s2_hit {x : Fq2} {h n : Fq} {i : Nat} {r : Fq2 × Bool} (hi : i < 2) (hr : r = s2from x h (2 - i) n) (h1 : (sqrtF ((x.a + n) * h)).2 = true) (h2 : (!decide ((sqrtF ((x.a + n) * h)).1 = 0)) = true) :
    r = (⟨(sqrtF ((x.a + n) * h)).1, x.b * h * inv (sqrtF ((x.a + n) * h)).1⟩, true) := by
  rw [hr, show 2 - i = (2 - (i + 1)) + 1 by omega, s2from, if_pos ⟨h1, by simpa using h2⟩]
theorem s2_no {x : Fq2} {h n : Fq} {i : Nat} {r : Fq2 × Bool} (hi : i < 2) (hr : r = s2from x h (2 - i) n) (h1 : (sqrtF ((x.a + n) * h)).2 = false) : r = s2from x h (2 - (i + 1)) (0 - n) := by
  rw [hr, show 2 - i = (2 - (i + 1)) + 1 by omega, s2from, if_neg (by rw [h1]; simp)]
theorem s2_zero {x : Fq2} {h n : Fq} {i : Nat} {r : Fq2 × Bool} (hi : i < 2) (hr : r = s2from x h (2 - i) n) (h2 : (!decide ((sqrtF ((x.a + n) * h)).1 = 0)) = false) : r = s2from x h (2 - (i + 1)) (0 - n) := by
  rw [hr, show 2 - i = (2 - (i + 1)) + 1 by omega, s2from, if_neg (by
    have h2 : (sqrtF ((x.a + n) * h)).1 = 0 := by simpa using h2
    rw [h2]; simp)]
theorem s2_end {x : Fq2} {h n : Fq} {i : Nat} {r : Fq2 × Bool} (hi : i ≤ 2) (hi2 : ¬ i < 2) (hr : r = s2from x h (2 - i) n) : r = (0, false) := by
  rw [hr, show 2 - i = 0 by omega, s2from]
theorem sqrt2_post {x y : Fq2} {b : Bool} (h : sqrt2 x = (y, b)) : Value.tuple #[encF y, .bool b] = .tuple #[encF (sqrt2 x).1, .bool (sqrt2 x).2] := by rw [h]

theorem bld57_0 {a : Fq} : BuildTo Tryd.prog 57 [(0, Cu.encF a)] (encF ⟨a, 0⟩) := BuildTo.of fun _ => by kernel_rfl
theorem bld57_1 {b : Fq} : BuildTo Tryd.prog 57 [(1, Cu.encF b)] (encF ⟨0, b⟩) := BuildTo.of fun _ => by kernel_rfl
theorem ty69 : TyC Tryd.prog 69 := ⟨by kernel_rfl, by kernel_rfl⟩
theorem Odd_ok {x : Fq2} {w : World} (hG : Blocks (GH T) w)  : Vm.Pure Tryd.prog 74 #[encF x] w (.bool (odd2 x)) := by
  refine pure_of_W (n := 12) (args := [encF x]) Tryd.func74 rfl Tryd.ntmps74 (Nat.le_of_ble_eq_true rfl) hG ?_
  refine sStart ?_
  refine sSeq ?_
  refine W.region ?_
  refine OpsW.fresh (fr_boxW57 rfl) rfl fun b1 => ?_
  refine OpsW.det (det_assign rfl) rfl ?_
  refine sNext ?_
  refine W.keep (F' := [(1, _)]) ⟨rfl, trivial⟩ ?_
  refine sSeq ?_
  refine sSeq ?_
  refine W.region ?_
  refine OpsW.det (det_fieldAddr fl57_0 rfl) rfl ?_
  refine OpsW.det (det_loadA ty28 rfl (List.Mem.head _) rfl) rfl ?_
  refine OpsW.det (det_call en61 rfl (fun w hb ho => Cu.Zero_ok ho.blocks)) rfl ?_
  refine sNext ?_
  refine W.keep (F' := [(5, _), (1, _)]) ⟨rfl, rfl, trivial⟩ ?_
  refine W.cond rfl (fun hc5 => ?_) (fun hc5 => ?_)
  · skip
    refine sSeq ?_
    refine W.region ?_
    refine OpsW.det (det_fieldAddr fl57_1 rfl) rfl ?_
    refine OpsW.det (det_loadA ty28 rfl (List.Mem.head _) rfl) rfl ?_
    refine OpsW.det (det_call en48 rfl (fun w hb ho => Cu.Odd_ok ho.blocks)) rfl ?_
    refine OpsW.det (det_assign rfl) rfl ?_
    refine sNext ?_
    refine W.keep (F' := [(2, _)]) ⟨rfl, trivial⟩ ?_
    refine sRet ?_
    exact done1 Tryd.results74 (rv_tmp rfl) (congrArg Value.bool (odd2_yes hc5).symm)
  · skip
    refine sSkip ?_
    refine sSeq ?_
    refine W.region ?_
    refine OpsW.det (det_fieldAddr fl57_0 rfl) rfl ?_
    refine OpsW.det (det_loadA ty28 rfl (List.Mem.head _) rfl) rfl ?_
    refine OpsW.det (det_call en48 rfl (fun w hb ho => Cu.Odd_ok ho.blocks)) rfl ?_
    refine OpsW.det (det_assign rfl) rfl ?_
    refine sNext ?_
    refine W.keep (F' := [(2, _)]) ⟨rfl, trivial⟩ ?_
    refine sRet ?_
    exact done1 Tryd.results74 (rv_tmp rfl) (congrArg Value.bool (odd2_no hc5).symm)
theorem Read_ok {G' : Hp} {v : Value} {l : List Nat} (hB : Bs G' v l) {w : World} (hG : Blocks (G' ++ GH T) w)  : Vm.Pure Tryd.prog 75 #[v] w (.tuple #[encF (read2 l).1, .int .i64 (read2 l).2]) := by
  obtain ⟨ad, cap, hvv⟩ := hB.shape
  refine pure_of_W (n := 34) (args := [v]) Tryd.func75 rfl Tryd.ntmps75 (Nat.le_of_ble_eq_true rfl) hG ?_
  refine sStart ?_
  refine sSeq ?_
  subst hvv
  refine W.region ?_
  refine OpsW.fresh (fr_alloc z57r) rfl fun b2 => ?_
  refine OpsW.det (det_assign rfl) rfl ?_
  refine sNext ?_
  refine W.keep (F' := [(2, _), (0, _)]) ⟨rfl, rfl, trivial⟩ ?_
  refine sSeq ?_
  refine sSeq ?_
  refine W.region ?_
  refine OpsW.det (det_move rfl) rfl ?_
  refine OpsW.det (det_len u22 rfl) rfl ?_
  refine OpsW.det (det_neq rfl rfl) rfl ?_
  refine sNext ?_
  refine W.keep (F' := [(10, _), (2, _), (0, _)]) ⟨rfl, rfl, rfl, trivial⟩ ?_
  refine W.cond rfl (fun hc10 => ?_) (fun hc10 => ?_)
  · skip
    have hne : l.length ≠ 96 := by have h := hc10; simp at h; omega
    refine sSeq ?_
    refine W.region ?_
    refine OpsW.det (det_zero bz57) rfl ?_
    refine OpsW.storeW57 rfl rfl (Upd.here) ?_
    refine OpsW.det (det_assign rfl) rfl ?_
    refine sNext ?_
    refine W.keep (F' := [(3, _), (2, _)]) ⟨rfl, rfl, trivial⟩ ?_
    refine sRet ?_
    exact done2 Tryd.results75 (rv_cellA ty57 rfl (List.Mem.head _) rfl) (rv_tmp rfl) (read2_post (read2_len hne))
  · skip
    have h96 : l.length = 96 := by have h := hc10; simp at h; omega
    obtain ⟨bk, o, cap', cs, e, fr, hv, hm, hcap, hcs⟩ := hB.all (by omega)
    simp only [Value.slice.injEq] at hv
    obtain ⟨rfl, _, rfl⟩ := hv
    have h1 := Bs_take (ad := none) hB (k := 48) (by omega)
    have h2 := Bs_drop hB (k := 48) (by omega)
    refine sSkip ?_
    refine sSeq ?_
    refine W.region ?_
    refine OpsW.det (det_move rfl) rfl ?_
    refine OpsW.det ((det_slice (lo := none) (hi := some (.const (.int .i64 48))) (l := 0) (h := 48) u22 sz5 rfl rfl ⟨_, rfl⟩ (by omega) (by omega) (by omega)).to (v := .slice (some ⟨bk, o, none⟩) 48 cap) (by simp)) rfl ?_
    refine OpsW.det (det_call en49 rfl (fun w hb ho => Cu.Read_ok (G' := G') (l := l.take 48) h1 ho.blocks)) rfl ?_
    refine OpsW.det (det_move rfl) rfl ?_
    refine OpsW.det (det_extract rfl rfl) rfl ?_
    refine OpsW.det (det_extract rfl rfl) rfl ?_
    refine OpsW.fresh (fr_alloc z28) rfl fun b4 => ?_
    refine OpsW.store sz28 rfl rfl rfl rfl rfl (Upd.here) rfl ?_
    refine OpsW.det (det_assign rfl) rfl ?_
    refine sNext ?_
    refine W.keep (F' := [(5, _), (4, _), (2, _), (0, _)]) ⟨rfl, rfl, rfl, rfl, trivial⟩ ?_
    refine sSeq ?_
    refine W.region ?_
    refine OpsW.det (det_move rfl) rfl ?_
    refine OpsW.det ((det_slice (lo := some (.const (.int .i64 48))) (hi := none) (l := 48) (h := l.length) u22 sz5 rfl ⟨_, rfl⟩ rfl (by omega) (by omega) (by omega)).to (v := .slice (some ⟨bk, o + 48, none⟩) (l.length - 48) (cap - 48)) (by rw [if_neg (by omega), Nat.mul_one])) rfl ?_
    refine OpsW.det (det_call en49 rfl (fun w hb ho => Cu.Read_ok (G' := G') (l := l.drop 48) h2 ho.blocks)) rfl ?_
    refine OpsW.det (det_move rfl) rfl ?_
    refine OpsW.det (det_extract rfl rfl) rfl ?_
    refine OpsW.det (det_extract rfl rfl) rfl ?_
    refine OpsW.fresh (fr_alloc z28) rfl fun b6 => ?_
    refine OpsW.store sz28 rfl rfl rfl rfl rfl (Upd.here) rfl ?_
    refine OpsW.det (det_assign rfl) rfl ?_
    refine sNext ?_
    refine W.keep (F' := [(7, _), (6, _), (5, _), (4, _), (2, _)]) ⟨rfl, rfl, rfl, rfl, rfl, trivial⟩ ?_
    refine sSeq ?_
    refine sSeq ?_
    refine W.region ?_
    refine OpsW.det (det_move rfl) rfl ?_
    refine OpsW.test ((det_neq (b := 0) rfl rfl)) rfl (fun hc25 => ?_) (fun hc25 => ?_)
    · skip
      refine OpsW.det (det_move rfl) rfl ?_
      refine OpsW.guard_no rfl rfl rfl ?_
      refine OpsW.guard_no rfl rfl rfl ?_
      refine OpsW.det (det_pick rfl rfl) rfl ?_
      refine sNext ?_
      refine W.keep (F' := [(29, _), (6, _), (4, _), (2, _)]) ⟨rfl, rfl, rfl, rfl, trivial⟩ ?_
      refine W.cond_true rfl ?_
      refine sSeq ?_
      refine W.region ?_
      refine OpsW.det (det_zero bz57) rfl ?_
      refine OpsW.storeW57 rfl rfl (Upd.there (Upd.there (Upd.here))) ?_
      refine OpsW.det (det_assign rfl) rfl ?_
      refine sNext ?_
      refine W.keep (F' := [(3, _), (2, _)]) ⟨rfl, rfl, trivial⟩ ?_
      refine sRet ?_
      exact done2 Tryd.results75 (rv_cellA ty57 rfl (List.Mem.tail _ (List.Mem.tail _ (List.Mem.head _))) rfl) (rv_tmp rfl) (read2_post (read2_no h96 (.inl (by have h := hc25; simpa using h))))
    · skip
      refine OpsW.det (det_move rfl) rfl ?_
      refine OpsW.guard_yes rfl rfl ?_
      refine OpsW.det (det_move rfl) rfl ?_
      refine OpsW.guard_yes rfl rfl ?_
      refine OpsW.det ((det_neq (b := 0) rfl rfl)) rfl ?_
      refine OpsW.det (det_pick rfl rfl) rfl ?_
      refine sNext ?_
      refine W.keep (F' := [(29, _), (6, _), (4, _), (2, _)]) ⟨rfl, rfl, rfl, rfl, trivial⟩ ?_
      refine W.cond rfl (fun hc29 => ?_) (fun hc29 => ?_)
      · skip
        refine sSeq ?_
        refine W.region ?_
        refine OpsW.det (det_zero bz57) rfl ?_
        refine OpsW.storeW57 rfl rfl (Upd.there (Upd.there (Upd.here))) ?_
        refine OpsW.det (det_assign rfl) rfl ?_
        refine sNext ?_
        refine W.keep (F' := [(3, _), (2, _)]) ⟨rfl, rfl, trivial⟩ ?_
        refine sRet ?_
        exact done2 Tryd.results75 (rv_cellA ty57 rfl (List.Mem.tail _ (List.Mem.tail _ (List.Mem.head _))) rfl) (rv_tmp rfl) (read2_post (read2_no h96 (.inr (by have h := hc29; simpa using h))))
      · skip
        refine sSkip ?_
        refine sSeq ?_
        refine W.region ?_
        refine OpsW.det (det_loadA ty28 rfl (List.Mem.head _) rfl) rfl ?_
        refine OpsW.det (det_loadA ty28 rfl (List.Mem.tail _ (List.Mem.head _)) rfl) rfl ?_
        refine OpsW.det (det_build rfl bld57) rfl ?_
        refine OpsW.storeW57 rfl rfl (Upd.there (Upd.there (Upd.here))) ?_
        refine OpsW.det (det_assign rfl) rfl ?_
        refine sNext ?_
        refine W.keep (F' := [(3, _), (2, _)]) ⟨rfl, rfl, trivial⟩ ?_
        refine sRet ?_
        exact done2 Tryd.results75 (rv_cellA ty57 rfl (List.Mem.tail _ (List.Mem.tail _ (List.Mem.head _))) rfl) (rv_tmp rfl) (read2_post (read2_yes h96 (by have h := hc25; simpa using h) (by have h := hc29; simpa using h)))
set_option maxHeartbeats 2000000 in
theorem Sqrt_ok {x : Fq2} {w : World} (hG : Blocks (GH T) w)  : Vm.Pure Tryd.prog 85 #[encF x] w (.tuple #[encF (sqrt2 x).1, .bool (sqrt2 x).2]) := by
  refine pure_of_W (n := 76) (args := [encF x]) Tryd.func85 rfl Tryd.ntmps85 (Nat.le_of_ble_eq_true rfl) hG ?_
  refine sStart ?_
  refine sSeq ?_
  refine W.region ?_
  refine OpsW.fresh (fr_boxW57 rfl) rfl fun b1 => ?_
  refine OpsW.fresh (fr_alloc z57r) rfl fun b2 => ?_
  refine OpsW.det (det_assign rfl) rfl ?_
  refine sNext ?_
  refine W.keep (F' := [(2, _), (1, _)]) ⟨rfl, rfl, trivial⟩ ?_
  refine sSeq ?_
  refine sSeq ?_
  refine W.region ?_
  refine OpsW.det (det_fieldAddr fl57_1 rfl) rfl ?_
  refine OpsW.det (det_loadA ty28 rfl (List.Mem.tail _ (List.Mem.head _)) rfl) rfl ?_
  refine OpsW.det (det_call en61 rfl (fun w hb ho => Cu.Zero_ok ho.blocks)) rfl ?_
  refine sNext ?_
  refine W.keep (F' := [(15, _), (2, _), (1, _)]) ⟨rfl, rfl, rfl, trivial⟩ ?_
  refine W.cond rfl (fun hc15 => ?_) (fun hc15 => ?_)
  · skip
    refine sSeq ?_
    refine sSeq ?_
    refine W.region ?_
    refine OpsW.det (det_fieldAddr fl57_0 rfl) rfl ?_
    refine OpsW.det (det_loadA ty28 rfl (List.Mem.tail _ (List.Mem.head _)) rfl) rfl ?_
    refine OpsW.det (det_call en60 rfl (fun w hb ho => Cu.Sqrt_ok ho.blocks)) rfl ?_
    refine OpsW.det (det_move rfl) rfl ?_
    refine OpsW.det (det_extract rfl rfl) rfl ?_
    refine OpsW.det (det_extract rfl rfl) rfl ?_
    refine OpsW.fresh (fr_alloc z28) rfl fun b4 => ?_
    refine OpsW.store sz28 rfl rfl rfl rfl rfl (Upd.here) rfl ?_
    refine OpsW.det (det_assign rfl) rfl ?_
    refine sNext ?_
    refine W.keep (F' := [(5, _), (4, _), (2, _), (1, _)]) ⟨rfl, rfl, rfl, rfl, trivial⟩ ?_
    refine sSeq ?_
    refine W.region ?_
    refine OpsW.det (det_move rfl) rfl ?_
    refine sNext ?_
    refine W.keep (F' := [(22, _), (4, _), (2, _), (1, _)]) ⟨rfl, rfl, rfl, rfl, trivial⟩ ?_
    refine W.cond rfl (fun hc22 => ?_) (fun hc22 => ?_)
    · skip
      refine sSeq ?_
      refine W.region ?_
      refine OpsW.det (det_loadA ty28 rfl (List.Mem.head _) rfl) rfl ?_
      refine OpsW.det (det_build rfl bld57_0) rfl ?_
      refine OpsW.storeW57 rfl rfl (Upd.there (Upd.here)) ?_
      refine OpsW.det (det_assign rfl) rfl ?_
      refine sNext ?_
      refine W.keep (F' := [(3, _), (2, _)]) ⟨rfl, rfl, trivial⟩ ?_
      refine sRet ?_
      exact done2 Tryd.results85 (rv_cellA ty57 rfl (List.Mem.tail _ (List.Mem.head _)) rfl) (rv_tmp rfl) (sqrt2_post (sqrt2_a hc15 hc22))
    · skip
      refine sSkip ?_
      refine sSeq ?_
      refine W.region ?_
      refine OpsW.det (det_fieldAddr fl57_0 rfl) rfl ?_
      refine OpsW.det (det_loadA ty28 rfl (List.Mem.tail _ (List.Mem.tail _ (List.Mem.head _))) rfl) rfl ?_
      refine OpsW.det (det_call en55 rfl (fun w hb ho => Cu.Neg_ok ho.blocks)) rfl ?_
      refine OpsW.det (det_call en60 rfl (fun w hb ho => Cu.Sqrt_ok ho.blocks)) rfl ?_
      refine OpsW.det (det_move rfl) rfl ?_
      refine OpsW.det (det_extract rfl rfl) rfl ?_
      refine OpsW.det (det_extract rfl rfl) rfl ?_
      refine OpsW.fresh (fr_alloc z28) rfl fun b6 => ?_
      refine OpsW.store sz28 rfl rfl rfl rfl rfl (Upd.here) rfl ?_
      refine OpsW.det (det_assign rfl) rfl ?_
      refine sNext ?_
      refine W.keep (F' := [(6, _), (2, _)]) ⟨rfl, rfl, trivial⟩ ?_
      refine sSeq ?_
      refine W.region ?_
      refine OpsW.det (det_loadA ty28 rfl (List.Mem.head _) rfl) rfl ?_
      refine OpsW.det (det_build rfl bld57_1) rfl ?_
      refine OpsW.storeW57 rfl rfl (Upd.there (Upd.there (Upd.here))) ?_
      refine OpsW.det (det_assign rfl) rfl ?_
      refine sNext ?_
      refine W.keep (F' := [(3, _), (2, _)]) ⟨rfl, rfl, trivial⟩ ?_
      refine sRet ?_
      exact done2 Tryd.results85 (rv_cellA ty57 rfl (List.Mem.tail _ (List.Mem.tail _ (List.Mem.head _))) rfl) (rv_tmp rfl) (sqrt2_post (sqrt2_b hc15 hc22))
  · skip
    refine sSkip ?_
    refine sSeq ?_
    refine W.region ?_
    refine OpsW.det (det_loadW57 rfl (List.Mem.tail _ (List.Mem.head _))) rfl ?_
    refine OpsW.det (det_call en102 rfl (fun w hb ho => Norm_ok ho.blocks)) rfl ?_
    refine OpsW.det (det_call en60 rfl (fun w hb ho => Cu.Sqrt_ok ho.blocks)) rfl ?_
    refine OpsW.det (det_move rfl) rfl ?_
    refine OpsW.det (det_extract rfl rfl) rfl ?_
    refine OpsW.det (det_extract rfl rfl) rfl ?_
    refine OpsW.fresh (fr_alloc z28) rfl fun b8 => ?_
    refine OpsW.store sz28 rfl rfl rfl rfl rfl (Upd.here) rfl ?_
    refine OpsW.det (det_assign rfl) rfl ?_
    refine sNext ?_
    refine W.keep (F' := [(9, _), (8, _), (2, _), (1, _)]) ⟨rfl, rfl, rfl, rfl, trivial⟩ ?_
    refine sSeq ?_
    refine sSeq ?_
    refine W.region ?_
    refine OpsW.det (det_move rfl) rfl ?_
    refine OpsW.det (det_not rfl) rfl ?_
    refine sNext ?_
    refine W.keep (F' := [(41, _), (8, _), (2, _), (1, _)]) ⟨rfl, rfl, rfl, rfl, trivial⟩ ?_
    refine W.cond rfl (fun hc41 => ?_) (fun hc41 => ?_)
    · skip
      refine sSeq ?_
      refine W.region ?_
      refine OpsW.det (det_zero bz57) rfl ?_
      refine OpsW.storeW57 rfl rfl (Upd.there (Upd.here)) ?_
      refine OpsW.det (det_assign rfl) rfl ?_
      refine sNext ?_
      refine W.keep (F' := [(3, _), (2, _)]) ⟨rfl, rfl, trivial⟩ ?_
      refine sRet ?_
      exact done2 Tryd.results85 (rv_cellA ty57 rfl (List.Mem.tail _ (List.Mem.head _)) rfl) (rv_tmp rfl) (sqrt2_post (sqrt2_c hc15 hc41))
    · skip
      have hS0 := sqrt2_d hc15 hc41
      obtain ⟨n0, hn0⟩ : ∃ n : Fq, n = (sqrtF (norm2 x)).1 := ⟨_, rfl⟩
      rw [← hn0] at hS0 ⊢
      refine sSkip ?_
      refine sSeq ?_
      refine W.region ?_
      refine OpsW.det (det_call en59 rfl (fun w hb ho => Cu.Of_ok (n := 2) (by decide) ho.blocks)) rfl ?_
      refine OpsW.det (det_call en96 rfl (fun w hb ho => Cu.Inv_ok ho.blocks)) rfl ?_
      obtain ⟨h0, hh0⟩ : ∃ h : Fq, h = inv (Zp.of 2) := ⟨_, rfl⟩
      rw [← hh0] at hS0 ⊢
      refine OpsW.fresh (fr_alloc z28) rfl fun b10 => ?_
      refine OpsW.store sz28 rfl rfl rfl rfl rfl (Upd.here) rfl ?_
      refine sNext ?_
      refine W.keep (F' := [(10, _), (8, _), (2, _), (1, _)]) ⟨rfl, rfl, rfl, rfl, trivial⟩ ?_
      refine sSeq ?_
      refine sSeq ?_
      refine W.region ?_
      refine OpsW.det (det_move rfl) rfl ?_
      refine sNext ?_
      refine sBlock ?_
      refine sLoop (σ := Nat × Fq) (fun s => [(45, .int .i64 (s.1 : Nat)), (10, .pointer (some ⟨b10, 0, none⟩)), (8, .pointer (some ⟨b8, 0, none⟩)), (2, .pointer (some ⟨b2, 0, none⟩)), (1, .pointer (some ⟨b1, 0, none⟩))]) (fun s => [(b10, blk (Cu.cellsF h0) 28), (b8, blk (Cu.cellsF s.2) 28), (b2, blk (cellsF 0) 57), (b1, blk (cellsF x) 57)]) (fun s => s.1 ≤ 2 ∧ sqrt2 x = s2from x h0 (2 - s.1) s.2) (fun s => 2 - s.1) (0, n0) ⟨Nat.zero_le _, hS0⟩ ⟨rfl, rfl, rfl, rfl, rfl, trivial⟩ (List.Sublist.refl _) ?_
      rintro ⟨i, n⟩ ⟨hi, hS⟩
      change i ≤ 2 at hi
      change sqrt2 x = s2from x h0 (2 - i) n at hS
      refine W.norm (F' := [(45, .int .i64 (i : Nat)), (10, .pointer (some ⟨b10, 0, none⟩)), (8, .pointer (some ⟨b8, 0, none⟩)), (2, .pointer (some ⟨b2, 0, none⟩)), (1, .pointer (some ⟨b1, 0, none⟩))]) (H' := [(b10, blk (Cu.cellsF h0) 28), (b8, blk (Cu.cellsF n) 28), (b2, blk (cellsF 0) 57), (b1, blk (cellsF x) 57)]) rfl rfl ?_
      refine sSeq ?_
      refine W.region ?_
      refine OpsW.det ((det_lss (a := ((i : Nat) : Int)) (b := 2) rfl rfl)) rfl ?_
      refine sNext ?_
      refine sSeq ?_
      refine W.cond rfl (fun hc46 => ?_) (fun hc46 => ?_)
      · skip
        have hi2 : i < 2 := by have h := hc46; simp only [decide_eq_true_eq] at h; omega
        refine sSkip ?_
        refine sSeq ?_
        refine sBlock ?_
        refine sSeq ?_
        refine sSeq ?_
        refine W.draw mixed 11 [[], [0], [], [0, 1, 2], [], [0, 1, 2, 3, 4], [0, 1, 2, 3, 4, 5], [0, 1, 2, 3, 4, 5, 6], [0, 1, 2, 3, 4, 5, 6, 7], [0, 1, 2, 3, 4, 5, 6, 7], [], [0, 1, 2, 3, 4, 5, 6, 7, 8, 10], [0, 1, 2, 3, 4, 5, 6, 7, 8, 9, 10, 11]] (cl_lt (by decide)) ?_
        refine HeadR.start (cl_lt (by decide)) ?_
        refine HeadR.det rfl (fun β hβ => (det_fieldAddr fl57_0 rfl)) ?_
        refine HeadR.det rfl (fun β hβ => (det_loadA ty28 rfl (List.Mem.tail _ (List.Mem.tail _ (List.Mem.tail _ (List.Mem.head _)))) rfl)) ?_
        refine HeadR.det rfl (fun β hβ => (det_loadA ty28 rfl (List.Mem.tail _ (List.Mem.head _)) rfl)) ?_
        refine HeadR.det rfl (fun β hβ => (det_call en33 rfl (fun w hb ho => Cu.Add_ok ho.blocks))) ?_
        refine HeadR.det rfl (fun β hβ => (det_loadA ty28 rfl (List.Mem.head _) rfl)) ?_
        refine HeadR.det rfl (fun β hβ => (det_call en57 rfl (fun w hb ho => Cu.Mul_ok ho.blocks))) ?_
        refine HeadR.det rfl (fun β hβ => (det_call en60 rfl (fun w hb ho => Cu.Sqrt_ok ho.blocks))) ?_
        refine HeadR.det rfl (fun β hβ => (det_move rfl)) ?_
        refine HeadR.det rfl (fun β hβ => (det_extract rfl rfl)) ?_
        refine HeadR.flt rfl (fun _ _ _ _ hs => flt_extract hs rfl rfl) ?_
        refine HeadR.fresh rfl (fun β hβ => (fr_alloc z28).new) ?_
        refine HeadR.done ⟨by kernel_rfl, fun β hβ => ?_⟩
        refine OpsW.norm (F' := [(48, _), (49, _), (50, _), (51, _), (52, _), (53, _), (54, _), (47, _), (55, _), (56, _), (11, .pointer (some ⟨(β 11).1, 0, none⟩)), (46, _), (45, _), (10, _), (8, _), (2, _), (1, _)]) (H' := [(_, _), (_, _), (_, _), (_, _), (_, _)]) rfl rfl ?_
        generalize (β 11).1 = b11
        refine OpsW.store sz28 rfl rfl rfl rfl rfl (Upd.here) rfl ?_
        refine OpsW.det (det_assign rfl) rfl ?_
        refine sNext ?_
        refine W.keep (F' := [(12, _), (11, _), (45, _), (10, _), (8, _), (2, _), (1, _)]) ⟨rfl, rfl, rfl, rfl, rfl, rfl, rfl, trivial⟩ ?_
        refine sSeq ?_
        rcases hb : (sqrtF ((x.a + n) * h0)).2 with _ | _
        · skip
          refine W.region ?_
          refine OpsW.det (det_move rfl) rfl ?_
          refine OpsW.det (det_move rfl) rfl ?_
          refine OpsW.guard_no rfl rfl rfl ?_
          refine OpsW.guard_no rfl rfl rfl ?_
          refine OpsW.guard_no rfl rfl rfl ?_
          refine OpsW.det (det_pick rfl rfl) rfl ?_
          refine sNext ?_
          refine W.keep (F' := [(62, _), (11, _), (45, _), (10, _), (8, _), (2, _), (1, _)]) ⟨rfl, rfl, rfl, rfl, rfl, rfl, rfl, trivial⟩ ?_
          refine W.cond_false rfl ?_
          refine sSkip ?_
          refine W.region ?_
          refine OpsW.det (det_loadA ty28 rfl (List.Mem.tail _ (List.Mem.tail _ (List.Mem.head _))) rfl) rfl ?_
          refine OpsW.det (det_call en55 rfl (fun w hb ho => Cu.Neg_ok ho.blocks)) rfl ?_
          refine OpsW.store sz28 rfl rfl rfl rfl rfl (Upd.there (Upd.there (Upd.here))) rfl ?_
          refine sLast ?_
          refine bNext ?_
          refine W.keep (F' := [(45, _), (10, _), (8, _), (2, _), (1, _)]) ⟨rfl, rfl, rfl, rfl, rfl, trivial⟩ ?_
          refine W.region ?_
          refine OpsW.det (det_addN (b := 1) rfl rfl (by omega)) rfl ?_
          refine OpsW.det (det_move rfl) rfl ?_
          refine sLast ?_
          exact rEnd (i + 1, 0 - n) ⟨hi2, s2_no hi2 hS hb⟩ ⟨rfl, rfl, rfl, rfl, rfl, trivial⟩ (List.Sublist.cons _ (List.Sublist.refl _)) (by omega)
        · skip
          refine W.region ?_
          refine OpsW.det (det_move rfl) rfl ?_
          refine OpsW.det (det_move rfl) rfl ?_
          refine OpsW.guard_yes rfl rfl ?_
          refine OpsW.det (det_loadA ty28 rfl (List.Mem.head _) rfl) rfl ?_
          refine OpsW.guard_yes rfl rfl ?_
          refine OpsW.det (det_call en61 rfl (fun w hb ho => Cu.Zero_ok ho.blocks)) rfl ?_
          refine OpsW.guard_yes rfl rfl ?_
          refine OpsW.det (det_not rfl) rfl ?_
          refine OpsW.det (det_pick rfl rfl) rfl ?_
          refine sNext ?_
          refine W.keep (F' := [(62, _), (11, _), (45, _), (10, _), (8, _), (2, _), (1, _)]) ⟨rfl, rfl, rfl, rfl, rfl, rfl, rfl, trivial⟩ ?_
          refine W.cond rfl (fun hc62 => ?_) (fun hc62 => ?_)
          · skip
            refine sSeq ?_
            refine W.draw mixed 9 [[], [], [1], [], [1, 2, 3], [], [1, 2, 3, 4, 5], [1, 2, 3, 4, 5, 6], [0, 1, 2, 3, 4, 5, 6, 7], [0, 1, 2, 3, 4, 5, 6, 7, 8], [0, 1, 2, 3, 4, 5, 6, 7, 8, 9]] (cl_lt (by decide)) ?_
            refine HeadR.start (cl_lt (by decide)) ?_
            refine HeadR.det rfl (fun β hβ => (det_loadA ty28 rfl (List.Mem.head _) rfl)) ?_
            refine HeadR.det rfl (fun β hβ => (det_fieldAddr fl57_1 rfl)) ?_
            refine HeadR.det rfl (fun β hβ => (det_loadA ty28 rfl (List.Mem.tail _ (List.Mem.tail _ (List.Mem.tail _ (List.Mem.tail _ (List.Mem.head _))))) rfl)) ?_
            refine HeadR.det rfl (fun β hβ => (det_loadA ty28 rfl (List.Mem.tail _ (List.Mem.head _)) rfl)) ?_
            refine HeadR.det rfl (fun β hβ => (det_call en57 rfl (fun w hb ho => Cu.Mul_ok ho.blocks))) ?_
            refine HeadR.det rfl (fun β hβ => (det_loadA ty28 rfl (List.Mem.head _) rfl)) ?_
            refine HeadR.det rfl (fun β hβ => (det_call en96 rfl (fun w hb ho => Cu.Inv_ok ho.blocks))) ?_
            refine HeadR.det rfl (fun β hβ => (det_call en57 rfl (fun w hb ho => Cu.Mul_ok ho.blocks))) ?_
            refine HeadR.det rfl (fun β hβ => (det_build rfl bld57)) ?_
            refine HeadR.done ⟨by kernel_rfl, fun β hβ => ?_⟩
            refine OpsW.norm (F' := [(63, _), (64, _), (65, _), (66, _), (67, _), (68, _), (69, _), (70, _), (71, _), (62, _), (11, _), (45, _), (10, _), (8, _), (2, _), (1, _)]) (H' := [(_, _), (_, _), (_, _), (_, _), (_, _)]) rfl rfl ?_
            refine OpsW.storeW57 rfl rfl (Upd.there (Upd.there (Upd.there (Upd.here)))) ?_
            refine OpsW.det (det_assign rfl) rfl ?_
            refine sNext ?_
            refine W.keep (F' := [(3, _), (2, _)]) ⟨rfl, rfl, trivial⟩ ?_
            refine sRet ?_
            refine retBlk ?_
            refine retLoop ?_
            refine retBlk ?_
            exact done2 Tryd.results85 (rv_cellA ty57 rfl (List.Mem.tail _ (List.Mem.tail _ (List.Mem.tail _ (List.Mem.head _)))) rfl) (rv_tmp rfl) (sqrt2_post (s2_hit hi2 hS hb hc62))
          · skip
            refine sSkip ?_
            refine W.region ?_
            refine OpsW.det (det_loadA ty28 rfl (List.Mem.tail _ (List.Mem.tail _ (List.Mem.head _))) rfl) rfl ?_
            refine OpsW.det (det_call en55 rfl (fun w hb ho => Cu.Neg_ok ho.blocks)) rfl ?_
            refine OpsW.store sz28 rfl rfl rfl rfl rfl (Upd.there (Upd.there (Upd.here))) rfl ?_
            refine sLast ?_
            refine bNext ?_
            refine W.keep (F' := [(45, _), (10, _), (8, _), (2, _), (1, _)]) ⟨rfl, rfl, rfl, rfl, rfl, trivial⟩ ?_
            refine W.region ?_
            refine OpsW.det (det_addN (b := 1) rfl rfl (by omega)) rfl ?_
            refine OpsW.det (det_move rfl) rfl ?_
            refine sLast ?_
            exact rEnd (i + 1, 0 - n) ⟨hi2, s2_zero hi2 hS hc62⟩ ⟨rfl, rfl, rfl, rfl, rfl, trivial⟩ (List.Sublist.cons _ (List.Sublist.refl _)) (by omega)
      · skip
        have hge : ¬ i < 2 := by have h := hc46; simp only [decide_eq_false_iff_not] at h; omega
        refine sExit ?_
        refine xLoop ?_
        refine xHere ?_
        refine W.keep (F' := [(2, _)]) ⟨rfl, trivial⟩ ?_
        refine sSeq ?_
        refine W.region ?_
        refine OpsW.det (det_zero bz57) rfl ?_
        refine OpsW.storeW57 rfl rfl (Upd.there (Upd.there (Upd.here))) ?_
        refine OpsW.det (det_assign rfl) rfl ?_
        refine sNext ?_
        refine W.keep (F' := [(3, _), (2, _)]) ⟨rfl, rfl, trivial⟩ ?_
        refine sRet ?_
        exact done2 Tryd.results85 (rv_cellA ty57 rfl (List.Mem.tail _ (List.Mem.tail _ (List.Mem.head _))) rfl) (rv_tmp rfl) (sqrt2_post (s2_end hi hge hS))

end Go.Cw

/- The second group's points: what Neg, On, Add compute: the walks. Conditions: none. -/
namespace Go.Cw
open Go Go.Vm Go.RowKit Go.Proofs Go.Cu
attribute [local irreducible] W OpsW Det Fresh New Writes Vm.Pure Makes Changes ExternTo BuildTo ZeroTo FieldTo IndexTo BinTo SliceTo Vm.Enters
set_option linter.unusedVariables false
set_option linter.unusedSimpArgs false
variable {T : Nat → TypeId × Nat × Nat}
def inv (x : Fq2) : Fq2 := inv2 x
def four : Fq2 := small 4 4

def pneg (p : Pt) : Pt := if p = (0, 0) then p else (p.1, 0 - p.2)
def onB (p : Pt) : Bool := decide (p = (0, 0)) || decide (p.2 * p.2 = p.1 * p.1 * p.1 + four)
def tojac (p : Pt) : Jac := if p = (0, 0) then (0, 0, 0) else (p.1, p.2, small 1 0)
def jdbl (p : Jac) : Jac :=
  if p.2.2 = 0 then (0, 0, 0) else if p.2.1 = 0 then (0, 0, 0) else
    let a := p.1 * p.1
    let b := p.2.1 * p.2.1
    let c := b * b
    let d0 := (p.1 + b) * (p.1 + b) - a - c
    let d := d0 + d0
    let e := a + a + a
    let f := e * e - d - d
    let c4 := (c + c) + (c + c)
    (f, e * (d - f) - c4 - c4, p.2.1 * p.2.2 + p.2.1 * p.2.2)
def jaddH (p : Jac) (q : Pt) : Fq2 := q.1 * (p.2.2 * p.2.2) - p.1
def jaddR (p : Jac) (q : Pt) : Fq2 := q.2 * p.2.2 * (p.2.2 * p.2.2) - p.2.1
def jaddN (p : Jac) (q : Pt) : Jac :=
  let zz := p.2.2 * p.2.2
  let h := jaddH p q
  let r := jaddR p q + jaddR p q
  let hh := h * h
  let i := (hh + hh) + (hh + hh)
  let j := h * i
  let v := p.1 * i
  let x := r * r - j - v - v
  let yj := p.2.1 * j
  (x, r * (v - x) - yj - yj, (p.2.2 + h) * (p.2.2 + h) - zz - hh)
def jadd (p : Jac) (q : Pt) : Jac :=
  if q = (0, 0) then p else if p.2.2 = 0 then tojac q else if jaddH p q = 0 then (if jaddR p q = 0 then jdbl p else (0, 0, 0)) else jaddN p q
def point (p : Jac) : Pt := if p.2.2 = 0 then (0, 0) else
  let i := inv p.2.2
  let i2 := i * i
  (p.1 * i2, p.2.1 * i2 * i)
def padd (p q : Pt) : Pt := point (jadd (tojac p) q)
theorem pneg_yes {p : Pt} (h : decide (p = (0, 0)) = true) : pneg p = p := if_pos (dt h)
theorem pneg_no {p : Pt} (h : decide (p = (0, 0)) = false) : pneg p = (p.1, 0 - p.2) := if_neg (df h)
theorem tojac_yes {p : Pt} (h : decide (p = (0, 0)) = true) : tojac p = (0, 0, 0) := if_pos (dt h)
theorem tojac_no {p : Pt} (h : decide (p = (0, 0)) = false) : tojac p = (p.1, p.2, small 1 0) := if_neg (df h)
theorem point_yes {p : Jac} (h : decide (p.2.2 = 0) = true) : point p = (0, 0) := if_pos (dt h)
theorem point_no {p : Jac} (h : decide (p.2.2 = 0) = false) : point p = (p.1 * (inv p.2.2 * inv p.2.2), p.2.1 * (inv p.2.2 * inv p.2.2) * inv p.2.2) := if_neg (df h)
theorem jdbl_z {p : Jac} (h : decide (p.2.2 = 0) = true) : jdbl p = (0, 0, 0) := if_pos (dt h)
theorem jdbl_y {p : Jac} (h : decide (p.2.2 = 0) = false) (h2 : decide (p.2.1 = 0) = true) : jdbl p = (0, 0, 0) := (if_neg (df h)).trans (if_pos (dt h2))
theorem jdbl_no {p : Jac} (h : decide (p.2.2 = 0) = false) (h2 : decide (p.2.1 = 0) = false) : jdbl p = (
    let a := p.1 * p.1
    let b := p.2.1 * p.2.1
    let c := b * b
    let d0 := (p.1 + b) * (p.1 + b) - a - c
    let d := d0 + d0
    let e := a + a + a
    let f := e * e - d - d
    let c4 := (c + c) + (c + c)
    (f, e * (d - f) - c4 - c4, p.2.1 * p.2.2 + p.2.1 * p.2.2)) := (if_neg (df h)).trans (if_neg (df h2))
theorem jadd_q {p : Jac} {q : Pt} (h : decide (q = (0, 0)) = true) : jadd p q = p := if_pos (dt h)
theorem jadd_p {p : Jac} {q : Pt} (h : decide (q = (0, 0)) = false) (h2 : decide (p.2.2 = 0) = true) : jadd p q = tojac q := (if_neg (df h)).trans (if_pos (dt h2))
theorem jadd_d {p : Jac} {q : Pt} (h : decide (q = (0, 0)) = false) (h2 : decide (p.2.2 = 0) = false) (h3 : decide (jaddH p q = 0) = true) (h4 : decide (jaddR p q = 0) = true) : jadd p q = jdbl p :=
  (if_neg (df h)).trans ((if_neg (df h2)).trans ((if_pos (dt h3)).trans (if_pos (dt h4))))
theorem jadd_o {p : Jac} {q : Pt} (h : decide (q = (0, 0)) = false) (h2 : decide (p.2.2 = 0) = false) (h3 : decide (jaddH p q = 0) = true) (h4 : decide (jaddR p q = 0) = false) : jadd p q = (0, 0, 0) :=
  (if_neg (df h)).trans ((if_neg (df h2)).trans ((if_pos (dt h3)).trans (if_neg (df h4))))
theorem jadd_n {p : Jac} {q : Pt} (h : decide (q = (0, 0)) = false) (h2 : decide (p.2.2 = 0) = false) (h3 : decide (jaddH p q = 0) = false) : jadd p q = jaddN p q :=
  (if_neg (df h)).trans ((if_neg (df h2)).trans (if_neg (df h3)))

theorem bld59 {x y : Fq2} : BuildTo Tryd.prog 59 [(0, encF x), (1, encF y)] (encP (x, y)) := BuildTo.of fun _ => by kernel_rfl
theorem bld94 {x y z : Fq2} : BuildTo Tryd.prog 94 [(0, encF x), (1, encF y), (2, encF z)] (encJ (x, y, z)) := BuildTo.of fun _ => by kernel_rfl
theorem bz59 : ZeroTo Tryd.prog 59 (encP (0, 0)) := ZeroTo.of fun _ => by kernel_rfl
theorem bz94 : ZeroTo Tryd.prog 94 (encJ (0, 0, 0)) := ZeroTo.of fun _ => by kernel_rfl
theorem en100 : Vm.Enters Tryd.prog 100 := Vm.Enters.of fun _ _ => by kernel_rfl
theorem en47 : Vm.Enters Tryd.prog 47 := Vm.Enters.of fun _ _ => by kernel_rfl
theorem en76 : Vm.Enters Tryd.prog 76 := Vm.Enters.of fun _ _ => by kernel_rfl
theorem en77 : Vm.Enters Tryd.prog 77 := Vm.Enters.of fun _ _ => by kernel_rfl
theorem en78 : Vm.Enters Tryd.prog 78 := Vm.Enters.of fun _ _ => by kernel_rfl
theorem en79 : Vm.Enters Tryd.prog 79 := Vm.Enters.of fun _ _ => by kernel_rfl
theorem en80 : Vm.Enters Tryd.prog 80 := Vm.Enters.of fun _ _ => by kernel_rfl
theorem en81 : Vm.Enters Tryd.prog 81 := Vm.Enters.of fun _ _ => by kernel_rfl
theorem en82 : Vm.Enters Tryd.prog 82 := Vm.Enters.of fun _ _ => by kernel_rfl
theorem en86 : Vm.Enters Tryd.prog 86 := Vm.Enters.of fun _ _ => by kernel_rfl
theorem en88 : Vm.Enters Tryd.prog 88 := Vm.Enters.of fun _ _ => by kernel_rfl
theorem en89 : Vm.Enters Tryd.prog 89 := Vm.Enters.of fun _ _ => by kernel_rfl
theorem en99 : Vm.Enters Tryd.prog 99 := Vm.Enters.of fun _ _ => by kernel_rfl
theorem fl59_0 : TyF Tryd.prog 59 0 0 12 := ⟨⟨57, by kernel_rfl, by kernel_rfl⟩, by decide⟩
theorem fl59_1 : TyF Tryd.prog 59 1 12 12 := ⟨⟨57, by kernel_rfl, by kernel_rfl⟩, by decide⟩
theorem fl94_0 : TyF Tryd.prog 94 0 0 12 := ⟨⟨57, by kernel_rfl, by kernel_rfl⟩, by decide⟩
theorem fl94_1 : TyF Tryd.prog 94 1 12 12 := ⟨⟨57, by kernel_rfl, by kernel_rfl⟩, by decide⟩
theorem fl94_2 : TyF Tryd.prog 94 2 24 12 := ⟨⟨57, by kernel_rfl, by kernel_rfl⟩, by decide⟩
theorem sz59 : sizeIn Tryd.prog 59 = some 24 := by kernel_rfl
theorem sz94 : sizeIn Tryd.prog 94 = some 36 := by kernel_rfl
theorem ty59 : TyA Tryd.prog 59 24 := ⟨by kernel_rfl, by kernel_rfl⟩
theorem ty94 : TyA Tryd.prog 94 36 := ⟨by kernel_rfl, by kernel_rfl⟩
theorem PNeg_ok {p : Pt} {w : World} (hG : Blocks (GH T) w)  : Vm.Pure Tryd.prog 41 #[encP p] w (encP (pneg p)) := by
  refine pure_of_W (n := 13) (args := [encP p]) Tryd.func41 rfl Tryd.ntmps41 (Nat.le_of_ble_eq_true rfl) hG ?_
  refine sStart ?_
  refine sSeq ?_
  refine W.region ?_
  refine OpsW.fresh (fr_boxW59 rfl) rfl fun b1 => ?_
  refine OpsW.fresh (fr_alloc z59r) rfl fun b2 => ?_
  refine sNext ?_
  refine W.keep (F' := [(2, _), (1, _)]) ⟨rfl, rfl, trivial⟩ ?_
  refine sSeq ?_
  refine sSeq ?_
  refine W.region ?_
  refine OpsW.det (det_loadW59 rfl (List.Mem.tail _ (List.Mem.head _))) rfl ?_
  refine OpsW.det (det_zero bz59) rfl ?_
  refine OpsW.det (det_eql59 rfl rfl) rfl ?_
  refine sNext ?_
  refine W.keep (F' := [(5, _), (2, _), (1, _)]) ⟨rfl, rfl, rfl, trivial⟩ ?_
  refine W.cond rfl (fun hc5 => ?_) (fun hc5 => ?_)
  · skip
    refine sSeq ?_
    refine W.region ?_
    refine OpsW.det (det_loadW59 rfl (List.Mem.tail _ (List.Mem.head _))) rfl ?_
    refine OpsW.storeW59 rfl rfl (Upd.here) ?_
    refine sNext ?_
    refine W.keep (F' := [(2, _)]) ⟨rfl, trivial⟩ ?_
    refine sRet ?_
    exact done1 Tryd.results41 (rv_cellA ty59 rfl (List.Mem.head _) rfl) (congrArg encP (pneg_yes hc5).symm)
  · skip
    refine sSkip ?_
    refine sSeq ?_
    refine W.draw mixed 6 [[], [0], [], [2], [2, 3], [0, 1, 2, 3, 4], [0, 1, 2, 3, 4, 5]] (cl_lt (by decide)) ?_
    refine HeadR.start (cl_lt (by decide)) ?_
    refine HeadR.det rfl (fun β hβ => (det_fieldAddr fl59_0 rfl)) ?_
    refine HeadR.det rfl (fun β hβ => (det_loadA ty57 rfl (List.Mem.tail _ (List.Mem.head _)) rfl)) ?_
    refine HeadR.det rfl (fun β hβ => (det_fieldAddr fl59_1 rfl)) ?_
    refine HeadR.det rfl (fun β hβ => (det_loadA ty57 rfl (List.Mem.tail _ (List.Mem.head _)) rfl)) ?_
    refine HeadR.det rfl (fun β hβ => (det_call en79 rfl (fun w hb ho => Neg_ok ho.blocks))) ?_
    refine HeadR.det rfl (fun β hβ => (det_build rfl bld59)) ?_
    refine HeadR.done ⟨by kernel_rfl, fun β hβ => ?_⟩
    refine OpsW.norm (F' := [(7, _), (8, _), (9, _), (10, _), (11, _), (12, _), (5, _), (2, _), (1, _)]) (H' := [(_, _), (_, _)]) rfl rfl ?_
    refine OpsW.storeW59 rfl rfl (Upd.here) ?_
    refine sNext ?_
    refine W.keep (F' := [(2, _)]) ⟨rfl, trivial⟩ ?_
    refine sRet ?_
    exact done1 Tryd.results41 (rv_cellA ty59 rfl (List.Mem.head _) rfl) (congrArg encP (pneg_no hc5).symm)
theorem POn_ok {p : Pt} {w : World} (hG : Blocks (GH T) w)  : Vm.Pure Tryd.prog 42 #[encP p] w (.bool (onB p)) := by
  refine pure_of_W (n := 20) (args := [encP p]) Tryd.func42 rfl Tryd.ntmps42 (Nat.le_of_ble_eq_true rfl) hG ?_
  refine sStart ?_
  refine sSeq ?_
  refine W.region ?_
  refine OpsW.fresh (fr_boxW59 rfl) rfl fun b1 => ?_
  refine OpsW.det (det_assign rfl) rfl ?_
  refine sNext ?_
  refine W.keep (F' := [(1, _)]) ⟨rfl, trivial⟩ ?_
  refine sSeq ?_
  cases hp : decide (p = (0, 0))
  · skip
    refine W.draw mixed 18 [[], [], [0, 1], [0, 1, 2], [0, 1, 2, 3], [0, 1, 2, 3, 4], [0, 1, 2, 3, 4, 5], [0, 1, 2, 3], [0, 1, 2, 3, 7], [0, 1, 2, 3, 4, 5, 6, 7, 8], [0, 1, 2, 3], [0, 1, 2, 3, 10], [0, 1, 2, 3, 4, 5, 6, 7, 8, 9, 10, 11], [0, 1, 2, 3, 4, 5, 6, 7, 8, 9, 10, 11, 12], [0, 1, 2, 3, 4, 5, 6, 7, 8, 9, 10, 11, 12, 13], [0, 1, 2, 3, 4, 5, 6, 7, 8, 9, 10, 11, 12, 13, 14], [0, 1, 2, 3, 4, 5, 6, 7, 8, 9, 10, 11, 12, 13, 14, 15], [0, 1, 2, 3, 4, 5, 6, 7, 8, 9, 10, 11, 12, 13, 14, 15, 16]] (cl_lt (by decide)) ?_
    refine HeadR.start (cl_lt (by decide)) ?_
    refine HeadR.det rfl (fun β hβ => (det_loadW59 rfl (List.Mem.head _))) ?_
    refine HeadR.det rfl (fun β hβ => (det_zero bz59)) ?_
    refine HeadR.det rfl (fun β hβ => ((det_eql59 (a := p) rfl rfl).to (congrArg Value.bool hp))) ?_
    refine HeadR.det rfl (fun β hβ => (det_move rfl)) ?_
    refine HeadR.yes rfl rfl (fun _ _ => rfl) (fun β hβ => (det_fieldAddr fl59_1 rfl)) ?_
    refine HeadR.yes rfl rfl (fun _ _ => rfl) (fun β hβ => (det_loadA ty57 rfl (List.Mem.head _) rfl)) ?_
    refine HeadR.yes rfl rfl (fun _ _ => rfl) (fun β hβ => (det_call en80 rfl (fun w hb ho => Square_ok ho.blocks))) ?_
    refine HeadR.yes rfl rfl (fun _ _ => rfl) (fun β hβ => (det_fieldAddr fl59_0 rfl)) ?_
    refine HeadR.yes rfl rfl (fun _ _ => rfl) (fun β hβ => (det_loadA ty57 rfl (List.Mem.head _) rfl)) ?_
    refine HeadR.yes rfl rfl (fun _ _ => rfl) (fun β hβ => (det_call en80 rfl (fun w hb ho => Square_ok ho.blocks))) ?_
    refine HeadR.yes rfl rfl (fun _ _ => rfl) (fun β hβ => (det_fieldAddr fl59_0 rfl)) ?_
    refine HeadR.yes rfl rfl (fun _ _ => rfl) (fun β hβ => (det_loadA ty57 rfl (List.Mem.head _) rfl)) ?_
    refine HeadR.yes rfl rfl (fun _ _ => rfl) (fun β hβ => (det_call en81 rfl (fun w hb ho => Mul_ok ho.blocks))) ?_
    refine HeadR.yes rfl rfl (fun _ _ => rfl) (fun β hβ => (det_call en82 rfl (fun w hb ho => four_ok ho.blocks))) ?_
    refine HeadR.yes rfl rfl (fun _ _ => rfl) (fun β hβ => (det_call en47 rfl (fun w hb ho => Add_ok ho.blocks))) ?_
    refine HeadR.yes rfl rfl (fun _ _ => rfl) (fun β hβ => (det_eql57 rfl rfl)) ?_
    refine HeadR.det rfl (fun β hβ => (det_pick rfl rfl)) ?_
    refine HeadR.det rfl (fun β hβ => (det_assign rfl)) ?_
    refine HeadR.done ⟨by kernel_rfl, fun β hβ => ?_⟩
    refine OpsW.norm (F' := [(3, _), (4, _), (5, _), (6, _), (7, _), (8, _), (9, _), (10, _), (11, _), (12, _), (13, _), (14, _), (15, _), (16, _), (17, _), (18, _), (19, _), (2, _), (1, _)]) (H' := [(_, _)]) rfl rfl ?_
    refine sNext ?_
    refine W.keep (F' := [(2, _)]) ⟨rfl, trivial⟩ ?_
    refine sRet ?_
    exact done1 Tryd.results42 (rv_tmp rfl) (by rw [onB, hp]; rfl)
  · skip
    refine W.draw mixed 18 [[], [], [0, 1], [0, 1, 2], [0, 1, 2, 3], [0, 1, 2, 3, 4], [0, 1, 2, 3, 4, 5], [0, 1, 2, 3], [0, 1, 2, 3, 7], [0, 1, 2, 3, 4, 5, 6, 7, 8], [0, 1, 2, 3], [0, 1, 2, 3, 10], [0, 1, 2, 3, 4, 5, 6, 7, 8, 9, 10, 11], [0, 1, 2, 3, 4, 5, 6, 7, 8, 9, 10, 11, 12], [0, 1, 2, 3, 4, 5, 6, 7, 8, 9, 10, 11, 12, 13], [0, 1, 2, 3, 4, 5, 6, 7, 8, 9, 10, 11, 12, 13, 14], [0, 1, 2, 3, 4, 5, 6, 7, 8, 9, 10, 11, 12, 13, 14, 15], [0, 1, 2, 3, 4, 5, 6, 7, 8, 9, 10, 11, 12, 13, 14, 15, 16]] (cl_lt (by decide)) ?_
    refine HeadR.start (cl_lt (by decide)) ?_
    refine HeadR.det rfl (fun β hβ => (det_loadW59 rfl (List.Mem.head _))) ?_
    refine HeadR.det rfl (fun β hβ => (det_zero bz59)) ?_
    refine HeadR.det rfl (fun β hβ => ((det_eql59 (a := p) rfl rfl).to (congrArg Value.bool hp))) ?_
    refine HeadR.det rfl (fun β hβ => (det_move rfl)) ?_
    refine HeadR.no rfl rfl (fun _ _ => rfl) ?_
    refine HeadR.no rfl rfl (fun _ _ => rfl) ?_
    refine HeadR.no rfl rfl (fun _ _ => rfl) ?_
    refine HeadR.no rfl rfl (fun _ _ => rfl) ?_
    refine HeadR.no rfl rfl (fun _ _ => rfl) ?_
    refine HeadR.no rfl rfl (fun _ _ => rfl) ?_
    refine HeadR.no rfl rfl (fun _ _ => rfl) ?_
    refine HeadR.no rfl rfl (fun _ _ => rfl) ?_
    refine HeadR.no rfl rfl (fun _ _ => rfl) ?_
    refine HeadR.no rfl rfl (fun _ _ => rfl) ?_
    refine HeadR.no rfl rfl (fun _ _ => rfl) ?_
    refine HeadR.no rfl rfl (fun _ _ => rfl) ?_
    refine HeadR.det rfl (fun β hβ => (det_pick rfl rfl)) ?_
    refine HeadR.det rfl (fun β hβ => (det_assign rfl)) ?_
    refine HeadR.done ⟨by kernel_rfl, fun β hβ => ?_⟩
    refine OpsW.norm (F' := [(3, _), (4, _), (5, _), (6, _), (7, _), (8, _), (9, _), (10, _), (11, _), (12, _), (13, _), (14, _), (15, _), (16, _), (17, _), (18, _), (19, _), (2, _), (1, _)]) (H' := [(_, _)]) rfl rfl ?_
    refine sNext ?_
    refine W.keep (F' := [(2, _)]) ⟨rfl, trivial⟩ ?_
    refine sRet ?_
    exact done1 Tryd.results42 (rv_tmp rfl) (by rw [onB, hp]; rfl)
theorem tojac_ok {p : Pt} {w : World} (hG : Blocks (GH T) w)  : Vm.Pure Tryd.prog 76 #[encP p] w (encJ (tojac p)) := by
  refine pure_of_W (n := 13) (args := [encP p]) Tryd.func76 rfl Tryd.ntmps76 (Nat.le_of_ble_eq_true rfl) hG ?_
  refine sStart ?_
  refine sSeq ?_
  refine W.region ?_
  refine OpsW.fresh (fr_boxW59 rfl) rfl fun b1 => ?_
  refine OpsW.fresh (fr_alloc z94r) rfl fun b2 => ?_
  refine sNext ?_
  refine W.keep (F' := [(2, _), (1, _)]) ⟨rfl, rfl, trivial⟩ ?_
  refine sSeq ?_
  refine sSeq ?_
  refine W.region ?_
  refine OpsW.det (det_loadW59 rfl (List.Mem.tail _ (List.Mem.head _))) rfl ?_
  refine OpsW.det (det_zero bz59) rfl ?_
  refine OpsW.det (det_eql59 rfl rfl) rfl ?_
  refine sNext ?_
  refine W.keep (F' := [(5, _), (2, _), (1, _)]) ⟨rfl, rfl, rfl, trivial⟩ ?_
  refine W.cond rfl (fun hc5 => ?_) (fun hc5 => ?_)
  · skip
    refine sSeq ?_
    refine W.region ?_
    refine OpsW.det (det_zero bz94) rfl ?_
    refine OpsW.storeW94 rfl rfl (Upd.here) ?_
    refine sNext ?_
    refine W.keep (F' := [(2, _)]) ⟨rfl, trivial⟩ ?_
    refine sRet ?_
    exact done1 Tryd.results76 (rv_cellA ty94 rfl (List.Mem.head _) rfl) (congrArg encJ (tojac_yes hc5).symm)
  · skip
    refine sSkip ?_
    refine sSeq ?_
    refine W.draw mixed 6 [[], [0], [], [2], [], [0, 1, 2, 3, 4], [0, 1, 2, 3, 4, 5]] (cl_lt (by decide)) ?_
    refine HeadR.start (cl_lt (by decide)) ?_
    refine HeadR.det rfl (fun β hβ => (det_fieldAddr fl59_0 rfl)) ?_
    refine HeadR.det rfl (fun β hβ => (det_loadA ty57 rfl (List.Mem.tail _ (List.Mem.head _)) rfl)) ?_
    refine HeadR.det rfl (fun β hβ => (det_fieldAddr fl59_1 rfl)) ?_
    refine HeadR.det rfl (fun β hβ => (det_loadA ty57 rfl (List.Mem.tail _ (List.Mem.head _)) rfl)) ?_
    refine HeadR.det rfl (fun β hβ => (det_call en99 rfl (fun w hb ho => one_ok ho.blocks))) ?_
    refine HeadR.det rfl (fun β hβ => (det_build rfl bld94)) ?_
    refine HeadR.done ⟨by kernel_rfl, fun β hβ => ?_⟩
    refine OpsW.norm (F' := [(7, _), (8, _), (9, _), (10, _), (11, _), (12, _), (5, _), (2, _), (1, _)]) (H' := [(_, _), (_, _)]) rfl rfl ?_
    refine OpsW.storeW94 rfl rfl (Upd.here) ?_
    refine sNext ?_
    refine W.keep (F' := [(2, _)]) ⟨rfl, trivial⟩ ?_
    refine sRet ?_
    exact done1 Tryd.results76 (rv_cellA ty94 rfl (List.Mem.head _) rfl) (congrArg encJ (tojac_no hc5).symm)
theorem jdbl_ok {p : Jac} {w : World} (hG : Blocks (GH T) w)  : Vm.Pure Tryd.prog 88 #[encJ p] w (encJ (jdbl p)) := by
  refine pure_of_W (n := 75) (args := [encJ p]) Tryd.func88 rfl Tryd.ntmps88 (Nat.le_of_ble_eq_true rfl) hG ?_
  refine sStart ?_
  refine sSeq ?_
  refine W.region ?_
  refine OpsW.fresh (fr_boxW94 rfl) rfl fun b1 => ?_
  refine OpsW.fresh (fr_alloc z94r) rfl fun b2 => ?_
  refine sNext ?_
  refine W.keep (F' := [(2, _), (1, _)]) ⟨rfl, rfl, trivial⟩ ?_
  refine sSeq ?_
  refine sSeq ?_
  refine W.region ?_
  refine OpsW.det (det_fieldAddr fl94_2 rfl) rfl ?_
  refine OpsW.det (det_loadA ty57 rfl (List.Mem.tail _ (List.Mem.head _)) rfl) rfl ?_
  refine OpsW.test (det_call en86 rfl (fun w hb ho => Zero_ok ho.blocks)) rfl (fun hc12 => ?_) (fun hc12 => ?_)
  · skip
    refine OpsW.det (det_move rfl) rfl ?_
    refine OpsW.guard_no rfl rfl rfl ?_
    refine OpsW.guard_no rfl rfl rfl ?_
    refine OpsW.guard_no rfl rfl rfl ?_
    refine OpsW.det (det_pick rfl rfl) rfl ?_
    refine sNext ?_
    refine W.keep (F' := [(17, _), (2, _), (1, _)]) ⟨rfl, rfl, rfl, trivial⟩ ?_
    refine W.cond_true rfl ?_
    refine sSeq ?_
    refine W.region ?_
    refine OpsW.det (det_zero bz94) rfl ?_
    refine OpsW.storeW94 rfl rfl (Upd.here) ?_
    refine sNext ?_
    refine W.keep (F' := [(2, _)]) ⟨rfl, trivial⟩ ?_
    refine sRet ?_
    exact done1 Tryd.results88 (rv_cellA ty94 rfl (List.Mem.head _) rfl) (congrArg encJ (jdbl_z hc12).symm)
  · skip
    refine OpsW.det (det_move rfl) rfl ?_
    refine OpsW.guard_yes rfl rfl ?_
    refine OpsW.det (det_fieldAddr fl94_1 rfl) rfl ?_
    refine OpsW.guard_yes rfl rfl ?_
    refine OpsW.det (det_loadA ty57 rfl (List.Mem.tail _ (List.Mem.head _)) rfl) rfl ?_
    refine OpsW.guard_yes rfl rfl ?_
    refine OpsW.det (det_call en86 rfl (fun w hb ho => Zero_ok ho.blocks)) rfl ?_
    refine OpsW.det (det_pick rfl rfl) rfl ?_
    refine sNext ?_
    refine W.keep (F' := [(17, _), (2, _), (1, _)]) ⟨rfl, rfl, rfl, trivial⟩ ?_
    refine W.cond rfl (fun hc17 => ?_) (fun hc17 => ?_)
    · skip
      refine sSeq ?_
      refine W.region ?_
      refine OpsW.det (det_zero bz94) rfl ?_
      refine OpsW.storeW94 rfl rfl (Upd.here) ?_
      refine sNext ?_
      refine W.keep (F' := [(2, _)]) ⟨rfl, trivial⟩ ?_
      refine sRet ?_
      exact done1 Tryd.results88 (rv_cellA ty94 rfl (List.Mem.head _) rfl) (congrArg encJ (jdbl_y hc12 hc17).symm)
    · skip
      refine sSkip ?_
      refine sSeq ?_
      refine W.draw mixed 8 [[], [0], [0, 1], [], [3], [0, 1, 2, 3, 4], [], [], [0, 1, 2, 3, 4, 5, 6, 7], [0, 1, 2, 3, 4, 5, 6, 7, 8]] (cl_lt (by decide)) ?_
      refine HeadR.start (cl_lt (by decide)) ?_
      refine HeadR.det rfl (fun β hβ => (det_fieldAddr fl94_0 rfl)) ?_
      refine HeadR.det rfl (fun β hβ => (det_loadA ty57 rfl (List.Mem.tail _ (List.Mem.head _)) rfl)) ?_
      refine HeadR.det rfl (fun β hβ => (det_call en80 rfl (fun w hb ho => Square_ok ho.blocks))) ?_
      refine HeadR.det rfl (fun β hβ => (det_fieldAddr fl94_1 rfl)) ?_
      refine HeadR.det rfl (fun β hβ => (det_loadA ty57 rfl (List.Mem.tail _ (List.Mem.head _)) rfl)) ?_
      refine HeadR.det rfl (fun β hβ => (det_call en80 rfl (fun w hb ho => Square_ok ho.blocks))) ?_
      refine HeadR.fresh rfl (fun β hβ => (fr_alloc z57r).new) ?_
      refine HeadR.fresh rfl (fun β hβ => (fr_alloc z57r).new) ?_
      refine HeadR.done ⟨by kernel_rfl, fun β hβ => ?_⟩
      refine OpsW.norm (F' := [(19, _), (20, _), (21, _), (22, _), (23, _), (24, _), (3, .pointer (some ⟨(β 3).1, 0, none⟩)), (4, .pointer (some ⟨(β 4).1, 0, none⟩)), (17, _), (2, _), (1, _)]) (H' := [(_, _), (_, _), (_, _), (_, _)]) rfl rfl ?_
      generalize (β 3).1 = b3
      generalize (β 4).1 = b4
      refine OpsW.storeW57 rfl rfl (Upd.here) ?_
      refine OpsW.storeW57 rfl rfl (Upd.there (Upd.here)) ?_
      refine sNext ?_
      refine W.keep (F' := [(3, _), (4, _), (2, _), (1, _)]) ⟨rfl, rfl, rfl, rfl, trivial⟩ ?_
      refine sSeq ?_
      refine W.region ?_
      refine OpsW.det (det_loadW57 rfl (List.Mem.tail _ (List.Mem.head _))) rfl ?_
      refine OpsW.det (det_call en80 rfl (fun w hb ho => Square_ok ho.blocks)) rfl ?_
      refine OpsW.fresh (fr_alloc z57r) rfl fun b5 => ?_
      refine OpsW.storeW57 rfl rfl (Upd.here) ?_
      refine sNext ?_
      refine W.keep (F' := [(5, _), (3, _), (4, _), (2, _), (1, _)]) ⟨rfl, rfl, rfl, rfl, rfl, trivial⟩ ?_
      refine sSeq ?_
      refine W.draw mixed 10 [[], [0], [], [0, 1, 2], [0, 1, 2, 3], [], [0, 1, 2, 3, 4, 5], [], [0, 1, 2, 3, 4, 5, 6, 7], [], [0, 1, 2, 3, 4, 5, 6, 7, 8, 9]] (cl_lt (by decide)) ?_
      refine HeadR.start (cl_lt (by decide)) ?_
      refine HeadR.det rfl (fun β hβ => (det_fieldAddr fl94_0 rfl)) ?_
      refine HeadR.det rfl (fun β hβ => (det_loadA ty57 rfl (List.Mem.tail _ (List.Mem.tail _ (List.Mem.tail _ (List.Mem.tail _ (List.Mem.head _))))) rfl)) ?_
      refine HeadR.det rfl (fun β hβ => (det_loadW57 rfl (List.Mem.tail _ (List.Mem.tail _ (List.Mem.head _))))) ?_
      refine HeadR.det rfl (fun β hβ => (det_call en47 rfl (fun w hb ho => Add_ok ho.blocks))) ?_
      refine HeadR.det rfl (fun β hβ => (det_call en80 rfl (fun w hb ho => Square_ok ho.blocks))) ?_
      refine HeadR.det rfl (fun β hβ => (det_loadW57 rfl (List.Mem.tail _ (List.Mem.head _)))) ?_
      refine HeadR.det rfl (fun β hβ => (det_call en89 rfl (fun w hb ho => Sub_ok ho.blocks))) ?_
      refine HeadR.det rfl (fun β hβ => (det_loadW57 rfl (List.Mem.head _))) ?_
      refine HeadR.det rfl (fun β hβ => (det_call en89 rfl (fun w hb ho => Sub_ok ho.blocks))) ?_
      refine HeadR.fresh rfl (fun β hβ => (fr_alloc z57r).new) ?_
      refine HeadR.done ⟨by kernel_rfl, fun β hβ => ?_⟩
      refine OpsW.norm (F' := [(27, _), (28, _), (29, _), (30, _), (31, _), (32, _), (33, _), (34, _), (35, _), (6, .pointer (some ⟨(β 6).1, 0, none⟩)), (5, _), (3, _), (4, _), (2, _), (1, _)]) (H' := [(_, _), (_, _), (_, _), (_, _), (_, _), (_, _)]) rfl rfl ?_
      generalize (β 6).1 = b6
      refine OpsW.storeW57 rfl rfl (Upd.here) ?_
      refine sNext ?_
      refine W.keep (F' := [(6, _), (5, _), (3, _), (2, _), (1, _)]) ⟨rfl, rfl, rfl, rfl, rfl, trivial⟩ ?_
      refine sSeq ?_
      refine W.region ?_
      refine OpsW.det (det_loadW57 rfl (List.Mem.head _)) rfl ?_
      refine OpsW.det (det_loadW57 rfl (List.Mem.head _)) rfl ?_
      refine OpsW.det (det_call en47 rfl (fun w hb ho => Add_ok ho.blocks)) rfl ?_
      refine OpsW.storeW57 rfl rfl (Upd.here) ?_
      refine sNext ?_
      refine W.keep (F' := [(6, _), (5, _), (3, _), (2, _), (1, _)]) ⟨rfl, rfl, rfl, rfl, rfl, trivial⟩ ?_
      refine sSeq ?_
      refine W.draw mixed 6 [[], [], [0, 1], [], [0, 1, 2, 3], [], [0, 1, 2, 3, 4, 5]] (cl_lt (by decide)) ?_
      refine HeadR.start (cl_lt (by decide)) ?_
      refine HeadR.det rfl (fun β hβ => (det_loadW57 rfl (List.Mem.tail _ (List.Mem.tail _ (List.Mem.head _))))) ?_
      refine HeadR.det rfl (fun β hβ => (det_loadW57 rfl (List.Mem.tail _ (List.Mem.tail _ (List.Mem.head _))))) ?_
      refine HeadR.det rfl (fun β hβ => (det_call en47 rfl (fun w hb ho => Add_ok ho.blocks))) ?_
      refine HeadR.det rfl (fun β hβ => (det_loadW57 rfl (List.Mem.tail _ (List.Mem.tail _ (List.Mem.head _))))) ?_
      refine HeadR.det rfl (fun β hβ => (det_call en47 rfl (fun w hb ho => Add_ok ho.blocks))) ?_
      refine HeadR.fresh rfl (fun β hβ => (fr_alloc z57r).new) ?_
      refine HeadR.done ⟨by kernel_rfl, fun β hβ => ?_⟩
      refine OpsW.norm (F' := [(39, _), (40, _), (41, _), (42, _), (43, _), (7, .pointer (some ⟨(β 7).1, 0, none⟩)), (6, _), (5, _), (3, _), (2, _), (1, _)]) (H' := [(_, _), (_, _), (_, _), (_, _), (_, _), (_, _), (_, _)]) rfl rfl ?_
      generalize (β 7).1 = b7
      refine OpsW.storeW57 rfl rfl (Upd.here) ?_
      refine sNext ?_
      refine W.keep (F' := [(7, _), (6, _), (5, _), (2, _), (1, _)]) ⟨rfl, rfl, rfl, rfl, rfl, trivial⟩ ?_
      refine sSeq ?_
      refine W.draw mixed 7 [[], [0], [], [0, 1, 2], [], [0, 1, 2, 3, 4], [], [0, 1, 2, 3, 4, 5, 6]] (cl_lt (by decide)) ?_
      refine HeadR.start (cl_lt (by decide)) ?_
      refine HeadR.det rfl (fun β hβ => (det_loadW57 rfl (List.Mem.head _))) ?_
      refine HeadR.det rfl (fun β hβ => (det_call en80 rfl (fun w hb ho => Square_ok ho.blocks))) ?_
      refine HeadR.det rfl (fun β hβ => (det_loadW57 rfl (List.Mem.tail _ (List.Mem.head _)))) ?_
      refine HeadR.det rfl (fun β hβ => (det_call en89 rfl (fun w hb ho => Sub_ok ho.blocks))) ?_
      refine HeadR.det rfl (fun β hβ => (det_loadW57 rfl (List.Mem.tail _ (List.Mem.head _)))) ?_
      refine HeadR.det rfl (fun β hβ => (det_call en89 rfl (fun w hb ho => Sub_ok ho.blocks))) ?_
      refine HeadR.fresh rfl (fun β hβ => (fr_alloc z57r).new) ?_
      refine HeadR.done ⟨by kernel_rfl, fun β hβ => ?_⟩
      refine OpsW.norm (F' := [(44, _), (45, _), (46, _), (47, _), (48, _), (49, _), (8, .pointer (some ⟨(β 8).1, 0, none⟩)), (7, _), (6, _), (5, _), (2, _), (1, _)]) (H' := [(_, _), (_, _), (_, _), (_, _), (_, _), (_, _), (_, _), (_, _)]) rfl rfl ?_
      generalize (β 8).1 = b8
      refine OpsW.storeW57 rfl rfl (Upd.here) ?_
      refine sNext ?_
      refine W.keep (F' := [(8, _), (7, _), (6, _), (5, _), (2, _), (1, _)]) ⟨rfl, rfl, rfl, rfl, rfl, rfl, trivial⟩ ?_
      refine sSeq ?_
      refine W.region ?_
      refine OpsW.det (det_loadW57 rfl (List.Mem.tail _ (List.Mem.tail _ (List.Mem.tail _ (List.Mem.head _))))) rfl ?_
      refine OpsW.det (det_loadW57 rfl (List.Mem.tail _ (List.Mem.tail _ (List.Mem.tail _ (List.Mem.head _))))) rfl ?_
      refine OpsW.det (det_call en47 rfl (fun w hb ho => Add_ok ho.blocks)) rfl ?_
      refine OpsW.storeW57 rfl rfl (Upd.there (Upd.there (Upd.there (Upd.here)))) ?_
      refine sNext ?_
      refine W.keep (F' := [(8, _), (7, _), (6, _), (5, _), (2, _), (1, _)]) ⟨rfl, rfl, rfl, rfl, rfl, rfl, trivial⟩ ?_
      refine sSeq ?_
      refine W.region ?_
      refine OpsW.det (det_loadW57 rfl (List.Mem.tail _ (List.Mem.tail _ (List.Mem.tail _ (List.Mem.head _))))) rfl ?_
      refine OpsW.det (det_loadW57 rfl (List.Mem.tail _ (List.Mem.tail _ (List.Mem.tail _ (List.Mem.head _))))) rfl ?_
      refine OpsW.det (det_call en47 rfl (fun w hb ho => Add_ok ho.blocks)) rfl ?_
      refine OpsW.storeW57 rfl rfl (Upd.there (Upd.there (Upd.there (Upd.here)))) ?_
      refine sNext ?_
      refine W.keep (F' := [(8, _), (7, _), (6, _), (5, _), (2, _), (1, _)]) ⟨rfl, rfl, rfl, rfl, rfl, rfl, trivial⟩ ?_
      refine sSeq ?_
      refine W.region ?_
      refine OpsW.det (det_fieldAddr fl94_1 rfl) rfl ?_
      refine OpsW.det (det_loadA ty57 rfl (List.Mem.tail _ (List.Mem.tail _ (List.Mem.tail _ (List.Mem.tail _ (List.Mem.tail _ (List.Mem.tail _ (List.Mem.tail _ (List.Mem.head _)))))))) rfl) rfl ?_
      refine OpsW.det (det_fieldAddr fl94_2 rfl) rfl ?_
      refine OpsW.det (det_loadA ty57 rfl (List.Mem.tail _ (List.Mem.tail _ (List.Mem.tail _ (List.Mem.tail _ (List.Mem.tail _ (List.Mem.tail _ (List.Mem.tail _ (List.Mem.head _)))))))) rfl) rfl ?_
      refine OpsW.det (det_call en81 rfl (fun w hb ho => Mul_ok ho.blocks)) rfl ?_
      refine OpsW.fresh (fr_alloc z57r) rfl fun b9 => ?_
      refine OpsW.storeW57 rfl rfl (Upd.here) ?_
      refine sNext ?_
      refine W.keep (F' := [(9, _), (8, _), (7, _), (6, _), (5, _), (2, _)]) ⟨rfl, rfl, rfl, rfl, rfl, rfl, trivial⟩ ?_
      refine sSeq ?_
      refine W.draw mixed 14 [[], [], [], [], [2, 3], [1, 2, 3, 4], [], [1, 2, 3, 4, 5, 6], [], [1, 2, 3, 4, 5, 6, 7, 8], [], [], [1, 2, 3, 4, 5, 6, 7, 8, 9, 10, 11], [0, 1, 2, 3, 4, 5, 6, 7, 8, 9, 10, 11, 12], [0, 1, 2, 3, 4, 5, 6, 7, 8, 9, 10, 11, 12, 13]] (cl_lt (by decide)) ?_
      refine HeadR.start (cl_lt (by decide)) ?_
      refine HeadR.det rfl (fun β hβ => (det_loadW57 rfl (List.Mem.tail _ (List.Mem.head _)))) ?_
      refine HeadR.det rfl (fun β hβ => (det_loadW57 rfl (List.Mem.tail _ (List.Mem.tail _ (List.Mem.head _))))) ?_
      refine HeadR.det rfl (fun β hβ => (det_loadW57 rfl (List.Mem.tail _ (List.Mem.tail _ (List.Mem.tail _ (List.Mem.head _)))))) ?_
      refine HeadR.det rfl (fun β hβ => (det_loadW57 rfl (List.Mem.tail _ (List.Mem.head _)))) ?_
      refine HeadR.det rfl (fun β hβ => (det_call en89 rfl (fun w hb ho => Sub_ok ho.blocks))) ?_
      refine HeadR.det rfl (fun β hβ => (det_call en81 rfl (fun w hb ho => Mul_ok ho.blocks))) ?_
      refine HeadR.det rfl (fun β hβ => (det_loadW57 rfl (List.Mem.tail _ (List.Mem.tail _ (List.Mem.tail _ (List.Mem.tail _ (List.Mem.head _))))))) ?_
      refine HeadR.det rfl (fun β hβ => (det_call en89 rfl (fun w hb ho => Sub_ok ho.blocks))) ?_
      refine HeadR.det rfl (fun β hβ => (det_loadW57 rfl (List.Mem.tail _ (List.Mem.tail _ (List.Mem.tail _ (List.Mem.tail _ (List.Mem.head _))))))) ?_
      refine HeadR.det rfl (fun β hβ => (det_call en89 rfl (fun w hb ho => Sub_ok ho.blocks))) ?_
      refine HeadR.det rfl (fun β hβ => (det_loadW57 rfl (List.Mem.head _))) ?_
      refine HeadR.det rfl (fun β hβ => (det_loadW57 rfl (List.Mem.head _))) ?_
      refine HeadR.det rfl (fun β hβ => (det_call en47 rfl (fun w hb ho => Add_ok ho.blocks))) ?_
      refine HeadR.det rfl (fun β hβ => (det_build rfl bld94)) ?_
      refine HeadR.done ⟨by kernel_rfl, fun β hβ => ?_⟩
      refine OpsW.norm (F' := [(61, _), (62, _), (63, _), (64, _), (65, _), (66, _), (67, _), (68, _), (69, _), (70, _), (71, _), (72, _), (73, _), (74, _), (9, _), (8, _), (7, _), (6, _), (5, _), (2, _)]) (H' := [(_, _), (_, _), (_, _), (_, _), (_, _), (_, _), (_, _), (_, _), (_, _)]) rfl rfl ?_
      refine OpsW.storeW94 rfl rfl (Upd.there (Upd.there (Upd.there (Upd.there (Upd.there (Upd.there (Upd.there (Upd.here)))))))) ?_
      refine sNext ?_
      refine W.keep (F' := [(2, _)]) ⟨rfl, trivial⟩ ?_
      refine sRet ?_
      exact done1 Tryd.results88 (rv_cellA ty94 rfl (List.Mem.tail _ (List.Mem.tail _ (List.Mem.tail _ (List.Mem.tail _ (List.Mem.tail _ (List.Mem.tail _ (List.Mem.tail _ (List.Mem.head _)))))))) rfl) (congrArg encJ (jdbl_no hc12 hc17).symm)
theorem point_ok {p : Jac} {w : World} (hG : Blocks (GH T) w)  : Vm.Pure Tryd.prog 78 #[encJ p] w (encP (point p)) := by
  refine pure_of_W (n := 25) (args := [encJ p]) Tryd.func78 rfl Tryd.ntmps78 (Nat.le_of_ble_eq_true rfl) hG ?_
  refine sStart ?_
  refine sSeq ?_
  refine W.region ?_
  refine OpsW.fresh (fr_boxW94 rfl) rfl fun b1 => ?_
  refine OpsW.fresh (fr_alloc z59r) rfl fun b2 => ?_
  refine sNext ?_
  refine W.keep (F' := [(2, _), (1, _)]) ⟨rfl, rfl, trivial⟩ ?_
  refine sSeq ?_
  refine sSeq ?_
  refine W.region ?_
  refine OpsW.det (det_fieldAddr fl94_2 rfl) rfl ?_
  refine OpsW.det (det_loadA ty57 rfl (List.Mem.tail _ (List.Mem.head _)) rfl) rfl ?_
  refine OpsW.det (det_call en86 rfl (fun w hb ho => Zero_ok ho.blocks)) rfl ?_
  refine sNext ?_
  refine W.keep (F' := [(7, _), (2, _), (1, _)]) ⟨rfl, rfl, rfl, trivial⟩ ?_
  refine W.cond rfl (fun hc7 => ?_) (fun hc7 => ?_)
  · skip
    refine sSeq ?_
    refine W.region ?_
    refine OpsW.det (det_zero bz59) rfl ?_
    refine OpsW.storeW59 rfl rfl (Upd.here) ?_
    refine sNext ?_
    refine W.keep (F' := [(2, _)]) ⟨rfl, trivial⟩ ?_
    refine sRet ?_
    exact done1 Tryd.results78 (rv_cellA ty59 rfl (List.Mem.head _) rfl) (congrArg encP (point_yes hc7).symm)
  · skip
    refine sSkip ?_
    refine sSeq ?_
    refine W.region ?_
    refine OpsW.det (det_fieldAddr fl94_2 rfl) rfl ?_
    refine OpsW.det (det_loadA ty57 rfl (List.Mem.tail _ (List.Mem.head _)) rfl) rfl ?_
    refine OpsW.det (det_call en100 rfl (fun w hb ho => Inv_ok ho.blocks)) rfl ?_
    refine OpsW.fresh (fr_alloc z57r) rfl fun b3 => ?_
    refine OpsW.storeW57 rfl rfl (Upd.here) ?_
    refine sNext ?_
    refine W.keep (F' := [(3, _), (2, _), (1, _)]) ⟨rfl, rfl, rfl, trivial⟩ ?_
    refine sSeq ?_
    refine W.region ?_
    refine OpsW.det (det_loadW57 rfl (List.Mem.head _)) rfl ?_
    refine OpsW.det (det_call en80 rfl (fun w hb ho => Square_ok ho.blocks)) rfl ?_
    refine OpsW.fresh (fr_alloc z57r) rfl fun b4 => ?_
    refine OpsW.storeW57 rfl rfl (Upd.here) ?_
    refine sNext ?_
    refine W.keep (F' := [(4, _), (3, _), (2, _), (1, _)]) ⟨rfl, rfl, rfl, rfl, trivial⟩ ?_
    refine sSeq ?_
    refine W.draw mixed 11 [[], [0], [], [0, 1, 2], [], [4], [], [0, 1, 2, 3, 4, 5, 6], [], [0, 1, 2, 3, 4, 5, 6, 7, 8], [0, 1, 2, 3, 4, 5, 6, 7, 8, 9], [0, 1, 2, 3, 4, 5, 6, 7, 8, 9, 10]] (cl_lt (by decide)) ?_
    refine HeadR.start (cl_lt (by decide)) ?_
    refine HeadR.det rfl (fun β hβ => (det_fieldAddr fl94_0 rfl)) ?_
    refine HeadR.det rfl (fun β hβ => (det_loadA ty57 rfl (List.Mem.tail _ (List.Mem.tail _ (List.Mem.tail _ (List.Mem.head _)))) rfl)) ?_
    refine HeadR.det rfl (fun β hβ => (det_loadW57 rfl (List.Mem.head _))) ?_
    refine HeadR.det rfl (fun β hβ => (det_call en81 rfl (fun w hb ho => Mul_ok ho.blocks))) ?_
    refine HeadR.det rfl (fun β hβ => (det_fieldAddr fl94_1 rfl)) ?_
    refine HeadR.det rfl (fun β hβ => (det_loadA ty57 rfl (List.Mem.tail _ (List.Mem.tail _ (List.Mem.tail _ (List.Mem.head _)))) rfl)) ?_
    refine HeadR.det rfl (fun β hβ => (det_loadW57 rfl (List.Mem.head _))) ?_
    refine HeadR.det rfl (fun β hβ => (det_call en81 rfl (fun w hb ho => Mul_ok ho.blocks))) ?_
    refine HeadR.det rfl (fun β hβ => (det_loadW57 rfl (List.Mem.tail _ (List.Mem.head _)))) ?_
    refine HeadR.det rfl (fun β hβ => (det_call en81 rfl (fun w hb ho => Mul_ok ho.blocks))) ?_
    refine HeadR.det rfl (fun β hβ => (det_build rfl bld59)) ?_
    refine HeadR.done ⟨by kernel_rfl, fun β hβ => ?_⟩
    refine OpsW.norm (F' := [(14, _), (15, _), (16, _), (17, _), (18, _), (19, _), (20, _), (21, _), (22, _), (23, _), (24, _), (4, _), (3, _), (2, _), (1, _)]) (H' := [(_, _), (_, _), (_, _), (_, _)]) rfl rfl ?_
    refine OpsW.storeW59 rfl rfl (Upd.there (Upd.there (Upd.here))) ?_
    refine sNext ?_
    refine W.keep (F' := [(2, _)]) ⟨rfl, trivial⟩ ?_
    refine sRet ?_
    exact done1 Tryd.results78 (rv_cellA ty59 rfl (List.Mem.tail _ (List.Mem.tail _ (List.Mem.head _))) rfl) (congrArg encP (point_no hc7).symm)
theorem jadd_ok {p : Jac} {q : Pt} {w : World} (hG : Blocks (GH T) w)  : Vm.Pure Tryd.prog 77 #[encJ p, encP q] w (encJ (jadd p q)) := by
  refine pure_of_W (n := 100) (args := [encJ p, encP q]) Tryd.func77 rfl Tryd.ntmps77 (Nat.le_of_ble_eq_true rfl) hG ?_
  refine sStart ?_
  refine sSeq ?_
  refine W.region ?_
  refine OpsW.fresh (fr_boxW94 rfl) rfl fun b2 => ?_
  refine OpsW.fresh (fr_boxW59 rfl) rfl fun b3 => ?_
  refine OpsW.fresh (fr_alloc z94r) rfl fun b4 => ?_
  refine sNext ?_
  refine W.keep (F' := [(4, _), (3, _), (2, _)]) ⟨rfl, rfl, rfl, trivial⟩ ?_
  refine sSeq ?_
  refine sSeq ?_
  refine W.region ?_
  refine OpsW.det (det_loadW59 rfl (List.Mem.tail _ (List.Mem.head _))) rfl ?_
  refine OpsW.det (det_zero bz59) rfl ?_
  refine OpsW.det (det_eql59 rfl rfl) rfl ?_
  refine sNext ?_
  refine W.keep (F' := [(16, _), (4, _), (3, _), (2, _)]) ⟨rfl, rfl, rfl, rfl, trivial⟩ ?_
  refine W.cond rfl (fun hc16 => ?_) (fun hc16 => ?_)
  · skip
    refine sSeq ?_
    refine W.region ?_
    refine OpsW.det (det_loadW94 rfl (List.Mem.tail _ (List.Mem.tail _ (List.Mem.head _)))) rfl ?_
    refine OpsW.storeW94 rfl rfl (Upd.here) ?_
    refine sNext ?_
    refine W.keep (F' := [(4, _)]) ⟨rfl, trivial⟩ ?_
    refine sRet ?_
    exact done1 Tryd.results77 (rv_cellA ty94 rfl (List.Mem.head _) rfl) (congrArg encJ (jadd_q hc16).symm)
  · skip
    refine sSkip ?_
    refine sSeq ?_
    refine sSeq ?_
    refine W.region ?_
    refine OpsW.det (det_fieldAddr fl94_2 rfl) rfl ?_
    refine OpsW.det (det_loadA ty57 rfl (List.Mem.tail _ (List.Mem.tail _ (List.Mem.head _))) rfl) rfl ?_
    refine OpsW.det (det_call en86 rfl (fun w hb ho => Zero_ok ho.blocks)) rfl ?_
    refine sNext ?_
    refine W.keep (F' := [(20, _), (4, _), (3, _), (2, _)]) ⟨rfl, rfl, rfl, rfl, trivial⟩ ?_
    refine W.cond rfl (fun hc20 => ?_) (fun hc20 => ?_)
    · skip
      refine sSeq ?_
      refine W.region ?_
      refine OpsW.det (det_loadW59 rfl (List.Mem.tail _ (List.Mem.head _))) rfl ?_
      refine OpsW.det (det_call en76 rfl (fun w hb ho => tojac_ok ho.blocks)) rfl ?_
      refine OpsW.storeW94 rfl rfl (Upd.here) ?_
      refine sNext ?_
      refine W.keep (F' := [(4, _)]) ⟨rfl, trivial⟩ ?_
      refine sRet ?_
      exact done1 Tryd.results77 (rv_cellA ty94 rfl (List.Mem.head _) rfl) (congrArg encJ (jadd_p hc16 hc20).symm)
    · skip
      refine sSkip ?_
      refine sSeq ?_
      refine W.region ?_
      refine OpsW.det (det_fieldAddr fl94_2 rfl) rfl ?_
      refine OpsW.det (det_loadA ty57 rfl (List.Mem.tail _ (List.Mem.tail _ (List.Mem.head _))) rfl) rfl ?_
      refine OpsW.det (det_call en80 rfl (fun w hb ho => Square_ok ho.blocks)) rfl ?_
      refine OpsW.fresh (fr_alloc z57r) rfl fun b5 => ?_
      refine OpsW.storeW57 rfl rfl (Upd.here) ?_
      refine sNext ?_
      refine W.keep (F' := [(5, _), (4, _), (3, _), (2, _)]) ⟨rfl, rfl, rfl, rfl, trivial⟩ ?_
      refine sSeq ?_
      refine W.draw mixed 8 [[], [0], [], [0, 1, 2], [], [4], [0, 1, 2, 3, 4, 5], [], [0, 1, 2, 3, 4, 5, 6, 7]] (cl_lt (by decide)) ?_
      refine HeadR.start (cl_lt (by decide)) ?_
      refine HeadR.det rfl (fun β hβ => (det_fieldAddr fl59_0 rfl)) ?_
      refine HeadR.det rfl (fun β hβ => (det_loadA ty57 rfl (List.Mem.tail _ (List.Mem.tail _ (List.Mem.head _))) rfl)) ?_
      refine HeadR.det rfl (fun β hβ => (det_loadW57 rfl (List.Mem.head _))) ?_
      refine HeadR.det rfl (fun β hβ => (det_call en81 rfl (fun w hb ho => Mul_ok ho.blocks))) ?_
      refine HeadR.det rfl (fun β hβ => (det_fieldAddr fl94_0 rfl)) ?_
      refine HeadR.det rfl (fun β hβ => (det_loadA ty57 rfl (List.Mem.tail _ (List.Mem.tail _ (List.Mem.tail _ (List.Mem.head _)))) rfl)) ?_
      refine HeadR.det rfl (fun β hβ => (det_call en89 rfl (fun w hb ho => Sub_ok ho.blocks))) ?_
      refine HeadR.fresh rfl (fun β hβ => (fr_alloc z57r).new) ?_
      refine HeadR.done ⟨by kernel_rfl, fun β hβ => ?_⟩
      refine OpsW.norm (F' := [(26, _), (27, _), (28, _), (29, _), (30, _), (31, _), (32, _), (6, .pointer (some ⟨(β 6).1, 0, none⟩)), (5, _), (4, _), (3, _), (2, _)]) (H' := [(_, _), (_, _), (_, _), (_, _), (_, _)]) rfl rfl ?_
      generalize (β 6).1 = b6
      refine OpsW.storeW57 rfl rfl (Upd.here) ?_
      refine sNext ?_
      refine W.keep (F' := [(6, _), (5, _), (4, _), (3, _), (2, _)]) ⟨rfl, rfl, rfl, rfl, rfl, trivial⟩ ?_
      refine sSeq ?_
      refine W.draw mixed 11 [[], [0], [], [2], [0, 1, 2, 3], [], [0, 1, 2, 3, 4, 5], [], [7], [0, 1, 2, 3, 4, 5, 6, 7, 8], [], [0, 1, 2, 3, 4, 5, 6, 7, 8, 9, 10]] (cl_lt (by decide)) ?_
      refine HeadR.start (cl_lt (by decide)) ?_
      refine HeadR.det rfl (fun β hβ => (det_fieldAddr fl59_1 rfl)) ?_
      refine HeadR.det rfl (fun β hβ => (det_loadA ty57 rfl (List.Mem.tail _ (List.Mem.tail _ (List.Mem.tail _ (List.Mem.head _)))) rfl)) ?_
      refine HeadR.det rfl (fun β hβ => (det_fieldAddr fl94_2 rfl)) ?_
      refine HeadR.det rfl (fun β hβ => (det_loadA ty57 rfl (List.Mem.tail _ (List.Mem.tail _ (List.Mem.tail _ (List.Mem.tail _ (List.Mem.head _))))) rfl)) ?_
      refine HeadR.det rfl (fun β hβ => (det_call en81 rfl (fun w hb ho => Mul_ok ho.blocks))) ?_
      refine HeadR.det rfl (fun β hβ => (det_loadW57 rfl (List.Mem.tail _ (List.Mem.head _)))) ?_
      refine HeadR.det rfl (fun β hβ => (det_call en81 rfl (fun w hb ho => Mul_ok ho.blocks))) ?_
      refine HeadR.det rfl (fun β hβ => (det_fieldAddr fl94_1 rfl)) ?_
      refine HeadR.det rfl (fun β hβ => (det_loadA ty57 rfl (List.Mem.tail _ (List.Mem.tail _ (List.Mem.tail _ (List.Mem.tail _ (List.Mem.head _))))) rfl)) ?_
      refine HeadR.det rfl (fun β hβ => (det_call en89 rfl (fun w hb ho => Sub_ok ho.blocks))) ?_
      refine HeadR.fresh rfl (fun β hβ => (fr_alloc z57r).new) ?_
      refine HeadR.done ⟨by kernel_rfl, fun β hβ => ?_⟩
      refine OpsW.norm (F' := [(33, _), (34, _), (35, _), (36, _), (37, _), (38, _), (39, _), (40, _), (41, _), (42, _), (7, .pointer (some ⟨(β 7).1, 0, none⟩)), (6, _), (5, _), (4, _), (3, _), (2, _)]) (H' := [(_, _), (_, _), (_, _), (_, _), (_, _), (_, _)]) rfl rfl ?_
      generalize (β 7).1 = b7
      refine OpsW.storeW57 rfl rfl (Upd.here) ?_
      refine sNext ?_
      refine W.keep (F' := [(7, _), (6, _), (5, _), (4, _), (2, _)]) ⟨rfl, rfl, rfl, rfl, rfl, trivial⟩ ?_
      refine sSeq ?_
      refine sSeq ?_
      refine W.region ?_
      refine OpsW.det (det_loadW57 rfl (List.Mem.tail _ (List.Mem.head _))) rfl ?_
      refine OpsW.det (det_call en86 rfl (fun w hb ho => Zero_ok ho.blocks)) rfl ?_
      refine sNext ?_
      refine W.keep (F' := [(44, _), (7, _), (6, _), (5, _), (4, _), (2, _)]) ⟨rfl, rfl, rfl, rfl, rfl, rfl, trivial⟩ ?_
      refine W.cond rfl (fun hc44 => ?_) (fun hc44 => ?_)
      · skip
        refine sSeq ?_
        refine sSeq ?_
        refine W.region ?_
        refine OpsW.det (det_loadW57 rfl (List.Mem.head _)) rfl ?_
        refine OpsW.det (det_call en86 rfl (fun w hb ho => Zero_ok ho.blocks)) rfl ?_
        refine sNext ?_
        refine W.keep (F' := [(46, _), (4, _), (2, _)]) ⟨rfl, rfl, rfl, trivial⟩ ?_
        refine W.cond rfl (fun hc46 => ?_) (fun hc46 => ?_)
        · skip
          refine sSeq ?_
          refine W.region ?_
          refine OpsW.det (det_loadW94 rfl (List.Mem.tail _ (List.Mem.tail _ (List.Mem.tail _ (List.Mem.tail _ (List.Mem.tail _ (List.Mem.head _))))))) rfl ?_
          refine OpsW.det (det_call en88 rfl (fun w hb ho => jdbl_ok ho.blocks)) rfl ?_
          refine OpsW.storeW94 rfl rfl (Upd.there (Upd.there (Upd.there (Upd.here)))) ?_
          refine sNext ?_
          refine W.keep (F' := [(4, _)]) ⟨rfl, trivial⟩ ?_
          refine sRet ?_
          exact done1 Tryd.results77 (rv_cellA ty94 rfl (List.Mem.tail _ (List.Mem.tail _ (List.Mem.tail _ (List.Mem.head _)))) rfl) (congrArg encJ (jadd_d hc16 hc20 hc44 hc46).symm)
        · skip
          refine sSkip ?_
          refine sSeq ?_
          refine W.region ?_
          refine OpsW.det (det_zero bz94) rfl ?_
          refine OpsW.storeW94 rfl rfl (Upd.there (Upd.there (Upd.there (Upd.here)))) ?_
          refine sNext ?_
          refine W.keep (F' := [(4, _)]) ⟨rfl, trivial⟩ ?_
          refine sRet ?_
          exact done1 Tryd.results77 (rv_cellA ty94 rfl (List.Mem.tail _ (List.Mem.tail _ (List.Mem.tail _ (List.Mem.head _)))) rfl) (congrArg encJ (jadd_o hc16 hc20 hc44 hc46).symm)
      · skip
        refine sSkip ?_
        refine sSeq ?_
        refine W.region ?_
        refine OpsW.det (det_loadW57 rfl (List.Mem.head _)) rfl ?_
        refine OpsW.det (det_loadW57 rfl (List.Mem.head _)) rfl ?_
        refine OpsW.det (det_call en47 rfl (fun w hb ho => Add_ok ho.blocks)) rfl ?_
        refine OpsW.storeW57 rfl rfl (Upd.here) ?_
        refine sNext ?_
        refine W.keep (F' := [(7, _), (6, _), (5, _), (4, _), (2, _)]) ⟨rfl, rfl, rfl, rfl, rfl, trivial⟩ ?_
        refine sSeq ?_
        refine W.region ?_
        refine OpsW.det (det_loadW57 rfl (List.Mem.tail _ (List.Mem.head _))) rfl ?_
        refine OpsW.det (det_call en80 rfl (fun w hb ho => Square_ok ho.blocks)) rfl ?_
        refine OpsW.fresh (fr_alloc z57r) rfl fun b8 => ?_
        refine OpsW.storeW57 rfl rfl (Upd.here) ?_
        refine sNext ?_
        refine W.keep (F' := [(8, _), (7, _), (6, _), (5, _), (4, _), (2, _)]) ⟨rfl, rfl, rfl, rfl, rfl, rfl, trivial⟩ ?_
        refine sSeq ?_
        refine W.region ?_
        refine OpsW.det (det_loadW57 rfl (List.Mem.head _)) rfl ?_
        refine OpsW.det (det_loadW57 rfl (List.Mem.head _)) rfl ?_
        refine OpsW.det (det_call en47 rfl (fun w hb ho => Add_ok ho.blocks)) rfl ?_
        refine OpsW.fresh (fr_alloc z57r) rfl fun b9 => ?_
        refine OpsW.storeW57 rfl rfl (Upd.here) ?_
        refine sNext ?_
        refine W.keep (F' := [(9, _), (8, _), (7, _), (6, _), (5, _), (4, _), (2, _)]) ⟨rfl, rfl, rfl, rfl, rfl, rfl, rfl, trivial⟩ ?_
        refine sSeq ?_
        refine W.region ?_
        refine OpsW.det (det_loadW57 rfl (List.Mem.head _)) rfl ?_
        refine OpsW.det (det_loadW57 rfl (List.Mem.head _)) rfl ?_
        refine OpsW.det (det_call en47 rfl (fun w hb ho => Add_ok ho.blocks)) rfl ?_
        refine OpsW.storeW57 rfl rfl (Upd.here) ?_
        refine sNext ?_
        refine W.keep (F' := [(9, _), (8, _), (7, _), (6, _), (5, _), (4, _), (2, _)]) ⟨rfl, rfl, rfl, rfl, rfl, rfl, rfl, trivial⟩ ?_
        refine sSeq ?_
        refine W.draw mixed 9 [[], [], [0, 1], [], [3], [], [0, 1, 2, 3, 4, 5], [], [], [0, 1, 2, 3, 4, 5, 6, 7, 8], [0, 1, 2, 3, 4, 5, 6, 7, 8, 9]] (cl_lt (by decide)) ?_
        refine HeadR.start (cl_lt (by decide)) ?_
        refine HeadR.det rfl (fun β hβ => (det_loadW57 rfl (List.Mem.tail _ (List.Mem.tail _ (List.Mem.tail _ (List.Mem.head _)))))) ?_
        refine HeadR.det rfl (fun β hβ => (det_loadW57 rfl (List.Mem.head _))) ?_
        refine HeadR.det rfl (fun β hβ => (det_call en81 rfl (fun w hb ho => Mul_ok ho.blocks))) ?_
        refine HeadR.det rfl (fun β hβ => (det_fieldAddr fl94_0 rfl)) ?_
        refine HeadR.det rfl (fun β hβ => (det_loadA ty57 rfl (List.Mem.tail _ (List.Mem.tail _ (List.Mem.tail _ (List.Mem.tail _ (List.Mem.tail _ (List.Mem.tail _ (List.Mem.tail _ (List.Mem.head _)))))))) rfl)) ?_
        refine HeadR.det rfl (fun β hβ => (det_loadW57 rfl (List.Mem.head _))) ?_
        refine HeadR.det rfl (fun β hβ => (det_call en81 rfl (fun w hb ho => Mul_ok ho.blocks))) ?_
        refine HeadR.fresh rfl (fun β hβ => (fr_alloc z57r).new) ?_
        refine HeadR.fresh rfl (fun β hβ => (fr_alloc z57r).new) ?_
        refine HeadR.done ⟨by kernel_rfl, fun β hβ => ?_⟩
        refine OpsW.norm (F' := [(61, _), (62, _), (63, _), (64, _), (65, _), (66, _), (67, _), (10, .pointer (some ⟨(β 10).1, 0, none⟩)), (11, .pointer (some ⟨(β 11).1, 0, none⟩)), (9, _), (8, _), (7, _), (6, _), (5, _), (4, _), (2, _)]) (H' := [(_, _), (_, _), (_, _), (_, _), (_, _), (_, _), (_, _), (_, _), (_, _), (_, _)]) rfl rfl ?_
        generalize (β 10).1 = b10
        generalize (β 11).1 = b11
        refine OpsW.storeW57 rfl rfl (Upd.here) ?_
        refine OpsW.storeW57 rfl rfl (Upd.there (Upd.here)) ?_
        refine sNext ?_
        refine W.keep (F' := [(10, _), (11, _), (8, _), (7, _), (6, _), (5, _), (4, _), (2, _)]) ⟨rfl, rfl, rfl, rfl, rfl, rfl, rfl, rfl, trivial⟩ ?_
        refine sSeq ?_
        refine W.draw mixed 9 [[], [0], [], [0, 1, 2], [], [0, 1, 2, 3, 4], [], [0, 1, 2, 3, 4, 5, 6], [], [0, 1, 2, 3, 4, 5, 6, 7, 8]] (cl_lt (by decide)) ?_
        refine HeadR.start (cl_lt (by decide)) ?_
        refine HeadR.det rfl (fun β hβ => (det_loadW57 rfl (List.Mem.tail _ (List.Mem.tail _ (List.Mem.tail _ (List.Mem.tail _ (List.Mem.head _))))))) ?_
        refine HeadR.det rfl (fun β hβ => (det_call en80 rfl (fun w hb ho => Square_ok ho.blocks))) ?_
        refine HeadR.det rfl (fun β hβ => (det_loadW57 rfl (List.Mem.head _))) ?_
        refine HeadR.det rfl (fun β hβ => (det_call en89 rfl (fun w hb ho => Sub_ok ho.blocks))) ?_
        refine HeadR.det rfl (fun β hβ => (det_loadW57 rfl (List.Mem.tail _ (List.Mem.head _)))) ?_
        refine HeadR.det rfl (fun β hβ => (det_call en89 rfl (fun w hb ho => Sub_ok ho.blocks))) ?_
        refine HeadR.det rfl (fun β hβ => (det_loadW57 rfl (List.Mem.tail _ (List.Mem.head _)))) ?_
        refine HeadR.det rfl (fun β hβ => (det_call en89 rfl (fun w hb ho => Sub_ok ho.blocks))) ?_
        refine HeadR.fresh rfl (fun β hβ => (fr_alloc z57r).new) ?_
        refine HeadR.done ⟨by kernel_rfl, fun β hβ => ?_⟩
        refine OpsW.norm (F' := [(68, _), (69, _), (70, _), (71, _), (72, _), (73, _), (74, _), (75, _), (12, .pointer (some ⟨(β 12).1, 0, none⟩)), (10, _), (11, _), (8, _), (7, _), (6, _), (5, _), (4, _), (2, _)]) (H' := [(_, _), (_, _), (_, _), (_, _), (_, _), (_, _), (_, _), (_, _), (_, _), (_, _), (_, _)]) rfl rfl ?_
        generalize (β 12).1 = b12
        refine OpsW.storeW57 rfl rfl (Upd.here) ?_
        refine sNext ?_
        refine W.keep (F' := [(12, _), (10, _), (11, _), (8, _), (7, _), (6, _), (5, _), (4, _), (2, _)]) ⟨rfl, rfl, rfl, rfl, rfl, rfl, rfl, rfl, rfl, trivial⟩ ?_
        refine sSeq ?_
        refine W.region ?_
        refine OpsW.det (det_fieldAddr fl94_1 rfl) rfl ?_
        refine OpsW.det (det_loadA ty57 rfl (List.Mem.tail _ (List.Mem.tail _ (List.Mem.tail _ (List.Mem.tail _ (List.Mem.tail _ (List.Mem.tail _ (List.Mem.tail _ (List.Mem.tail _ (List.Mem.tail _ (List.Mem.tail _ (List.Mem.head _))))))))))) rfl) rfl ?_
        refine OpsW.det (det_loadW57 rfl (List.Mem.tail _ (List.Mem.head _))) rfl ?_
        refine OpsW.det (det_call en81 rfl (fun w hb ho => Mul_ok ho.blocks)) rfl ?_
        refine OpsW.fresh (fr_alloc z57r) rfl fun b13 => ?_
        refine OpsW.storeW57 rfl rfl (Upd.here) ?_
        refine sNext ?_
        refine W.keep (F' := [(13, _), (12, _), (11, _), (8, _), (7, _), (6, _), (5, _), (4, _), (2, _)]) ⟨rfl, rfl, rfl, rfl, rfl, rfl, rfl, rfl, rfl, trivial⟩ ?_
        refine sSeq ?_
        refine W.draw mixed 20 [[], [], [], [], [2, 3], [1, 2, 3, 4], [], [1, 2, 3, 4, 5, 6], [], [1, 2, 3, 4, 5, 6, 7, 8], [], [10], [], [1, 2, 3, 4, 5, 6, 7, 8, 9, 10, 11, 12], [1, 2, 3, 4, 5, 6, 7, 8, 9, 10, 11, 12, 13], [], [1, 2, 3, 4, 5, 6, 7, 8, 9, 10, 11, 12, 13, 14, 15], [], [1, 2, 3, 4, 5, 6, 7, 8, 9, 10, 11, 12, 13, 14, 15, 16, 17], [0, 1, 2, 3, 4, 5, 6, 7, 8, 9, 10, 11, 12, 13, 14, 15, 16, 17, 18], [0, 1, 2, 3, 4, 5, 6, 7, 8, 9, 10, 11, 12, 13, 14, 15, 16, 17, 18, 19]] (cl_lt (by decide)) ?_
        refine HeadR.start (cl_lt (by decide)) ?_
        refine HeadR.det rfl (fun β hβ => (det_loadW57 rfl (List.Mem.tail _ (List.Mem.head _)))) ?_
        refine HeadR.det rfl (fun β hβ => (det_loadW57 rfl (List.Mem.tail _ (List.Mem.tail _ (List.Mem.tail _ (List.Mem.tail _ (List.Mem.tail _ (List.Mem.tail _ (List.Mem.head _))))))))) ?_
        refine HeadR.det rfl (fun β hβ => (det_loadW57 rfl (List.Mem.tail _ (List.Mem.tail _ (List.Mem.tail _ (List.Mem.head _)))))) ?_
        refine HeadR.det rfl (fun β hβ => (det_loadW57 rfl (List.Mem.tail _ (List.Mem.head _)))) ?_
        refine HeadR.det rfl (fun β hβ => (det_call en89 rfl (fun w hb ho => Sub_ok ho.blocks))) ?_
        refine HeadR.det rfl (fun β hβ => (det_call en81 rfl (fun w hb ho => Mul_ok ho.blocks))) ?_
        refine HeadR.det rfl (fun β hβ => (det_loadW57 rfl (List.Mem.head _))) ?_
        refine HeadR.det rfl (fun β hβ => (det_call en89 rfl (fun w hb ho => Sub_ok ho.blocks))) ?_
        refine HeadR.det rfl (fun β hβ => (det_loadW57 rfl (List.Mem.head _))) ?_
        refine HeadR.det rfl (fun β hβ => (det_call en89 rfl (fun w hb ho => Sub_ok ho.blocks))) ?_
        refine HeadR.det rfl (fun β hβ => (det_fieldAddr fl94_2 rfl)) ?_
        refine HeadR.det rfl (fun β hβ => (det_loadA ty57 rfl (List.Mem.tail _ (List.Mem.tail _ (List.Mem.tail _ (List.Mem.tail _ (List.Mem.tail _ (List.Mem.tail _ (List.Mem.tail _ (List.Mem.tail _ (List.Mem.tail _ (List.Mem.tail _ (List.Mem.tail _ (List.Mem.head _)))))))))))) rfl)) ?_
        refine HeadR.det rfl (fun β hβ => (det_loadW57 rfl (List.Mem.tail _ (List.Mem.tail _ (List.Mem.tail _ (List.Mem.tail _ (List.Mem.tail _ (List.Mem.tail _ (List.Mem.tail _ (List.Mem.head _)))))))))) ?_
        refine HeadR.det rfl (fun β hβ => (det_call en47 rfl (fun w hb ho => Add_ok ho.blocks))) ?_
        refine HeadR.det rfl (fun β hβ => (det_call en80 rfl (fun w hb ho => Square_ok ho.blocks))) ?_
        refine HeadR.det rfl (fun β hβ => (det_loadW57 rfl (List.Mem.tail _ (List.Mem.tail _ (List.Mem.tail _ (List.Mem.tail _ (List.Mem.tail _ (List.Mem.tail _ (List.Mem.tail _ (List.Mem.tail _ (List.Mem.head _))))))))))) ?_
        refine HeadR.det rfl (fun β hβ => (det_call en89 rfl (fun w hb ho => Sub_ok ho.blocks))) ?_
        refine HeadR.det rfl (fun β hβ => (det_loadW57 rfl (List.Mem.tail _ (List.Mem.tail _ (List.Mem.tail _ (List.Mem.tail _ (List.Mem.tail _ (List.Mem.head _)))))))) ?_
        refine HeadR.det rfl (fun β hβ => (det_call en89 rfl (fun w hb ho => Sub_ok ho.blocks))) ?_
        refine HeadR.det rfl (fun β hβ => (det_build rfl bld94)) ?_
        refine HeadR.done ⟨by kernel_rfl, fun β hβ => ?_⟩
        refine OpsW.norm (F' := [(80, _), (81, _), (82, _), (83, _), (84, _), (85, _), (86, _), (87, _), (88, _), (89, _), (90, _), (91, _), (92, _), (93, _), (94, _), (95, _), (96, _), (97, _), (98, _), (99, _), (13, _), (12, _), (11, _), (8, _), (7, _), (6, _), (5, _), (4, _), (2, _)]) (H' := [(_, _), (_, _), (_, _), (_, _), (_, _), (_, _), (_, _), (_, _), (_, _), (_, _), (_, _), (_, _)]) rfl rfl ?_
        refine OpsW.storeW94 rfl rfl (Upd.there (Upd.there (Upd.there (Upd.there (Upd.there (Upd.there (Upd.there (Upd.there (Upd.there (Upd.here)))))))))) ?_
        refine sNext ?_
        refine W.keep (F' := [(4, _)]) ⟨rfl, trivial⟩ ?_
        refine sRet ?_
        exact done1 Tryd.results77 (rv_cellA ty94 rfl (List.Mem.tail _ (List.Mem.tail _ (List.Mem.tail _ (List.Mem.tail _ (List.Mem.tail _ (List.Mem.tail _ (List.Mem.tail _ (List.Mem.tail _ (List.Mem.tail _ (List.Mem.head _)))))))))) rfl) (congrArg encJ (jadd_n hc16 hc20 hc44).symm)
theorem PAdd_ok {p q : Pt} {w : World} (hG : Blocks (GH T) w)  : Vm.Pure Tryd.prog 39 #[encP p, encP q] w (encP (padd p q)) := by
  refine pure_of_W (n := 10) (args := [encP p, encP q]) Tryd.func39 rfl Tryd.ntmps39 (Nat.le_of_ble_eq_true rfl) hG ?_
  refine sStart ?_
  refine sSeq ?_
  refine W.region ?_
  refine OpsW.fresh (fr_boxW59 rfl) rfl fun b2 => ?_
  refine OpsW.fresh (fr_boxW59 rfl) rfl fun b3 => ?_
  refine OpsW.fresh (fr_alloc z59r) rfl fun b4 => ?_
  refine sNext ?_
  refine W.keep (F' := [(4, _), (3, _), (2, _)]) ⟨rfl, rfl, rfl, trivial⟩ ?_
  refine sSeq ?_
  refine W.draw mixed 5 [[], [0], [], [0, 1, 2], [0, 1, 2, 3], [0, 1, 2, 3, 4]] (cl_lt (by decide)) ?_
  refine HeadR.start (cl_lt (by decide)) ?_
  refine HeadR.det rfl (fun β hβ => (det_loadW59 rfl (List.Mem.tail _ (List.Mem.tail _ (List.Mem.head _))))) ?_
  refine HeadR.det rfl (fun β hβ => (det_call en76 rfl (fun w hb ho => tojac_ok ho.blocks))) ?_
  refine HeadR.det rfl (fun β hβ => (det_loadW59 rfl (List.Mem.tail _ (List.Mem.head _)))) ?_
  refine HeadR.det rfl (fun β hβ => (det_call en77 rfl (fun w hb ho => jadd_ok ho.blocks))) ?_
  refine HeadR.det rfl (fun β hβ => (det_call en78 rfl (fun w hb ho => point_ok ho.blocks))) ?_
  refine HeadR.done ⟨by kernel_rfl, fun β hβ => ?_⟩
  refine OpsW.norm (F' := [(5, _), (6, _), (7, _), (8, _), (9, _), (4, _), (3, _), (2, _)]) (H' := [(_, _), (_, _), (_, _)]) rfl rfl ?_
  refine OpsW.storeW59 rfl rfl (Upd.here) ?_
  refine sNext ?_
  refine W.keep (F' := [(4, _)]) ⟨rfl, trivial⟩ ?_
  refine sRet ?_
  exact done1 Tryd.results39 (rv_cellA ty59 rfl (List.Mem.head _) rfl) rfl

end Go.Cw

/- Scalars of bytes, and bits of bytes: the walks. Conditions: as many bytes as memory has. -/
namespace Go.Cw
open Go Go.Vm Go.RowKit Go.Proofs Go.Cu
attribute [local irreducible] W OpsW Det Fresh New Writes Vm.Pure Makes Changes ExternTo BuildTo ZeroTo FieldTo IndexTo BinTo SliceTo Vm.Enters
set_option linter.unusedVariables false
set_option linter.unusedSimpArgs false
variable {T : Nat → TypeId × Nat × Nat}


theorem scalar_ok {G' : Hp} {v : Value} {l : List Nat} (hB : Bs G' v l) (hl : l.length ≤ 281474976710656) {w : World} (hG : Blocks (G' ++ GH T) w)  : Vm.Pure Tryd.prog 38 #[v] w (encR (wide l)) := by
  refine pure_of_W (n := 6) (args := [v]) Tryd.func38 rfl Tryd.ntmps38 (Nat.le_of_ble_eq_true rfl) hG ?_
  refine sStart ?_
  refine sSeq ?_
  refine W.region ?_
  refine OpsW.fresh (fr_alloc z35r) rfl fun b2 => ?_
  refine sNext ?_
  refine sSeq ?_
  refine W.region ?_
  refine OpsW.det (det_move rfl) rfl ?_
  refine OpsW.new (new_call en51 rfl (fun w hb ho => Copy_ok (G' := G') hB hl ho.blocks)) rfl fun p4 hp4 => ?_
  refine OpsW.det (det_call en50 rfl (fun w hb ho => Wide_ok (G' := [(p4.1, blk (bcells l ++ []) 5)]) (Bs.of hB.small (Nat.le_refl _)) (by omega) (blocks_cons (hb _ (List.Mem.head _)) (fun p hp => ho.look (List.mem_append_right _ hp))))) rfl ?_
  refine OpsW.storeW35 rfl rfl (Upd.there (Upd.here)) ?_
  refine sNext ?_
  refine W.keep (F' := [(2, _)]) ⟨rfl, trivial⟩ ?_
  refine sRet ?_
  exact done1 Tryd.results38 (rv_cellA ty35 rfl (List.Mem.tail _ (List.Mem.head _)) rfl) rfl
theorem long_ok {a b c : Option Addr} {la lb lc ca cb cc : Nat} {w : World} (hG : Blocks (GH T) w)  : Vm.Pure Tryd.prog 35 #[.slice a la ca, .slice b lb cb, .slice c lc cc] w (.bool (longB la lb lc)) := by
  refine pure_of_W (n := 20) (args := [.slice a la ca, .slice b lb cb, .slice c lc cc]) Tryd.func35 rfl Tryd.ntmps35 (Nat.le_of_ble_eq_true rfl) hG ?_
  refine sStart ?_
  refine sSeq ?_
  refine W.region ?_
  refine OpsW.det (det_assign rfl) rfl ?_
  refine sNext ?_
  refine W.keep (F' := [(0, _), (1, _), (2, _)]) ⟨rfl, rfl, rfl, trivial⟩ ?_
  refine sSeq ?_
  refine W.region ?_
  refine OpsW.det (det_move rfl) rfl ?_
  refine OpsW.det (det_len u22 rfl) rfl ?_
  refine OpsW.test (det_gtr rfl rfl) rfl (fun hc9 => ?_) (fun hc9 => ?_)
  · skip
    refine OpsW.det (det_move rfl) rfl ?_
    refine OpsW.guard_no rfl rfl rfl ?_
    refine OpsW.guard_no rfl rfl rfl ?_
    refine OpsW.guard_no rfl rfl rfl ?_
    refine OpsW.det (det_pick rfl rfl) rfl ?_
    refine OpsW.det (det_move rfl) rfl ?_
    refine OpsW.guard_no rfl rfl rfl ?_
    refine OpsW.guard_no rfl rfl rfl ?_
    refine OpsW.guard_no rfl rfl rfl ?_
    refine OpsW.det (det_pick rfl rfl) rfl ?_
    refine OpsW.det (det_assign rfl) rfl ?_
    refine sNext ?_
    refine W.keep (F' := [(6, _)]) ⟨rfl, trivial⟩ ?_
    refine sRet ?_
    exact done1 Tryd.results35 (rv_tmp rfl) (congrArg Value.bool (by unfold longB; simp only [decide_eq_true_eq, decide_eq_false_iff_not] at *; rw [Bool.eq_iff_iff]; simp only [decide_eq_true_eq, Bool.or_eq_true, true_iff]; omega))
  · skip
    refine OpsW.det (det_move rfl) rfl ?_
    refine OpsW.guard_yes rfl rfl ?_
    refine OpsW.det (det_move rfl) rfl ?_
    refine OpsW.guard_yes rfl rfl ?_
    refine OpsW.det (det_len u22 rfl) rfl ?_
    refine OpsW.guard_yes rfl rfl ?_
    refine OpsW.test (det_gtr rfl rfl) rfl (fun hc13 => ?_) (fun hc13 => ?_)
    · skip
      refine OpsW.det (det_pick rfl rfl) rfl ?_
      refine OpsW.det (det_move rfl) rfl ?_
      refine OpsW.guard_no rfl rfl rfl ?_
      refine OpsW.guard_no rfl rfl rfl ?_
      refine OpsW.guard_no rfl rfl rfl ?_
      refine OpsW.det (det_pick rfl rfl) rfl ?_
      refine OpsW.det (det_assign rfl) rfl ?_
      refine sNext ?_
      refine W.keep (F' := [(6, _)]) ⟨rfl, trivial⟩ ?_
      refine sRet ?_
      exact done1 Tryd.results35 (rv_tmp rfl) (congrArg Value.bool (by unfold longB; simp only [decide_eq_true_eq, decide_eq_false_iff_not] at *; rw [Bool.eq_iff_iff]; simp only [decide_eq_true_eq, Bool.or_eq_true, true_iff]; omega))
    · skip
      refine OpsW.det (det_pick rfl rfl) rfl ?_
      refine OpsW.det (det_move rfl) rfl ?_
      refine OpsW.guard_yes rfl rfl ?_
      refine OpsW.det (det_move rfl) rfl ?_
      refine OpsW.guard_yes rfl rfl ?_
      refine OpsW.det (det_len u22 rfl) rfl ?_
      refine OpsW.guard_yes rfl rfl ?_
      refine OpsW.det (det_gtr rfl rfl) rfl ?_
      refine OpsW.det (det_pick rfl rfl) rfl ?_
      refine OpsW.det (det_assign rfl) rfl ?_
      refine sNext ?_
      refine W.keep (F' := [(6, _)]) ⟨rfl, trivial⟩ ?_
      refine sRet ?_
      exact done1 Tryd.results35 (rv_tmp rfl) (congrArg Value.bool (by unfold longB; simp only [decide_eq_true_eq, decide_eq_false_iff_not] at *; rw [Bool.eq_iff_iff]; simp only [decide_eq_true_eq, Bool.or_eq_true, true_iff]; omega))
theorem bit_ok {G' : Hp} {v : Value} {l : List Nat} {i bv : Nat} (hB : Bs G' v l) (hl : l.length ≤ 1000000000000) (hi : i ≤ 10000000000000) {w : World} (hG : Blocks ((bv, blk [v] 22) :: (G' ++ GH T)) w)  : Vm.Pure Tryd.prog 87 #[.int .i64 (i : Nat), .pointer (some ⟨bv, 0, none⟩)] w (.int .i64 (bitB l i : Nat)) := by
  obtain ⟨ad, cap, hvv⟩ := hB.shape
  refine pure_of_W (n := 23) (args := [.int .i64 (i : Nat), .pointer (some ⟨bv, 0, none⟩)]) Tryd.func87 rfl Tryd.ntmps87 (Nat.le_of_ble_eq_true rfl) hG ?_
  refine sStart ?_
  refine sSeq ?_
  subst hvv
  refine W.region ?_
  refine OpsW.det (det_assign rfl) rfl ?_
  refine sNext ?_
  refine W.keep (F' := [(0, _), (1, _)]) ⟨rfl, rfl, trivial⟩ ?_
  refine sSeq ?_
  refine sSeq ?_
  refine W.region ?_
  refine OpsW.det (det_move rfl) rfl ?_
  refine OpsW.det (det_loadC_ro tyc22 rfl (List.Mem.head _) rfl) rfl ?_
  refine OpsW.det (det_len u22 rfl) rfl ?_
  refine OpsW.det ((det_mul rfl rfl).to (v := .int .i64 ((8 * l.length : Nat) : Int)) (by rw [wrap_i64 (by omega)]; congr 1)) rfl ?_
  refine OpsW.det (det_geq rfl rfl) rfl ?_
  refine sNext ?_
  refine W.keep (F' := [(8, _), (0, _), (1, _)]) ⟨rfl, rfl, rfl, trivial⟩ ?_
  refine W.cond rfl (fun hc8 => ?_) (fun hc8 => ?_)
  · skip
    have hge : 8 * l.length ≤ i := by have h := hc8; simp only [decide_eq_true_eq] at h; omega
    refine sSeq ?_
    refine W.region ?_
    refine OpsW.det (det_assign rfl) rfl ?_
    refine sNext ?_
    refine W.keep (F' := [(3, _)]) ⟨rfl, trivial⟩ ?_
    refine sRet ?_
    exact done1 Tryd.results87 (rv_tmp rfl) (by rw [bitB_no hge]; rfl)
  · skip
    have hge : ¬ 8 * l.length ≤ i := by have h := hc8; simp only [decide_eq_false_iff_not] at h; omega
    have hlt : l.length - 1 - i / 8 < l.length := by omega
    obtain ⟨bk, o, cap', cs, e, fr, hv, hm, hcell⟩ := hB.at_ _ hlt
    simp only [Value.slice.injEq] at hv
    obtain ⟨rfl, _, rfl⟩ := hv
    refine sSkip ?_
    refine sSeq ?_
    refine W.region ?_
    refine OpsW.det (det_loadC_ro tyc22 rfl (List.Mem.head _) rfl) rfl ?_
    refine OpsW.det (det_loadC_ro tyc22 rfl (List.Mem.head _) rfl) rfl ?_
    refine OpsW.det (det_len u22 rfl) rfl ?_
    refine OpsW.det (det_subZ (c := ((l.length - 1 : Nat) : Int)) rfl rfl (by omega) (by omega)) rfl ?_
    refine OpsW.det (det_move rfl) rfl ?_
    refine OpsW.det (det_quoN (b := 8) rfl rfl (by decide) (by omega)) rfl ?_
    refine OpsW.det (det_subZ (c := ((l.length - 1 - i / 8 : Nat) : Int)) rfl rfl (by omega) (by omega)) rfl ?_
    refine OpsW.det (det_indexAddr_sl u22 sz5 rfl rfl ⟨by omega, by omega⟩) rfl ?_
    refine OpsW.det (det_loadC_ro ty5 rfl (List.Mem.tail _ (List.mem_append_left _ hm)) (show cs[o + ((l.length - 1 - i / 8 : Nat) : Int).toNat * 1]? = some (u8 l[l.length - 1 - i / 8]) by simpa using hcell)) rfl ?_
    refine OpsW.det (det_move rfl) rfl ?_
    refine OpsW.det (det_remN (b := 8) rfl rfl (by decide)) rfl ?_
    refine OpsW.det (det_shr8 rfl rfl (by omega)) rfl ?_
    refine OpsW.det (det_and8 rfl rfl (Nat.lt_of_le_of_lt (Nat.div_le_self _ _) (hB.small _ (List.getElem_mem hlt)))) rfl ?_
    refine OpsW.det ((det_conv u5 u3 rfl).to (v := .int .i64 ((l[l.length - 1 - i / 8] / 2 ^ (i % 8) % 2 : Nat) : Int)) (by rw [wrap_i64 (by omega)])) rfl ?_
    refine OpsW.det (det_assign rfl) rfl ?_
    refine sNext ?_
    refine W.keep (F' := [(3, _)]) ⟨rfl, trivial⟩ ?_
    refine sRet ?_
    exact done1 Tryd.results87 (rv_tmp rfl) (by rw [bitB_yes hge hlt])

end Go.Cw
