/-
  Part 6 of the joined texts of the curves' laws: The group law of a curve y^2 = x^3 + b over a field: sums of points go in any order and may be taken together as one likes.
  Conditions: those that each theorem states.
-/
import Derived.Test.YtndonmbemehefaaDoorP5
import Derived.Test.YtndonmbemehefaaDoorP4
import Derived.Test.YtndonmbemehefaaDoorP2
/- The group law of a curve y^2 = x^3 + b over a field: sums of points go in any order and may be taken together as one likes. -/
namespace Go.Ec
open Go.Cu
open CR
set_option linter.unusedVariables false
set_option linter.unusedSimpArgs false
set_option linter.unusedSectionVars false
set_option linter.constructorNameAsVariable false

section
variable {ρ : Type} [Dom ρ]
instance : Std.Associative (α := Idl ρ) (· * ·) := ⟨imul_assoc⟩
instance : Std.Commutative (α := Idl ρ) (· * ·) := ⟨imul_comm⟩
theorem gen2_line {X Y x1 y1 l xi : ρ} : gen2 (X - xi) (Y - (y1 + l * (xi - x1))) = gen2 (X - xi) (Y - y1 - l * (X - x1)) := by
  rw [← gen2_shift (X - xi) (Y - (y1 + l * (xi - x1))) (-l), (show ((Y - (y1 + (l * (xi - x1)))) + ((-l) * (X - xi))) = ((Y - y1) - (l * (X - x1))) from ring_id (fun vi_ => vget vi_ [X, Y, x1, y1, l, xi]) (.add (.sub (.var 1) (.add (.var 3) (.mul (.var 4) (.sub (.var 5) (.var 2))))) (.mul (.neg (.var 4)) (.sub (.var 0) (.var 5)))) (.sub (.sub (.var 1) (.var 3)) (.mul (.var 4) (.sub (.var 0) (.var 2)))) (by kernel_rfl))]
theorem line_prod {X Y x1 y1 x2 l b : ρ} (H0 : Y * Y = X * X * X + b) (H1 : y1 * y1 = x1 * x1 * x1 + b) (T : x1 * x1 + x1 * x2 + x2 * x2 = l * (y1 + y1 + l * (x2 - x1))) :
    (X - x1) * ((X - x2) * (X - (l * l - x1 - x2))) = (Y - y1 - l * (X - x1)) * (Y + y1 + l * (X - x1)) :=
  (eq_of_sub (Eq.trans (show (((X - x1) * ((X - x2) * (X - (((l * l) - x1) - x2)))) - (((Y - y1) - (l * (X - x1))) * ((Y + y1) + (l * (X - x1))))) = ((((-1) * ((Y * Y) - (((X * X) * X) + b))) + ((x1 - X) * ((((x1 * x1) + (x1 * x2)) + (x2 * x2)) - (l * ((y1 + y1) + (l * (x2 - x1))))))) + (1 * ((y1 * y1) - (((x1 * x1) * x1) + b)))) from ring_id (fun vi_ => vget vi_ [X, Y, x1, y1, x2, l, b]) (.sub (.mul (.sub (.var 0) (.var 2)) (.mul (.sub (.var 0) (.var 4)) (.sub (.var 0) (.sub (.sub (.mul (.var 5) (.var 5)) (.var 2)) (.var 4))))) (.mul (.sub (.sub (.var 1) (.var 3)) (.mul (.var 5) (.sub (.var 0) (.var 2)))) (.add (.add (.var 1) (.var 3)) (.mul (.var 5) (.sub (.var 0) (.var 2)))))) (.add (.add (.mul (.neg .one) (.sub (.mul (.var 1) (.var 1)) (.add (.mul (.mul (.var 0) (.var 0)) (.var 0)) (.var 6)))) (.mul (.sub (.var 2) (.var 0)) (.sub (.add (.add (.mul (.var 2) (.var 2)) (.mul (.var 2) (.var 4))) (.mul (.var 4) (.var 4))) (.mul (.var 5) (.add (.add (.var 3) (.var 3)) (.mul (.var 5) (.sub (.var 4) (.var 2)))))))) (.mul .one (.sub (.mul (.var 3) (.var 3)) (.add (.mul (.mul (.var 2) (.var 2)) (.var 2)) (.var 6))))) (by kernel_rfl)) (lz2 (lz2 (lz H0) (lz T)) (lz H1))))
theorem line_le {X Y x1 y1 x2 l b : ρ} (H0 : Y * Y = X * X * X + b) (H1 : y1 * y1 = x1 * x1 * x1 + b) (T : x1 * x1 + x1 * x2 + x2 * x2 = l * (y1 + y1 + l * (x2 - x1))) {w : ρ}
    (hw : (gen2 (X - x1) (Y - y1) * (gen2 (X - x2) (Y - (y1 + l * (x2 - x1))) * gen2 (X - (l * l - x1 - x2)) (Y - (y1 + l * (l * l - x1 - x2 - x1))))).mem w) : (prin (Y - y1 - l * (X - x1))).mem w := by
  rw [gen2_line, gen2_line] at hw
  have e : gen2 (X - x1) (Y - y1) = gen2 (X - x1) (Y - y1 - l * (X - x1)) := by
    have h := gen2_line (X := X) (Y := Y) (x1 := x1) (y1 := y1) (l := l) (xi := x1)
    rwa [(show (y1 + (l * (x1 - x1))) = y1 from ring_id (fun vi_ => vget vi_ [y1, l, x1]) (.add (.var 0) (.mul (.var 1) (.sub (.var 2) (.var 2)))) (.var 0) (by kernel_rfl))] at h
  rw [e] at hw
  exact mul3_le (line_prod H0 H1 T) hw
/-- The three points of a line make the line's function. -/
theorem line_eq {X Y x1 y1 x2 l b y2 x3 y3 : ρ} (H0 : Y * Y = X * X * X + b) (H1 : y1 * y1 = x1 * x1 * x1 + b) (T : x1 * x1 + x1 * x2 + x2 * x2 = l * (y1 + y1 + l * (x2 - x1)))
    (h2 : y2 = y1 + l * (x2 - x1)) (hx3 : x3 = l * l - x1 - x2) (hy3 : y3 = y1 + l * (x3 - x1))
    (i1 : gen2 (X - x1) (Y - y1) * gen2 (X - x1) (Y - -y1) = prin (X - x1)) (i2 : gen2 (X - x2) (Y - y2) * gen2 (X - x2) (Y - -y2) = prin (X - x2)) (i3 : gen2 (X - x3) (Y - y3) * gen2 (X - x3) (Y - -y3) = prin (X - x3))
    (hn : Y + y1 + l * (X - x1) ≠ 0) : gen2 (X - x1) (Y - y1) * (gen2 (X - x2) (Y - y2) * gen2 (X - x3) (Y - y3)) = prin (Y - y1 - l * (X - x1)) := by
  have hle : ∀ w, (gen2 (X - x1) (Y - y1) * (gen2 (X - x2) (Y - y2) * gen2 (X - x3) (Y - y3))).mem w → (prin (Y - y1 - l * (X - x1))).mem w := fun w hw => by
    subst h2; subst hx3; subst hy3
    exact line_le H0 H1 T hw
  have hle' : ∀ w, (gen2 (X - x1) (Y - -y1) * (gen2 (X - x2) (Y - -y2) * gen2 (X - x3) (Y - -y3))).mem w → (prin (Y + y1 + l * (X - x1))).mem w := fun w hw => by
    subst h2; subst hx3; subst hy3
    have h := line_le (X := X) (Y := Y) (x1 := x1) (y1 := -y1) (x2 := x2) (l := -l) (b := b) (w := w) H0 (eq_of_sub (Eq.trans (show (((-y1) * (-y1)) - (((x1 * x1) * x1) + b)) = (1 * ((y1 * y1) - (((x1 * x1) * x1) + b))) from ring_id (fun vi_ => vget vi_ [y1, x1, b]) (.sub (.mul (.neg (.var 0)) (.neg (.var 0))) (.add (.mul (.mul (.var 1) (.var 1)) (.var 1)) (.var 2))) (.mul .one (.sub (.mul (.var 0) (.var 0)) (.add (.mul (.mul (.var 1) (.var 1)) (.var 1)) (.var 2)))) (by kernel_rfl)) (lz H1)))
      (eq_of_sub (Eq.trans (show ((((x1 * x1) + (x1 * x2)) + (x2 * x2)) - ((-l) * (((-y1) + (-y1)) + ((-l) * (x2 - x1))))) = (1 * ((((x1 * x1) + (x1 * x2)) + (x2 * x2)) - (l * ((y1 + y1) + (l * (x2 - x1)))))) from ring_id (fun vi_ => vget vi_ [x1, x2, y1, l]) (.sub (.add (.add (.mul (.var 0) (.var 0)) (.mul (.var 0) (.var 1))) (.mul (.var 1) (.var 1))) (.mul (.neg (.var 3)) (.add (.add (.neg (.var 2)) (.neg (.var 2))) (.mul (.neg (.var 3)) (.sub (.var 1) (.var 0)))))) (.mul .one (.sub (.add (.add (.mul (.var 0) (.var 0)) (.mul (.var 0) (.var 1))) (.mul (.var 1) (.var 1))) (.mul (.var 3) (.add (.add (.var 2) (.var 2)) (.mul (.var 3) (.sub (.var 1) (.var 0))))))) (by kernel_rfl)) (lz T)))
    rw [(show ((-y1) + ((-l) * (x2 - x1))) = (-(y1 + (l * (x2 - x1)))) from ring_id (fun vi_ => vget vi_ [y1, l, x1, x2]) (.add (.neg (.var 0)) (.mul (.neg (.var 1)) (.sub (.var 3) (.var 2)))) (.neg (.add (.var 0) (.mul (.var 1) (.sub (.var 3) (.var 2))))) (by kernel_rfl)), (show ((((-l) * (-l)) - x1) - x2) = (((l * l) - x1) - x2) from ring_id (fun vi_ => vget vi_ [l, x1, x2]) (.sub (.sub (.mul (.neg (.var 0)) (.neg (.var 0))) (.var 1)) (.var 2)) (.sub (.sub (.mul (.var 0) (.var 0)) (.var 1)) (.var 2)) (by kernel_rfl)), (show ((-y1) + ((-l) * ((((l * l) - x1) - x2) - x1))) = (-(y1 + (l * ((((l * l) - x1) - x2) - x1)))) from ring_id (fun vi_ => vget vi_ [y1, l, x1, x2]) (.add (.neg (.var 0)) (.mul (.neg (.var 1)) (.sub (.sub (.sub (.mul (.var 1) (.var 1)) (.var 2)) (.var 3)) (.var 2)))) (.neg (.add (.var 0) (.mul (.var 1) (.sub (.sub (.sub (.mul (.var 1) (.var 1)) (.var 2)) (.var 3)) (.var 2))))) (by kernel_rfl)),
      (show ((Y - (-y1)) - ((-l) * (X - x1))) = ((Y + y1) + (l * (X - x1))) from ring_id (fun vi_ => vget vi_ [X, Y, y1, l, x1]) (.sub (.sub (.var 1) (.neg (.var 2))) (.mul (.neg (.var 3)) (.sub (.var 0) (.var 4)))) (.add (.add (.var 1) (.var 2)) (.mul (.var 3) (.sub (.var 0) (.var 4)))) (by kernel_rfl))] at h
    exact h hw
  have hprod : (X - x1) * ((X - x2) * (X - x3)) = (Y - y1 - l * (X - x1)) * (Y + y1 + l * (X - x1)) := by
    subst hx3; exact line_prod H0 H1 T
  have hAA : gen2 (X - x1) (Y - y1) * (gen2 (X - x2) (Y - y2) * gen2 (X - x3) (Y - y3)) * (gen2 (X - x1) (Y - -y1) * (gen2 (X - x2) (Y - -y2) * gen2 (X - x3) (Y - -y3))) = prin ((Y - y1 - l * (X - x1)) * (Y + y1 + l * (X - x1))) := by
    have : gen2 (X - x1) (Y - y1) * (gen2 (X - x2) (Y - y2) * gen2 (X - x3) (Y - y3)) * (gen2 (X - x1) (Y - -y1) * (gen2 (X - x2) (Y - -y2) * gen2 (X - x3) (Y - -y3))) =
      (gen2 (X - x1) (Y - y1) * gen2 (X - x1) (Y - -y1)) * ((gen2 (X - x2) (Y - y2) * gen2 (X - x2) (Y - -y2)) * (gen2 (X - x3) (Y - y3) * gen2 (X - x3) (Y - -y3))) := by ac_rfl
    rw [this, i1, i2, i3, prin_mul, prin_mul, hprod]
  refine Idl.ext fun w => ⟨hle w, fun ⟨u, hu⟩ => ?_⟩
  have hL : (gen2 (X - x1) (Y - y1) * (gen2 (X - x2) (Y - y2) * gen2 (X - x3) (Y - y3))).mem (Y - y1 - l * (X - x1)) := by
    have h1 : (prin (Y + y1 + l * (X - x1)) * (gen2 (X - x1) (Y - y1) * (gen2 (X - x2) (Y - y2) * gen2 (X - x3) (Y - y3)))).mem ((Y - y1 - l * (X - x1)) * (Y + y1 + l * (X - x1))) := by
      have h0 := prin_self ((Y - y1 - l * (X - x1)) * (Y + y1 + l * (X - x1)))
      rw [← hAA] at h0
      rw [imul_comm (prin _)]
      exact imul_le (fun u v hu hv => imem hu (hle' v hv)) h0
    obtain ⟨a, ha, he⟩ := mem_prin_mul.1 h1
    rw [mul_comm] at he
    rw [Dom.cancel hn he]
    exact ha
  rw [hu, mul_comm]
  exact Idl.mul _ _ _ hL
end

section
variable {α : Type} [Fld α]
class Gd (B : α) : Prop where
  two : (1 : α) + 1 ≠ 0
  three : (1 : α) + 1 + 1 ≠ 0
  b : B ≠ 0
instance cdDom {B : α} : Dom (Cd B) where
  toCR := inferInstance
  mul_ne := Cd.mul_ne
  one_ne := fun h => deg_one.ne (congrArg Cd.a h)
def Aff (B : α) (p : α × α) : Prop := p.2 * p.2 = p.1 * p.1 * p.1 + B
def On (B : α) (p : α × α) : Prop := p = (0, 0) ∨ Aff B p
theorem Aff.ne {B : α} [Gd B] {p : α × α} (h : Aff B p) : p ≠ (0, 0) := by
  rintro rfl
  have h : (0 : α) * 0 = 0 * 0 * 0 + B := h
  rw [mul_zero', zero_mul', zero_add] at h
  exact Gd.b h.symm
/-- A line through two points, or the tangent. -/
structure Ln (l : α) (p q : α × α) : Prop where
  at_ : q.2 = p.2 + l * (q.1 - p.1)
  tan : p.1 * p.1 + p.1 * q.1 + q.1 * q.1 = l * (p.2 + p.2 + l * (q.1 - p.1))
def third (l : α) (p q : α × α) : α × α := (l * l - p.1 - q.1, l * (p.1 - (l * l - p.1 - q.1)) - p.2)
theorem third_aff {B l : α} {p q : α × α} (hp : Aff B p) (h : Ln l p q) : Aff B (third l p q) := by
  have H1 : p.2 * p.2 = p.1 * p.1 * p.1 + B := hp
  have T := h.tan
  exact (eq_of_sub (Eq.trans (show ((((l * (p.1 - (((l * l) - p.1) - q.1))) - p.2) * ((l * (p.1 - (((l * l) - p.1) - q.1))) - p.2)) - ((((((l * l) - p.1) - q.1) * (((l * l) - p.1) - q.1)) * (((l * l) - p.1) - q.1)) + B)) = (((p.1 - (((l * l) - p.1) - q.1)) * ((((p.1 * p.1) + (p.1 * q.1)) + (q.1 * q.1)) - (l * ((p.2 + p.2) + (l * (q.1 - p.1)))))) + (1 * ((p.2 * p.2) - (((p.1 * p.1) * p.1) + B)))) from ring_id (fun vi_ => vget vi_ [p.1, p.2, q.1, l, B]) (.sub (.mul (.sub (.mul (.var 3) (.sub (.var 0) (.sub (.sub (.mul (.var 3) (.var 3)) (.var 0)) (.var 2)))) (.var 1)) (.sub (.mul (.var 3) (.sub (.var 0) (.sub (.sub (.mul (.var 3) (.var 3)) (.var 0)) (.var 2)))) (.var 1))) (.add (.mul (.mul (.sub (.sub (.mul (.var 3) (.var 3)) (.var 0)) (.var 2)) (.sub (.sub (.mul (.var 3) (.var 3)) (.var 0)) (.var 2))) (.sub (.sub (.mul (.var 3) (.var 3)) (.var 0)) (.var 2))) (.var 4))) (.add (.mul (.sub (.var 0) (.sub (.sub (.mul (.var 3) (.var 3)) (.var 0)) (.var 2))) (.sub (.add (.add (.mul (.var 0) (.var 0)) (.mul (.var 0) (.var 2))) (.mul (.var 2) (.var 2))) (.mul (.var 3) (.add (.add (.var 1) (.var 1)) (.mul (.var 3) (.sub (.var 2) (.var 0))))))) (.mul .one (.sub (.mul (.var 1) (.var 1)) (.add (.mul (.mul (.var 0) (.var 0)) (.var 0)) (.var 4))))) (by kernel_rfl)) (lz2 (lz T) (lz H1))))
theorem half (B : α) [hG : Gd B] {y : α} (hy : y ≠ 0) : y + y ≠ 0 := by
  rw [(show (y + y) = ((1 + 1) * y) from ring_id (fun vi_ => vget vi_ [y]) (.add (.var 0) (.var 0)) (.mul (.add .one .one) (.var 0)) (by kernel_rfl))]
  exact Fld.mul_ne hG.two hy
variable {B : α} [hG : Gd B]
theorem CXsub_ne (x : α) : (CX - kc x : Cd B) ≠ 0 := fun h => (deg_Xsub x).ne (congrArg Cd.a h)
def iaff (B : α) (p : α × α) : Idl (Cd B) := gen2 (CX - kc p.1) (CY - kc p.2)
theorem aff_lift {p : α × α} (h : Aff B p) : (kc p.2 * kc p.2 : Cd B) = kc p.1 * kc p.1 * kc p.1 + kc B := by
  rw [← kc_mul, ← kc_mul, ← kc_mul, ← kc_add]; exact congrArg kc h
theorem inv_pt {x y : α} (h : Aff B (x, y)) : (gen2 (CX - kc x) (CY - kc y) * gen2 (CX - kc x) (CY - -kc y) : Idl (Cd B)) = prin (CX - kc x) := by
  have H1 : (kc y * kc y : Cd B) = kc x * kc x * kc x + kc B := aff_lift h
  have H0 : (CY * CY : Cd B) = CX * CX * CX + kc B := CY_sq
  generalize hX : (CX : Cd B) = X at *
  generalize hY : (CY : Cd B) = Y at *
  have key : (gen2 (X - kc x) (Y - kc y) * gen2 (X - kc x) (Y - -kc y)).mem (X - kc x) := by
    by_cases hy : y = 0
    · have hx : x ≠ 0 := by
        rintro rfl; subst hy
        exact h.ne rfl
      have h3 : x * x + x * x + x * x ≠ 0 := by
        rw [(show (((x * x) + (x * x)) + (x * x)) = (((1 + 1) + 1) * (x * x)) from ring_id (fun vi_ => vget vi_ [x]) (.add (.add (.mul (.var 0) (.var 0)) (.mul (.var 0) (.var 0))) (.mul (.var 0) (.var 0))) (.mul (.add (.add .one .one) .one) (.mul (.var 0) (.var 0))) (by kernel_rfl))]
        exact Fld.mul_ne hG.three (Fld.mul_ne hx hx)
      have hk := congrArg (kc (B := B)) (Fld.mul_finv _ h3)
      rw [kc_mul, kc_add, kc_add, kc_mul, kc_one] at hk
      generalize kc (B := B) (Fld.finv (x * x + x * x + x * x)) = k at hk
      have h1 := imem (gen2_r (X - kc x) (Y - kc y)) (gen2_r (X - kc x) (Y - -kc y))
      have h2 := imem (gen2_l (X - kc x) (Y - kc y)) (gen2_l (X - kc x) (Y - -kc y))
      have h4 := Idl.add _ _ _ (Idl.mul _ k _ h1) (Idl.mul _ (-(k * (X + kc x + kc x))) _ h2)
      generalize kc (B := B) x = u at *
      generalize kc (B := B) y = v at *
      generalize kc (B := B) B = b at *
      rwa [(eq_of_sub (Eq.trans (show (((k * ((Y - v) * (Y - (-v)))) + ((-(k * ((X + u) + u))) * ((X - u) * (X - u)))) - (X - u)) = (((k * ((Y * Y) - (((X * X) * X) + b))) + ((-k) * ((v * v) - (((u * u) * u) + b)))) + ((X - u) * (((((u * u) + (u * u)) + (u * u)) * k) - 1))) from ring_id (fun vi_ => vget vi_ [X, Y, u, v, k, b]) (.sub (.add (.mul (.var 4) (.mul (.sub (.var 1) (.var 3)) (.sub (.var 1) (.neg (.var 3))))) (.mul (.neg (.mul (.var 4) (.add (.add (.var 0) (.var 2)) (.var 2)))) (.mul (.sub (.var 0) (.var 2)) (.sub (.var 0) (.var 2))))) (.sub (.var 0) (.var 2))) (.add (.add (.mul (.var 4) (.sub (.mul (.var 1) (.var 1)) (.add (.mul (.mul (.var 0) (.var 0)) (.var 0)) (.var 5)))) (.mul (.neg (.var 4)) (.sub (.mul (.var 3) (.var 3)) (.add (.mul (.mul (.var 2) (.var 2)) (.var 2)) (.var 5))))) (.mul (.sub (.var 0) (.var 2)) (.sub (.mul (.add (.add (.mul (.var 2) (.var 2)) (.mul (.var 2) (.var 2))) (.mul (.var 2) (.var 2))) (.var 4)) .one))) (by kernel_rfl)) (lz2 (lz2 (lz H0) (lz H1)) (lz hk))))] at h4
    · have hk := congrArg (kc (B := B)) (Fld.mul_finv _ (half B hy))
      rw [kc_mul, kc_add, kc_one] at hk
      generalize kc (B := B) (Fld.finv (y + y)) = k at hk
      have h1 := imem (gen2_l (X - kc x) (Y - kc y)) (gen2_r (X - kc x) (Y - -kc y))
      have h2 := imem (gen2_r (X - kc x) (Y - kc y)) (gen2_l (X - kc x) (Y - -kc y))
      have h4 := Idl.add _ _ _ (Idl.mul _ k _ h1) (Idl.mul _ (-k) _ h2)
      generalize kc (B := B) x = u at *
      generalize kc (B := B) y = v at *
      rwa [(eq_of_sub (Eq.trans (show (((k * ((X - u) * (Y - (-v)))) + ((-k) * ((Y - v) * (X - u)))) - (X - u)) = ((X - u) * (((v + v) * k) - 1)) from ring_id (fun vi_ => vget vi_ [X, Y, u, v, k]) (.sub (.add (.mul (.var 4) (.mul (.sub (.var 0) (.var 2)) (.sub (.var 1) (.neg (.var 3))))) (.mul (.neg (.var 4)) (.mul (.sub (.var 1) (.var 3)) (.sub (.var 0) (.var 2))))) (.sub (.var 0) (.var 2))) (.mul (.sub (.var 0) (.var 2)) (.sub (.mul (.add (.var 3) (.var 3)) (.var 4)) .one)) (by kernel_rfl)) (lz hk)))] at h4
  refine Idl.ext fun w => ⟨imul_le (fun a c ha hc => ?_), fun ⟨u, hu⟩ => by rw [hu, mul_comm]; exact Idl.mul _ _ _ key⟩
  obtain ⟨p, q, rfl⟩ := ha
  obtain ⟨r, s, rfl⟩ := hc
  generalize kc (B := B) x = u at *
  generalize kc (B := B) y = v at *
  generalize kc (B := B) B = b at *
  exact ⟨p * r * (X - u) + p * s * (Y + v) + q * r * (Y - v) + q * s * (X * X + X * u + u * u),
    (eq_of_sub (Eq.trans (show ((((p * (X - u)) + (q * (Y - v))) * ((r * (X - u)) + (s * (Y - (-v))))) - ((X - u) * (((((p * r) * (X - u)) + ((p * s) * (Y + v))) + ((q * r) * (Y - v))) + ((q * s) * (((X * X) + (X * u)) + (u * u)))))) = (((q * s) * ((Y * Y) - (((X * X) * X) + b))) + ((-(q * s)) * ((v * v) - (((u * u) * u) + b)))) from ring_id (fun vi_ => vget vi_ [p, q, r, s, X, Y, u, v, b]) (.sub (.mul (.add (.mul (.var 0) (.sub (.var 4) (.var 6))) (.mul (.var 1) (.sub (.var 5) (.var 7)))) (.add (.mul (.var 2) (.sub (.var 4) (.var 6))) (.mul (.var 3) (.sub (.var 5) (.neg (.var 7)))))) (.mul (.sub (.var 4) (.var 6)) (.add (.add (.add (.mul (.mul (.var 0) (.var 2)) (.sub (.var 4) (.var 6))) (.mul (.mul (.var 0) (.var 3)) (.add (.var 5) (.var 7)))) (.mul (.mul (.var 1) (.var 2)) (.sub (.var 5) (.var 7)))) (.mul (.mul (.var 1) (.var 3)) (.add (.add (.mul (.var 4) (.var 4)) (.mul (.var 4) (.var 6))) (.mul (.var 6) (.var 6))))))) (.add (.mul (.mul (.var 1) (.var 3)) (.sub (.mul (.var 5) (.var 5)) (.add (.mul (.mul (.var 4) (.var 4)) (.var 4)) (.var 8)))) (.mul (.neg (.mul (.var 1) (.var 3))) (.sub (.mul (.var 7) (.var 7)) (.add (.mul (.mul (.var 6) (.var 6)) (.var 6)) (.var 8))))) (by kernel_rfl)) (lz2 (lz H0) (lz H1))))⟩
theorem line_ne {l x1 y1 : α} : (CY + kc y1 + kc l * (CX - kc x1) : Cd B) ≠ 0 := by
  intro h
  have h1 : (1 : Pol α) + 0 + (cst l * (0 - 0) + 0 * (PX - cst x1)) = 0 := congrArg Cd.b h
  rw [(show ((1 + 0) + (((cst l) * (0 - 0)) + (0 * (PX - cst x1)))) = 1 from ring_id (fun vi_ => vget vi_ [cst l, PX - cst x1]) (.add (.add .one .zero) (.add (.mul (.var 0) (.sub .zero .zero)) (.mul .zero (.var 1)))) .one (by kernel_rfl))] at h1
  exact deg_one.ne h1
theorem line_ne' {l x1 y1 : α} : (CY - kc y1 - kc l * (CX - kc x1) : Cd B) ≠ 0 := by
  intro h
  have h1 : (1 : Pol α) - 0 - (cst l * (0 - 0) + 0 * (PX - cst x1)) = 0 := congrArg Cd.b h
  rw [(show ((1 - 0) - (((cst l) * (0 - 0)) + (0 * (PX - cst x1)))) = 1 from ring_id (fun vi_ => vget vi_ [cst l, PX - cst x1]) (.sub (.sub .one .zero) (.add (.mul (.var 0) (.sub .zero .zero)) (.mul .zero (.var 1)))) .one (by kernel_rfl))] at h1
  exact deg_one.ne h1
/-- Of a line's points: their sum is of their product's class. -/
theorem cls_line {l : α} {p q : α × α} (hp : Aff B p) (hq : Aff B q) (h : Ln l p q) : Rel (iaff B p * iaff B q) (iaff B (third l p q)) := by
  obtain ⟨x1, y1⟩ := p
  obtain ⟨x2, y2⟩ := q
  have H0 : (CY * CY : Cd B) = CX * CX * CX + kc B := CY_sq
  have H1 := aff_lift hp
  have h3 := third_aff hp h
  have T := congrArg (kc (B := B)) h.tan
  have h2 := congrArg (kc (B := B)) h.at_
  simp only [kc_add, kc_mul, kc_sub] at T h2 H1
  have i1 := inv_pt hp
  have i2 := inv_pt hq
  have h3' : Aff B (l * l - x1 - x2, y1 + l * (l * l - x1 - x2 - x1)) := by
    have e : Aff B (l * l - x1 - x2, l * (x1 - (l * l - x1 - x2)) - y1) := h3
    have e : (l * (x1 - (l * l - x1 - x2)) - y1) * (l * (x1 - (l * l - x1 - x2)) - y1) = (l * l - x1 - x2) * (l * l - x1 - x2) * (l * l - x1 - x2) + B := e
    exact (eq_of_sub (Eq.trans (show (((y1 + (l * ((((l * l) - x1) - x2) - x1))) * (y1 + (l * ((((l * l) - x1) - x2) - x1)))) - ((((((l * l) - x1) - x2) * (((l * l) - x1) - x2)) * (((l * l) - x1) - x2)) + B)) = (1 * ((((l * (x1 - (((l * l) - x1) - x2))) - y1) * ((l * (x1 - (((l * l) - x1) - x2))) - y1)) - ((((((l * l) - x1) - x2) * (((l * l) - x1) - x2)) * (((l * l) - x1) - x2)) + B))) from ring_id (fun vi_ => vget vi_ [x1, x2, y1, l, B]) (.sub (.mul (.add (.var 2) (.mul (.var 3) (.sub (.sub (.sub (.mul (.var 3) (.var 3)) (.var 0)) (.var 1)) (.var 0)))) (.add (.var 2) (.mul (.var 3) (.sub (.sub (.sub (.mul (.var 3) (.var 3)) (.var 0)) (.var 1)) (.var 0))))) (.add (.mul (.mul (.sub (.sub (.mul (.var 3) (.var 3)) (.var 0)) (.var 1)) (.sub (.sub (.mul (.var 3) (.var 3)) (.var 0)) (.var 1))) (.sub (.sub (.mul (.var 3) (.var 3)) (.var 0)) (.var 1))) (.var 4))) (.mul .one (.sub (.mul (.sub (.mul (.var 3) (.sub (.var 0) (.sub (.sub (.mul (.var 3) (.var 3)) (.var 0)) (.var 1)))) (.var 2)) (.sub (.mul (.var 3) (.sub (.var 0) (.sub (.sub (.mul (.var 3) (.var 3)) (.var 0)) (.var 1)))) (.var 2))) (.add (.mul (.mul (.sub (.sub (.mul (.var 3) (.var 3)) (.var 0)) (.var 1)) (.sub (.sub (.mul (.var 3) (.var 3)) (.var 0)) (.var 1))) (.sub (.sub (.mul (.var 3) (.var 3)) (.var 0)) (.var 1))) (.var 4)))) (by kernel_rfl)) (lz e)))
  have i3 := inv_pt h3'
  have hl := line_eq (X := CX) (Y := CY) (l := kc l) H0 H1 T h2 (x3 := kc (l * l - x1 - x2)) (y3 := kc (y1 + l * (l * l - x1 - x2 - x1))) (by simp only [kc_add, kc_mul, kc_sub]) (by simp only [kc_add, kc_mul, kc_sub]) i1 i2 i3 line_ne
  refine ⟨CX - kc (l * l - x1 - x2), CY - kc y1 - kc l * (CX - kc x1), CXsub_ne _, line_ne', ?_⟩
  have ey : (-kc (y1 + l * (l * l - x1 - x2 - x1)) : Cd B) = kc (l * (x1 - (l * l - x1 - x2)) - y1) := by
    rw [← kc_neg, (show (-(y1 + (l * ((((l * l) - x1) - x2) - x1)))) = ((l * (x1 - (((l * l) - x1) - x2))) - y1) from ring_id (fun vi_ => vget vi_ [x1, x2, y1, l]) (.neg (.add (.var 2) (.mul (.var 3) (.sub (.sub (.sub (.mul (.var 3) (.var 3)) (.var 0)) (.var 1)) (.var 0))))) (.sub (.mul (.var 3) (.sub (.var 0) (.sub (.sub (.mul (.var 3) (.var 3)) (.var 0)) (.var 1)))) (.var 2)) (by kernel_rfl))]
  rw [← hl, ← i3, ey]
  show gen2 _ _ * gen2 _ _ * (gen2 _ _ * gen2 _ _) = gen2 _ _ * (gen2 _ _ * gen2 _ _) * gen2 _ _
  ac_rfl

variable [DecidableEq α]
def slope (p q : α × α) : α := if p.1 = q.1 then (p.1 * p.1 + p.1 * p.1 + p.1 * p.1) * Fld.finv (p.2 + p.2) else (q.2 - p.2) * Fld.finv (q.1 - p.1)
/-- The sum of two points. -/
def cadd (p q : α × α) : α × α := if p = (0, 0) then q else if q = (0, 0) then p else if p.1 = q.1 ∧ p.2 + q.2 = 0 then (0, 0) else third (slope p q) p q
def cneg (p : α × α) : α × α := if p = (0, 0) then p else (p.1, 0 - p.2)
theorem sub_ne {a b : α} (h : a ≠ b) : b - a ≠ 0 := fun e => h (eq_of_sub e).symm
theorem slope_ok {p q : α × α} (hp : Aff B p) (hq : Aff B q) (h : ¬ (p.1 = q.1 ∧ p.2 + q.2 = 0)) : Ln (slope p q) p q := by
  obtain ⟨x1, y1⟩ := p
  obtain ⟨x2, y2⟩ := q
  have H1 : y1 * y1 = x1 * x1 * x1 + B := hp
  have H2 : y2 * y2 = x2 * x2 * x2 + B := hq
  by_cases hx : x1 = x2
  · subst hx
    have hs : y1 + y2 ≠ 0 := fun e => h ⟨rfl, e⟩
    have he : y1 = y2 := by
      apply Classical.byContradiction
      intro hne
      refine Fld.mul_ne (sub_ne hne) hs ?_
      exact (eq_of_sub (Eq.trans (show (((y2 - y1) * (y1 + y2)) - 0) = ((1 * ((y2 * y2) - (((x1 * x1) * x1) + B))) + ((-1) * ((y1 * y1) - (((x1 * x1) * x1) + B)))) from ring_id (fun vi_ => vget vi_ [y1, y2, x1, B]) (.sub (.mul (.sub (.var 1) (.var 0)) (.add (.var 0) (.var 1))) .zero) (.add (.mul .one (.sub (.mul (.var 1) (.var 1)) (.add (.mul (.mul (.var 2) (.var 2)) (.var 2)) (.var 3)))) (.mul (.neg .one) (.sub (.mul (.var 0) (.var 0)) (.add (.mul (.mul (.var 2) (.var 2)) (.var 2)) (.var 3))))) (by kernel_rfl)) (lz2 (lz H2) (lz H1))))
    subst he
    have hk := Fld.mul_finv _ hs
    unfold slope
    simp only [if_true]
    generalize Fld.finv (y1 + y1) = k at hk
    refine ⟨?_, ?_⟩
    · show y1 = y1 + (x1 * x1 + x1 * x1 + x1 * x1) * k * (x1 - x1)
      exact (show y1 = (y1 + (((((x1 * x1) + (x1 * x1)) + (x1 * x1)) * k) * (x1 - x1))) from ring_id (fun vi_ => vget vi_ [y1, x1, k]) (.var 0) (.add (.var 0) (.mul (.mul (.add (.add (.mul (.var 1) (.var 1)) (.mul (.var 1) (.var 1))) (.mul (.var 1) (.var 1))) (.var 2)) (.sub (.var 1) (.var 1)))) (by kernel_rfl))
    · show x1 * x1 + x1 * x1 + x1 * x1 = (x1 * x1 + x1 * x1 + x1 * x1) * k * (y1 + y1 + (x1 * x1 + x1 * x1 + x1 * x1) * k * (x1 - x1))
      exact (eq_of_sub (Eq.trans (show ((((x1 * x1) + (x1 * x1)) + (x1 * x1)) - (((((x1 * x1) + (x1 * x1)) + (x1 * x1)) * k) * ((y1 + y1) + (((((x1 * x1) + (x1 * x1)) + (x1 * x1)) * k) * (x1 - x1))))) = ((-(((x1 * x1) + (x1 * x1)) + (x1 * x1))) * (((y1 + y1) * k) - 1)) from ring_id (fun vi_ => vget vi_ [y1, x1, k]) (.sub (.add (.add (.mul (.var 1) (.var 1)) (.mul (.var 1) (.var 1))) (.mul (.var 1) (.var 1))) (.mul (.mul (.add (.add (.mul (.var 1) (.var 1)) (.mul (.var 1) (.var 1))) (.mul (.var 1) (.var 1))) (.var 2)) (.add (.add (.var 0) (.var 0)) (.mul (.mul (.add (.add (.mul (.var 1) (.var 1)) (.mul (.var 1) (.var 1))) (.mul (.var 1) (.var 1))) (.var 2)) (.sub (.var 1) (.var 1)))))) (.mul (.neg (.add (.add (.mul (.var 1) (.var 1)) (.mul (.var 1) (.var 1))) (.mul (.var 1) (.var 1)))) (.sub (.mul (.add (.var 0) (.var 0)) (.var 2)) .one)) (by kernel_rfl)) (lz hk)))
  · have hk := Fld.mul_finv _ (sub_ne hx)
    unfold slope
    simp only [if_neg hx]
    generalize Fld.finv (x2 - x1) = k at hk
    have hl : (y2 - y1) * k * (x2 - x1) = y2 - y1 := (eq_of_sub (Eq.trans (show ((((y2 - y1) * k) * (x2 - x1)) - (y2 - y1)) = ((y2 - y1) * (((x2 - x1) * k) - 1)) from ring_id (fun vi_ => vget vi_ [y1, y2, x1, x2, k]) (.sub (.mul (.mul (.sub (.var 1) (.var 0)) (.var 4)) (.sub (.var 3) (.var 2))) (.sub (.var 1) (.var 0))) (.mul (.sub (.var 1) (.var 0)) (.sub (.mul (.sub (.var 3) (.var 2)) (.var 4)) .one)) (by kernel_rfl)) (lz hk)))
    generalize (y2 - y1) * k = l at hl
    refine ⟨?_, ?_⟩
    · show y2 = y1 + l * (x2 - x1)
      rw [hl]; exact (show y2 = (y1 + (y2 - y1)) from ring_id (fun vi_ => vget vi_ [y1, y2]) (.var 1) (.add (.var 0) (.sub (.var 1) (.var 0))) (by kernel_rfl))
    · show x1 * x1 + x1 * x2 + x2 * x2 = l * (y1 + y1 + l * (x2 - x1))
      apply Classical.byContradiction
      intro hne
      refine Fld.mul_ne (sub_ne hx) (sub_ne (fun e => hne e.symm)) ?_
      exact (eq_of_sub (Eq.trans (show (((x2 - x1) * ((((x1 * x1) + (x1 * x2)) + (x2 * x2)) - (l * ((y1 + y1) + (l * (x2 - x1)))))) - 0) = (((1 * ((y1 * y1) - (((x1 * x1) * x1) + B))) + ((-1) * ((y2 * y2) - (((x2 * x2) * x2) + B)))) + ((-((y1 + y2) + (l * (x2 - x1)))) * ((l * (x2 - x1)) - (y2 - y1)))) from ring_id (fun vi_ => vget vi_ [x1, x2, y1, y2, l, B]) (.sub (.mul (.sub (.var 1) (.var 0)) (.sub (.add (.add (.mul (.var 0) (.var 0)) (.mul (.var 0) (.var 1))) (.mul (.var 1) (.var 1))) (.mul (.var 4) (.add (.add (.var 2) (.var 2)) (.mul (.var 4) (.sub (.var 1) (.var 0))))))) .zero) (.add (.add (.mul .one (.sub (.mul (.var 2) (.var 2)) (.add (.mul (.mul (.var 0) (.var 0)) (.var 0)) (.var 5)))) (.mul (.neg .one) (.sub (.mul (.var 3) (.var 3)) (.add (.mul (.mul (.var 1) (.var 1)) (.var 1)) (.var 5))))) (.mul (.neg (.add (.add (.var 2) (.var 3)) (.mul (.var 4) (.sub (.var 1) (.var 0))))) (.sub (.mul (.var 4) (.sub (.var 1) (.var 0))) (.sub (.var 3) (.var 2))))) (by kernel_rfl)) (lz2 (lz2 (lz H1) (lz H2)) (lz hl))))
theorem cadd_zero (p : α × α) : cadd p (0, 0) = p := by
  unfold cadd
  by_cases h : p = (0, 0)
  · rw [if_pos h, h]
  · rw [if_neg h, if_pos rfl]
theorem zero_cadd (p : α × α) : cadd (0, 0) p = p := if_pos rfl
theorem On.cadd {p q : α × α} (hp : On B p) (hq : On B q) : On B (cadd p q) := by
  rcases hp with rfl | hp
  · rw [zero_cadd]; exact hq
  rcases hq with rfl | hq
  · rw [cadd_zero]; exact .inr hp
  unfold Ec.cadd
  rw [if_neg hp.ne, if_neg hq.ne]
  split
  · exact .inl rfl
  · rename_i h; exact .inr (third_aff hp (slope_ok hp hq h))
theorem Aff.neg {p : α × α} (h : Aff B p) : Aff B (p.1, 0 - p.2) := by
  have H1 : p.2 * p.2 = p.1 * p.1 * p.1 + B := h
  exact (eq_of_sub (Eq.trans (show (((0 - p.2) * (0 - p.2)) - (((p.1 * p.1) * p.1) + B)) = (1 * ((p.2 * p.2) - (((p.1 * p.1) * p.1) + B))) from ring_id (fun vi_ => vget vi_ [p.1, p.2, B]) (.sub (.mul (.sub .zero (.var 1)) (.sub .zero (.var 1))) (.add (.mul (.mul (.var 0) (.var 0)) (.var 0)) (.var 2))) (.mul .one (.sub (.mul (.var 1) (.var 1)) (.add (.mul (.mul (.var 0) (.var 0)) (.var 0)) (.var 2)))) (by kernel_rfl)) (lz H1)))
theorem cneg_zero : cneg ((0, 0) : α × α) = (0, 0) := if_pos rfl
theorem On.cneg {p : α × α} (hp : On B p) : On B (cneg p) := by
  rcases hp with rfl | hp
  · rw [cneg_zero]; exact .inl rfl
  · unfold Ec.cneg; rw [if_neg hp.ne]; exact .inr hp.neg
theorem cneg_cneg {p : α × α} (hp : On B p) : cneg (cneg p) = p := by
  rcases hp with rfl | hp
  · rw [cneg_zero, cneg_zero]
  · have h1 : cneg p = (p.1, 0 - p.2) := if_neg hp.ne
    rw [h1]
    unfold cneg
    rw [if_neg hp.neg.ne]
    exact Prod.ext rfl (show (0 - (0 - p.2)) = p.2 from ring_id (fun vi_ => vget vi_ [p.2]) (.sub .zero (.sub .zero (.var 0))) (.var 0) (by kernel_rfl))
theorem cadd_cneg {p : α × α} (hp : On B p) : cadd p (cneg p) = (0, 0) := by
  rcases hp with rfl | hp
  · rw [cneg_zero, zero_cadd]
  · have h1 : cneg p = (p.1, 0 - p.2) := if_neg hp.ne
    rw [h1]
    unfold cadd
    rw [if_neg hp.ne, if_neg hp.neg.ne, if_pos ⟨rfl, (show (p.2 + (0 - p.2)) = 0 from ring_id (fun vi_ => vget vi_ [p.2]) (.add (.var 0) (.sub .zero (.var 0))) .zero (by kernel_rfl))⟩]
def ip (B : α) (p : α × α) : Idl (Cd B) := if p = (0, 0) then prin 1 else iaff B p
theorem ip_zero : ip B (0, 0) = prin 1 := if_pos rfl
theorem ip_aff {p : α × α} (h : Aff B p) : ip B p = iaff B p := if_neg h.ne
theorem cls_add {p q : α × α} (hp : On B p) (hq : On B q) : Rel (ip B p * ip B q) (ip B (cadd p q)) := by
  rcases hp with rfl | hp
  · rw [zero_cadd, ip_zero, prin_one]; exact Rel.refl _
  rcases hq with rfl | hq
  · rw [cadd_zero, ip_zero, imul_comm, prin_one]; exact Rel.refl _
  by_cases h : p.1 = q.1 ∧ p.2 + q.2 = 0
  · have e : cadd p q = (0, 0) := by unfold cadd; rw [if_neg hp.ne, if_neg hq.ne, if_pos h]
    rw [e, ip_zero, ip_aff hp, ip_aff hq]
    obtain ⟨x1, y1⟩ := p
    obtain ⟨x2, y2⟩ := q
    obtain ⟨rfl, h2⟩ : x1 = x2 ∧ y1 + y2 = 0 := h
    have e2 : y2 = -y1 := by
      exact (eq_of_sub (Eq.trans (show (y2 - (-y1)) = (1 * ((y1 + y2) - 0)) from ring_id (fun vi_ => vget vi_ [y1, y2]) (.sub (.var 1) (.neg (.var 0))) (.mul .one (.sub (.add (.var 0) (.var 1)) .zero)) (by kernel_rfl)) (lz h2)))
    subst e2
    have hi := inv_pt hp
    rw [← kc_neg] at hi
    exact ⟨1, CX - kc x1, Dom.one_ne, CXsub_ne _, by
      rw [prin_one, imul_comm (prin _) (prin 1), prin_one]
      exact hi⟩
  · have e : cadd p q = third (slope p q) p q := by unfold cadd; rw [if_neg hp.ne, if_neg hq.ne, if_neg h]
    have hl := slope_ok hp hq h
    rw [e, ip_aff hp, ip_aff hq, ip_aff (third_aff hp hl)]
    exact cls_line hp hq hl
theorem not_prin {p : α × α} (hp : Aff B p) : ¬ Rel (iaff B p) (prin 1) := by
  rintro ⟨f, g, hf, hg, h⟩
  have e : prin f * iaff B p = prin g := by rw [h, imul_comm, prin_one]
  -- g = f w for some w of the ideal; then w divides what the point makes nought
  have hg1 : (prin f * iaff B p).mem g := by rw [e]; exact prin_self g
  obtain ⟨w, hw, rfl⟩ := mem_prin_mul.1 hg1
  have hX : (prin (f * w)).mem (f * (CX - kc p.1)) := by rw [← e]; exact mem_prin_mul.2 ⟨_, gen2_l _ _, rfl⟩
  have hY : (prin (f * w)).mem (f * (CY - kc p.2)) := by rw [← e]; exact mem_prin_mul.2 ⟨_, gen2_r _ _, rfl⟩
  obtain ⟨s, hs⟩ := hX
  obtain ⟨t, ht⟩ := hY
  rw [mul_assoc] at hs ht
  obtain ⟨wb, wa⟩ := no_common (Dom.cancel hf hs).symm (Dom.cancel hf ht).symm
  -- so one lies in the ideal
  have hw1 : w = kc (w.a.co 0) := Cd.ext (Pol.ext fun n => by
    cases n with
    | zero => rfl
    | succ n => rw [wa.2 (n + 1) (Nat.succ_pos n)]; rfl) wb
  have h1 : (iaff B p).mem 1 := by
    have := (iaff B p).mul (kc (Fld.finv (w.a.co 0))) w hw
    have e1 : (kc (Fld.finv (w.a.co 0)) * w : Cd B) = 1 := by
      have h0 := wa.1
      generalize w.a.co 0 = c at hw1 h0
      rw [hw1, ← kc_mul, mul_comm, Fld.mul_finv c h0, kc_one]
    rw [e1] at this
    exact this
  obtain ⟨r, s, hrs⟩ := h1
  have H1 := aff_lift hp
  have H0 : (CY * CY : Cd B) = CX * CX * CX + kc B := CY_sq
  have key : (CY + kc p.2 : Cd B) = (CX - kc p.1) * (r * (CY + kc p.2) + s * (CX * CX + CX * kc p.1 + kc p.1 * kc p.1)) := by
    generalize (CX : Cd B) = X at *
    generalize (CY : Cd B) = Y at *
    generalize kc (B := B) p.1 = u at *
    generalize kc (B := B) p.2 = v at *
    generalize kc (B := B) B = b at *
    exact (eq_of_sub (Eq.trans (show ((Y + v) - ((X - u) * ((r * (Y + v)) + (s * (((X * X) + (X * u)) + (u * u)))))) = ((((Y + v) * (1 - ((r * (X - u)) + (s * (Y - v))))) + (s * ((Y * Y) - (((X * X) * X) + b)))) + ((-s) * ((v * v) - (((u * u) * u) + b)))) from ring_id (fun vi_ => vget vi_ [X, Y, u, v, b, r, s]) (.sub (.add (.var 1) (.var 3)) (.mul (.sub (.var 0) (.var 2)) (.add (.mul (.var 5) (.add (.var 1) (.var 3))) (.mul (.var 6) (.add (.add (.mul (.var 0) (.var 0)) (.mul (.var 0) (.var 2))) (.mul (.var 2) (.var 2))))))) (.add (.add (.mul (.add (.var 1) (.var 3)) (.sub .one (.add (.mul (.var 5) (.sub (.var 0) (.var 2))) (.mul (.var 6) (.sub (.var 1) (.var 3)))))) (.mul (.var 6) (.sub (.mul (.var 1) (.var 1)) (.add (.mul (.mul (.var 0) (.var 0)) (.var 0)) (.var 4))))) (.mul (.neg (.var 6)) (.sub (.mul (.var 3) (.var 3)) (.add (.mul (.mul (.var 2) (.var 2)) (.var 2)) (.var 4))))) (by kernel_rfl)) (lz2 (lz2 (lz hrs) (lz H0)) (lz H1))))
  generalize r * (CY + kc p.2) + s * (CX * CX + CX * kc p.1 + kc p.1 * kc p.1) = v at key
  have hb : (1 : Pol α) + 0 = (PX - cst p.1) * v.b + (0 - 0) * v.a := congrArg Cd.b key
  rw [(show (((PX - cst p.1) * v.b) + ((0 - 0) * v.a)) = ((PX - cst p.1) * v.b) from ring_id (fun vi_ => vget vi_ [v.a, v.b, PX - cst p.1]) (.add (.mul (.var 2) (.var 1)) (.mul (.sub .zero .zero) (.var 0))) (.mul (.var 2) (.var 1)) (by kernel_rfl)), add_zero'] at hb
  have hv : v.b ≠ 0 := by
    intro e; rw [e, mul_zero'] at hb; exact deg_one.ne hb
  obtain ⟨n, hn⟩ := Deg.of hv
  have := (hb ▸ deg_one).unique ((deg_Xsub p.1).mul hn)
  omega
theorem cadd_O {p q : α × α} (hp : On B p) (hq : On B q) (h : cadd p q = (0, 0)) : p = cneg q := by
  rcases hp with rfl | hp
  · rw [zero_cadd] at h; rw [h, cneg_zero]
  rcases hq with rfl | hq
  · rw [cadd_zero] at h; exact absurd h hp.ne
  by_cases hc : p.1 = q.1 ∧ p.2 + q.2 = 0
  · unfold cneg
    rw [if_neg hq.ne]
    have h2 := hc.2
    exact Prod.ext hc.1 (eq_of_sub (Eq.trans (show (p.2 - (0 - q.2)) = (1 * ((p.2 + q.2) - 0)) from ring_id (fun vi_ => vget vi_ [p.2, q.2]) (.sub (.var 0) (.sub .zero (.var 1))) (.mul .one (.sub (.add (.var 0) (.var 1)) .zero)) (by kernel_rfl)) (lz h2)))
  · unfold cadd at h
    rw [if_neg hp.ne, if_neg hq.ne, if_neg hc] at h
    exact absurd h (third_aff hp (slope_ok hp hq hc)).ne
/-- Points of one class are the same. -/
theorem cls_inj {p q : α × α} (hp : On B p) (hq : On B q) (h : Rel (ip B p) (ip B q)) : p = q := by
  have h1 := (cls_add hp hq.cneg).symm.trans ((h.mul (Rel.refl (ip B (cneg q)))).trans (cls_add hq hq.cneg))
  rw [cadd_cneg hq, ip_zero] at h1
  rcases hp.cadd hq.cneg with h2 | h2
  · rw [cadd_O hp hq.cneg h2, cneg_cneg hq]
  · rw [ip_aff h2] at h1; exact absurd h1 (not_prin h2)
theorem cadd_comm {p q : α × α} (hp : On B p) (hq : On B q) : cadd p q = cadd q p :=
  cls_inj (hp.cadd hq) (hq.cadd hp) ((cls_add hp hq).symm.trans ((Rel.of_eq (imul_comm _ _)).trans (cls_add hq hp)))
theorem cadd_assoc {p q r : α × α} (hp : On B p) (hq : On B q) (hr : On B r) : cadd (cadd p q) r = cadd p (cadd q r) := by
  refine cls_inj ((hp.cadd hq).cadd hr) (hp.cadd (hq.cadd hr)) ?_
  have h1 := ((cls_add hp hq).mul (Rel.refl (ip B r))).trans (cls_add (hp.cadd hq) hr)
  have h2 := ((Rel.refl (ip B p)).mul (cls_add hq hr)).trans (cls_add hp (hq.cadd hr))
  exact h1.symm.trans ((Rel.of_eq (imul_assoc _ _ _)).trans h2)
end
end Go.Ec

/- Abelian groups and multiples; points by three coordinates, and their sums. -/
namespace Go.Ec
open Go.Cu
open CR
set_option linter.unusedVariables false
set_option linter.unusedSimpArgs false
set_option linter.unusedSectionVars false
set_option linter.constructorNameAsVariable false

class AG (γ : Type) extends Add γ, Neg γ, Zero γ where
  acomm : ∀ a b : γ, a + b = b + a
  aassoc : ∀ a b c : γ, a + b + c = a + (b + c)
  zero_a : ∀ a : γ, 0 + a = a
  neg_a : ∀ a : γ, -a + a = 0
section
variable {γ : Type} [AG γ]
open AG
theorem a_zero (a : γ) : a + 0 = a := by rw [acomm, zero_a]
theorem a_neg (a : γ) : a + -a = 0 := by rw [acomm, neg_a]
theorem a_cancel {a b c : γ} (h : a + b = a + c) : b = c := by
  have := congrArg (-a + ·) h
  simpa only [← aassoc, neg_a, zero_a] using this
theorem a_neg_neg (a : γ) : - -a = a := a_cancel (a := -a) (by rw [a_neg, neg_a])
theorem a_neg_zero : -(0 : γ) = 0 := by have := neg_a (0 : γ); rwa [a_zero] at this
theorem a_neg_eq {a b : γ} (h : a + b = 0) : b = -a := a_cancel (a := a) (by rw [h, a_neg])
theorem a_four (a b c d : γ) : a + b + (c + d) = a + c + (b + d) := by
  rw [aassoc, ← aassoc b, acomm b c, aassoc c, ← aassoc]
theorem a_neg_add (a b : γ) : -(a + b) = -a + -b := (a_neg_eq (by rw [a_four, a_neg, a_neg, zero_a])).symm
def nmul : Nat → γ → γ
  | 0, _ => 0
  | n + 1, x => nmul n x + x
theorem nmul_add (a : Nat) (x : γ) : ∀ b, nmul (a + b) x = nmul a x + nmul b x
  | 0 => by rw [Nat.add_zero, nmul, a_zero]
  | b + 1 => by rw [← Nat.add_assoc, nmul, nmul_add a x b, nmul, aassoc]
theorem nmul_one (x : γ) : nmul 1 x = x := zero_a x
theorem nmul_zero : ∀ n, nmul n (0 : γ) = 0
  | 0 => rfl
  | n + 1 => by rw [nmul, nmul_zero n, zero_a]
theorem nmul_mul (a : Nat) (x : γ) : ∀ b, nmul (a * b) x = nmul b (nmul a x)
  | 0 => rfl
  | b + 1 => by rw [Nat.mul_succ, nmul_add, nmul_mul a x b, nmul]
theorem nmul_dist (x y : γ) : ∀ n, nmul n (x + y) = nmul n x + nmul n y
  | 0 => (zero_a 0).symm
  | n + 1 => by rw [nmul, nmul_dist x y n, nmul, nmul, a_four]
theorem nmul_neg (x : γ) : ∀ n, nmul n (-x) = -nmul n x
  | 0 => a_neg_zero.symm
  | n + 1 => by rw [nmul, nmul_neg x n, nmul, a_neg_add]
theorem nmul_two (x : γ) : nmul 2 x = x + x := by rw [nmul, nmul_one]
theorem nmul_comm (a b : Nat) (x : γ) : nmul a (nmul b x) = nmul b (nmul a x) := by rw [← nmul_mul, ← nmul_mul, Nat.mul_comm]
theorem nmul_mod {r : Nat} {x : γ} (h : nmul r x = 0) (a : Nat) : nmul (a % r) x = nmul a x := by
  conv => rhs; rw [← Nat.div_add_mod a r]
  rw [nmul_add, nmul_mul, h, nmul_zero, zero_a]
end

section
variable {α : Type} [Fld α] [DecidableEq α]
/-- The points of the curve. -/
def Gp (B : α) : Type := { p : α × α // On B p }
theorem Gp.ext {B : α} {p q : Gp B} (h : p.1 = q.1) : p = q := Subtype.ext h
instance {B : α} [Gd B] : AG (Gp B) where
  add p q := ⟨cadd p.1 q.1, p.2.cadd q.2⟩
  neg p := ⟨cneg p.1, p.2.cneg⟩
  zero := ⟨(0, 0), .inl rfl⟩
  acomm p q := Gp.ext (cadd_comm p.2 q.2)
  aassoc p q r := Gp.ext (cadd_assoc p.2 q.2 r.2)
  zero_a p := Gp.ext (zero_cadd p.1)
  neg_a p := Gp.ext ((cadd_comm p.2.cneg p.2).trans (cadd_cneg p.2))

abbrev J3 (α : Type) := α × α × α
def gtoj (p : α × α) : J3 α := if p = (0, 0) then (0, 0, 0) else (p.1, p.2, 1)
def gdbl (p : J3 α) : J3 α :=
  if p.2.2 = 0 then (0, 0, 0) else if p.2.1 = 0 then (0, 0, 0) else
    let a := p.1 * p.1
    let b := p.2.1 * p.2.1
    let c := b * b
    let d0 := (p.1 + b) * (p.1 + b) - a - c
    let d := d0 + d0
    let e := a + a + a
    let f := e * e - d - d
    let c4 := (c + c) + (c + c)
    (f, e * (d - f) - c4 - c4, p.2.1 * p.2.2 + p.2.1 * p.2.2)
def gaddH (p : J3 α) (q : α × α) : α := q.1 * (p.2.2 * p.2.2) - p.1
def gaddR (p : J3 α) (q : α × α) : α := q.2 * p.2.2 * (p.2.2 * p.2.2) - p.2.1
def gaddN (p : J3 α) (q : α × α) : J3 α :=
  let zz := p.2.2 * p.2.2
  let h := gaddH p q
  let r := gaddR p q + gaddR p q
  let hh := h * h
  let i := (hh + hh) + (hh + hh)
  let j := h * i
  let v := p.1 * i
  let x := r * r - j - v - v
  let yj := p.2.1 * j
  (x, r * (v - x) - yj - yj, (p.2.2 + h) * (p.2.2 + h) - zz - hh)
def gadd (p : J3 α) (q : α × α) : J3 α :=
  if q = (0, 0) then p else if p.2.2 = 0 then gtoj q else if gaddH p q = 0 then (if gaddR p q = 0 then gdbl p else (0, 0, 0)) else gaddN p q
def gpt (p : J3 α) : α × α := if p.2.2 = 0 then (0, 0) else
  let i := Fld.finv p.2.2
  let i2 := i * i
  (p.1 * i2, p.2.1 * i2 * i)
/-- The coordinates are those of the one at infinity, or of a point of the curve. -/
def JOk (B : α) (j : J3 α) : Prop := j.2.2 = 0 ∨ Aff B (gpt j)
variable {B : α} [hG : Gd B]
theorem JOk.on {j : J3 α} (h : JOk B j) : On B (gpt j) := by
  rcases h with h | h
  · exact .inl (if_pos h)
  · exact .inr h
theorem finv_one : Fld.finv (1 : α) = 1 := by have := Fld.mul_finv (1 : α) Fld.one_ne; rwa [one_mul] at this
theorem finv_ne {a : α} (h : a ≠ 0) : Fld.finv a ≠ 0 := fun e => Fld.one_ne (α := α) (by rw [← Fld.mul_finv a h, e, mul_zero'])
theorem Fld.cancel {a b c : α} (ha : a ≠ 0) (h : a * b = a * c) : b = c := by
  apply Classical.byContradiction
  intro hne
  refine Fld.mul_ne ha (b := b - c) (fun e => hne (eq_of_sub e)) ?_
  rw [sub_eq, mul_add, mul_comm a (-c), neg_mul', mul_comm c, h, add_neg]
theorem gpt_toj {p : α × α} : gpt (gtoj p) = p := by
  unfold gtoj
  split
  · rename_i h; rw [h]; exact if_pos rfl
  · unfold gpt
    rw [if_neg (Fld.one_ne (α := α))]
    simp only [finv_one, one_mul, mul_one']
theorem JOk.toj {p : α × α} (h : On B p) : JOk B (gtoj p) := by
  rcases h with rfl | h
  · exact .inl (by unfold gtoj; rw [if_pos rfl])
  · exact .inr (by rw [gpt_toj]; exact h)
theorem third_at {l l' : α} {p q : α × α} {u : α × α} (h : l = l') (h2 : third l' p q = u) : third l p q = u := by rw [h, h2]
theorem dbl_pure {x y z i w : α} (hz : z * i = 1) (hw : (y * z + y * z) * w = 1) : i = (y + y) * w :=
  (eq_of_sub (Eq.trans (show (i - ((y + y) * w)) = (((-i) * ((((y * z) + (y * z)) * w) - 1)) + (((y + y) * w) * ((z * i) - 1))) from ring_id (fun vi_ => vget vi_ [y, z, i, w]) (.sub (.var 2) (.mul (.add (.var 0) (.var 0)) (.var 3))) (.add (.mul (.neg (.var 2)) (.sub (.mul (.add (.mul (.var 0) (.var 1)) (.mul (.var 0) (.var 1))) (.var 3)) .one)) (.mul (.mul (.add (.var 0) (.var 0)) (.var 3)) (.sub (.mul (.var 1) (.var 2)) .one))) (by kernel_rfl)) (lz2 (lz hw) (lz hz))))
theorem gdbl_ok {j : J3 α} (hj : JOk B j) : gpt (gdbl j) = cadd (gpt j) (gpt j) ∧ JOk B (gdbl j) := by
  obtain ⟨x, y, z⟩ := j
  by_cases hz : z = 0
  · have e1 : gdbl (x, y, z) = (0, 0, 0) := if_pos hz
    have e2 : gpt (x, y, z) = (0, 0) := if_pos hz
    rw [e1, e2, zero_cadd]
    exact ⟨if_pos rfl, .inl rfl⟩
  have e2 : gpt (x, y, z) = (x * (Fld.finv z * Fld.finv z), y * (Fld.finv z * Fld.finv z) * Fld.finv z) := if_neg hz
  by_cases hy : y = 0
  · have e1 : gdbl (x, y, z) = (0, 0, 0) := (if_neg hz).trans (if_pos hy)
    rw [e1]
    refine ⟨?_, .inl rfl⟩
    rw [show gpt ((0, 0, 0) : J3 α) = (0, 0) from if_pos rfl, e2]
    subst hy
    by_cases h0 : (x * (Fld.finv z * Fld.finv z), (0 : α) * (Fld.finv z * Fld.finv z) * Fld.finv z) = (0, 0)
    · rw [h0, zero_cadd]
    · unfold cadd
      rw [if_neg h0, if_neg h0, if_pos ⟨rfl, (show (((0 * ((Fld.finv z) * (Fld.finv z))) * (Fld.finv z)) + ((0 * ((Fld.finv z) * (Fld.finv z))) * (Fld.finv z))) = 0 from ring_id (fun vi_ => vget vi_ [Fld.finv z]) (.add (.mul (.mul .zero (.mul (.var 0) (.var 0))) (.var 0)) (.mul (.mul .zero (.mul (.var 0) (.var 0))) (.var 0))) .zero (by kernel_rfl))⟩]
  have haff : Aff B (gpt (x, y, z)) := hj.resolve_left hz
  have hi := Fld.mul_finv z hz
  have hyy : y * (Fld.finv z * Fld.finv z) * Fld.finv z ≠ 0 := Fld.mul_ne (Fld.mul_ne hy (Fld.mul_ne (finv_ne hz) (finv_ne hz))) (finv_ne hz)
  have hz3 : y * z + y * z ≠ 0 := half B (Fld.mul_ne hy hz)
  have hw := Fld.mul_finv _ hz3
  rw [e2] at haff
  generalize hie : Fld.finv z = i at *
  have hne := haff.ne
  have hnn : ¬ ((x * (i * i), y * (i * i) * i).1 = (x * (i * i), y * (i * i) * i).1 ∧ (x * (i * i), y * (i * i) * i).2 + (x * (i * i), y * (i * i) * i).2 = 0) := fun h => half B hyy h.2
  have hl := slope_ok haff haff hnn
  have e3 : cadd (x * (i * i), y * (i * i) * i) (x * (i * i), y * (i * i) * i) = third (slope (x * (i * i), y * (i * i) * i) (x * (i * i), y * (i * i) * i)) (x * (i * i), y * (i * i) * i) (x * (i * i), y * (i * i) * i) := by
    unfold cadd; rw [if_neg hne, if_neg hne, if_neg hnn]
  have h3a := third_aff haff hl
  have T := hl.tan
  generalize slope (x * (i * i), y * (i * i) * i) (x * (i * i), y * (i * i) * i) = l at *
  have e1 : gdbl (x, y, z) = ((x * x + x * x + x * x) * (x * x + x * x + x * x) - ((x + y * y) * (x + y * y) - x * x - y * y * (y * y) + ((x + y * y) * (x + y * y) - x * x - y * y * (y * y))) - ((x + y * y) * (x + y * y) - x * x - y * y * (y * y) + ((x + y * y) * (x + y * y) - x * x - y * y * (y * y))),
      (x * x + x * x + x * x) * (((x + y * y) * (x + y * y) - x * x - y * y * (y * y) + ((x + y * y) * (x + y * y) - x * x - y * y * (y * y))) - ((x * x + x * x + x * x) * (x * x + x * x + x * x) - ((x + y * y) * (x + y * y) - x * x - y * y * (y * y) + ((x + y * y) * (x + y * y) - x * x - y * y * (y * y))) - ((x + y * y) * (x + y * y) - x * x - y * y * (y * y) + ((x + y * y) * (x + y * y) - x * x - y * y * (y * y))))) - (y * y * (y * y) + y * y * (y * y) + (y * y * (y * y) + y * y * (y * y))) - (y * y * (y * y) + y * y * (y * y) + (y * y * (y * y) + y * y * (y * y))),
      y * z + y * z) := (if_neg hz).trans (if_neg hy)
  have e4 := dbl_pure (x := x) hi hw
  have hle : l = (x * x + x * x + x * x) * Fld.finv (y * z + y * z) := by
    have hyy' := half B hyy
    refine Fld.cancel hyy' ?_
    have T : x * (i * i) * (x * (i * i)) + x * (i * i) * (x * (i * i)) + x * (i * i) * (x * (i * i)) = l * (y * (i * i) * i + y * (i * i) * i + l * (x * (i * i) - x * (i * i))) := T
    generalize Fld.finv (y * z + y * z) = w at *
    exact (eq_of_sub (Eq.trans (show (((((y * (i * i)) * i) + ((y * (i * i)) * i)) * l) - ((((y * (i * i)) * i) + ((y * (i * i)) * i)) * ((((x * x) + (x * x)) + (x * x)) * w))) = (((-1) * (((((x * (i * i)) * (x * (i * i))) + ((x * (i * i)) * (x * (i * i)))) + ((x * (i * i)) * (x * (i * i)))) - (l * ((((y * (i * i)) * i) + ((y * (i * i)) * i)) + (l * ((x * (i * i)) - (x * (i * i)))))))) + (((((((x * x) + (x * x)) + (x * x)) * i) * i) * i) * (i - ((y + y) * w)))) from ring_id (fun vi_ => vget vi_ [x, y, i, w, l]) (.sub (.mul (.add (.mul (.mul (.var 1) (.mul (.var 2) (.var 2))) (.var 2)) (.mul (.mul (.var 1) (.mul (.var 2) (.var 2))) (.var 2))) (.var 4)) (.mul (.add (.mul (.mul (.var 1) (.mul (.var 2) (.var 2))) (.var 2)) (.mul (.mul (.var 1) (.mul (.var 2) (.var 2))) (.var 2))) (.mul (.add (.add (.mul (.var 0) (.var 0)) (.mul (.var 0) (.var 0))) (.mul (.var 0) (.var 0))) (.var 3)))) (.add (.mul (.neg .one) (.sub (.add (.add (.mul (.mul (.var 0) (.mul (.var 2) (.var 2))) (.mul (.var 0) (.mul (.var 2) (.var 2)))) (.mul (.mul (.var 0) (.mul (.var 2) (.var 2))) (.mul (.var 0) (.mul (.var 2) (.var 2))))) (.mul (.mul (.var 0) (.mul (.var 2) (.var 2))) (.mul (.var 0) (.mul (.var 2) (.var 2))))) (.mul (.var 4) (.add (.add (.mul (.mul (.var 1) (.mul (.var 2) (.var 2))) (.var 2)) (.mul (.mul (.var 1) (.mul (.var 2) (.var 2))) (.var 2))) (.mul (.var 4) (.sub (.mul (.var 0) (.mul (.var 2) (.var 2))) (.mul (.var 0) (.mul (.var 2) (.var 2))))))))) (.mul (.mul (.mul (.mul (.add (.add (.mul (.var 0) (.var 0)) (.mul (.var 0) (.var 0))) (.mul (.var 0) (.var 0))) (.var 2)) (.var 2)) (.var 2)) (.sub (.var 2) (.mul (.add (.var 1) (.var 1)) (.var 3))))) (by kernel_rfl)) (lz2 (lz T) (lz e4))))
  have e5 : gpt (gdbl (x, y, z)) = third l (x * (i * i), y * (i * i) * i) (x * (i * i), y * (i * i) * i) := by
    rw [e1]
    unfold gpt third
    rw [if_neg hz3]
    generalize Fld.finv (y * z + y * z) = w at *
    rw [hle, e4]
    refine Prod.ext ?_ ?_
    · exact (show (((((((x * x) + (x * x)) + (x * x)) * (((x * x) + (x * x)) + (x * x))) - (((((x + (y * y)) * (x + (y * y))) - (x * x)) - ((y * y) * (y * y))) + ((((x + (y * y)) * (x + (y * y))) - (x * x)) - ((y * y) * (y * y))))) - (((((x + (y * y)) * (x + (y * y))) - (x * x)) - ((y * y) * (y * y))) + ((((x + (y * y)) * (x + (y * y))) - (x * x)) - ((y * y) * (y * y))))) * (w * w)) = (((((((x * x) + (x * x)) + (x * x)) * w) * ((((x * x) + (x * x)) + (x * x)) * w)) - (x * (((y + y) * w) * ((y + y) * w)))) - (x * (((y + y) * w) * ((y + y) * w)))) from ring_id (fun vi_ => vget vi_ [x, y, w]) (.mul (.sub (.sub (.mul (.add (.add (.mul (.var 0) (.var 0)) (.mul (.var 0) (.var 0))) (.mul (.var 0) (.var 0))) (.add (.add (.mul (.var 0) (.var 0)) (.mul (.var 0) (.var 0))) (.mul (.var 0) (.var 0)))) (.add (.sub (.sub (.mul (.add (.var 0) (.mul (.var 1) (.var 1))) (.add (.var 0) (.mul (.var 1) (.var 1)))) (.mul (.var 0) (.var 0))) (.mul (.mul (.var 1) (.var 1)) (.mul (.var 1) (.var 1)))) (.sub (.sub (.mul (.add (.var 0) (.mul (.var 1) (.var 1))) (.add (.var 0) (.mul (.var 1) (.var 1)))) (.mul (.var 0) (.var 0))) (.mul (.mul (.var 1) (.var 1)) (.mul (.var 1) (.var 1)))))) (.add (.sub (.sub (.mul (.add (.var 0) (.mul (.var 1) (.var 1))) (.add (.var 0) (.mul (.var 1) (.var 1)))) (.mul (.var 0) (.var 0))) (.mul (.mul (.var 1) (.var 1)) (.mul (.var 1) (.var 1)))) (.sub (.sub (.mul (.add (.var 0) (.mul (.var 1) (.var 1))) (.add (.var 0) (.mul (.var 1) (.var 1)))) (.mul (.var 0) (.var 0))) (.mul (.mul (.var 1) (.var 1)) (.mul (.var 1) (.var 1)))))) (.mul (.var 2) (.var 2))) (.sub (.sub (.mul (.mul (.add (.add (.mul (.var 0) (.var 0)) (.mul (.var 0) (.var 0))) (.mul (.var 0) (.var 0))) (.var 2)) (.mul (.add (.add (.mul (.var 0) (.var 0)) (.mul (.var 0) (.var 0))) (.mul (.var 0) (.var 0))) (.var 2))) (.mul (.var 0) (.mul (.mul (.add (.var 1) (.var 1)) (.var 2)) (.mul (.add (.var 1) (.var 1)) (.var 2))))) (.mul (.var 0) (.mul (.mul (.add (.var 1) (.var 1)) (.var 2)) (.mul (.add (.var 1) (.var 1)) (.var 2))))) (by kernel_rfl))
    · exact (show ((((((((x * x) + (x * x)) + (x * x)) * ((((((x + (y * y)) * (x + (y * y))) - (x * x)) - ((y * y) * (y * y))) + ((((x + (y * y)) * (x + (y * y))) - (x * x)) - ((y * y) * (y * y)))) - ((((((x * x) + (x * x)) + (x * x)) * (((x * x) + (x * x)) + (x * x))) - (((((x + (y * y)) * (x + (y * y))) - (x * x)) - ((y * y) * (y * y))) + ((((x + (y * y)) * (x + (y * y))) - (x * x)) - ((y * y) * (y * y))))) - (((((x + (y * y)) * (x + (y * y))) - (x * x)) - ((y * y) * (y * y))) + ((((x + (y * y)) * (x + (y * y))) - (x * x)) - ((y * y) * (y * y))))))) - ((((y * y) * (y * y)) + ((y * y) * (y * y))) + (((y * y) * (y * y)) + ((y * y) * (y * y))))) - ((((y * y) * (y * y)) + ((y * y) * (y * y))) + (((y * y) * (y * y)) + ((y * y) * (y * y))))) * (w * w)) * w) = ((((((x * x) + (x * x)) + (x * x)) * w) * ((x * (((y + y) * w) * ((y + y) * w))) - (((((((x * x) + (x * x)) + (x * x)) * w) * ((((x * x) + (x * x)) + (x * x)) * w)) - (x * (((y + y) * w) * ((y + y) * w)))) - (x * (((y + y) * w) * ((y + y) * w)))))) - ((y * (((y + y) * w) * ((y + y) * w))) * ((y + y) * w))) from ring_id (fun vi_ => vget vi_ [x, y, w]) (.mul (.mul (.sub (.sub (.mul (.add (.add (.mul (.var 0) (.var 0)) (.mul (.var 0) (.var 0))) (.mul (.var 0) (.var 0))) (.sub (.add (.sub (.sub (.mul (.add (.var 0) (.mul (.var 1) (.var 1))) (.add (.var 0) (.mul (.var 1) (.var 1)))) (.mul (.var 0) (.var 0))) (.mul (.mul (.var 1) (.var 1)) (.mul (.var 1) (.var 1)))) (.sub (.sub (.mul (.add (.var 0) (.mul (.var 1) (.var 1))) (.add (.var 0) (.mul (.var 1) (.var 1)))) (.mul (.var 0) (.var 0))) (.mul (.mul (.var 1) (.var 1)) (.mul (.var 1) (.var 1))))) (.sub (.sub (.mul (.add (.add (.mul (.var 0) (.var 0)) (.mul (.var 0) (.var 0))) (.mul (.var 0) (.var 0))) (.add (.add (.mul (.var 0) (.var 0)) (.mul (.var 0) (.var 0))) (.mul (.var 0) (.var 0)))) (.add (.sub (.sub (.mul (.add (.var 0) (.mul (.var 1) (.var 1))) (.add (.var 0) (.mul (.var 1) (.var 1)))) (.mul (.var 0) (.var 0))) (.mul (.mul (.var 1) (.var 1)) (.mul (.var 1) (.var 1)))) (.sub (.sub (.mul (.add (.var 0) (.mul (.var 1) (.var 1))) (.add (.var 0) (.mul (.var 1) (.var 1)))) (.mul (.var 0) (.var 0))) (.mul (.mul (.var 1) (.var 1)) (.mul (.var 1) (.var 1)))))) (.add (.sub (.sub (.mul (.add (.var 0) (.mul (.var 1) (.var 1))) (.add (.var 0) (.mul (.var 1) (.var 1)))) (.mul (.var 0) (.var 0))) (.mul (.mul (.var 1) (.var 1)) (.mul (.var 1) (.var 1)))) (.sub (.sub (.mul (.add (.var 0) (.mul (.var 1) (.var 1))) (.add (.var 0) (.mul (.var 1) (.var 1)))) (.mul (.var 0) (.var 0))) (.mul (.mul (.var 1) (.var 1)) (.mul (.var 1) (.var 1)))))))) (.add (.add (.mul (.mul (.var 1) (.var 1)) (.mul (.var 1) (.var 1))) (.mul (.mul (.var 1) (.var 1)) (.mul (.var 1) (.var 1)))) (.add (.mul (.mul (.var 1) (.var 1)) (.mul (.var 1) (.var 1))) (.mul (.mul (.var 1) (.var 1)) (.mul (.var 1) (.var 1)))))) (.add (.add (.mul (.mul (.var 1) (.var 1)) (.mul (.var 1) (.var 1))) (.mul (.mul (.var 1) (.var 1)) (.mul (.var 1) (.var 1)))) (.add (.mul (.mul (.var 1) (.var 1)) (.mul (.var 1) (.var 1))) (.mul (.mul (.var 1) (.var 1)) (.mul (.var 1) (.var 1)))))) (.mul (.var 2) (.var 2))) (.var 2)) (.sub (.mul (.mul (.add (.add (.mul (.var 0) (.var 0)) (.mul (.var 0) (.var 0))) (.mul (.var 0) (.var 0))) (.var 2)) (.sub (.mul (.var 0) (.mul (.mul (.add (.var 1) (.var 1)) (.var 2)) (.mul (.add (.var 1) (.var 1)) (.var 2)))) (.sub (.sub (.mul (.mul (.add (.add (.mul (.var 0) (.var 0)) (.mul (.var 0) (.var 0))) (.mul (.var 0) (.var 0))) (.var 2)) (.mul (.add (.add (.mul (.var 0) (.var 0)) (.mul (.var 0) (.var 0))) (.mul (.var 0) (.var 0))) (.var 2))) (.mul (.var 0) (.mul (.mul (.add (.var 1) (.var 1)) (.var 2)) (.mul (.add (.var 1) (.var 1)) (.var 2))))) (.mul (.var 0) (.mul (.mul (.add (.var 1) (.var 1)) (.var 2)) (.mul (.add (.var 1) (.var 1)) (.var 2))))))) (.mul (.mul (.var 1) (.mul (.mul (.add (.var 1) (.var 1)) (.var 2)) (.mul (.add (.var 1) (.var 1)) (.var 2)))) (.mul (.add (.var 1) (.var 1)) (.var 2)))) (by kernel_rfl))
  rw [e2, e3, e5]
  exact ⟨rfl, .inr (by rw [e5]; exact h3a)⟩
theorem gadd_ok {j : J3 α} {q : α × α} (hj : JOk B j) (hq : On B q) : gpt (gadd j q) = cadd (gpt j) q ∧ JOk B (gadd j q) := by
  obtain ⟨x, y, z⟩ := j
  by_cases hq0 : q = (0, 0)
  · have e1 : gadd (x, y, z) q = (x, y, z) := if_pos hq0
    rw [e1, hq0, cadd_zero]
    exact ⟨rfl, hj⟩
  by_cases hz : z = 0
  · have e1 : gadd (x, y, z) q = gtoj q := (if_neg hq0).trans (if_pos hz)
    rw [e1, show gpt (x, y, z) = (0, 0) from if_pos hz, zero_cadd, gpt_toj]
    exact ⟨rfl, JOk.toj hq⟩
  have hqa : Aff B q := hq.resolve_left hq0
  have hpa : Aff B (gpt (x, y, z)) := hj.resolve_left hz
  have e2 : gpt (x, y, z) = (x * (Fld.finv z * Fld.finv z), y * (Fld.finv z * Fld.finv z) * Fld.finv z) := if_neg hz
  have hi := Fld.mul_finv z hz
  have hin := finv_ne hz
  obtain ⟨q1, q2⟩ := q
  have hH : gaddH (x, y, z) (q1, q2) = q1 * (z * z) - x := rfl
  have hR : gaddR (x, y, z) (q1, q2) = q2 * z * (z * z) - y := rfl
  have hunf : gadd (x, y, z) (q1, q2) = if gaddH (x, y, z) (q1, q2) = 0 then (if gaddR (x, y, z) (q1, q2) = 0 then gdbl (x, y, z) else (0, 0, 0)) else gaddN (x, y, z) (q1, q2) := (if_neg hq0).trans (if_neg hz)
  have hpa' := hpa
  rw [e2] at hpa'
  have cA : gaddH (x, y, z) (q1, q2) * (Fld.finv z * Fld.finv z) = q1 - x * (Fld.finv z * Fld.finv z) := by
    rw [hH]
    generalize Fld.finv z = i at *
    exact (eq_of_sub (Eq.trans (show ((((q1 * (z * z)) - x) * (i * i)) - (q1 - (x * (i * i)))) = ((q1 * ((z * i) + 1)) * ((z * i) - 1)) from ring_id (fun vi_ => vget vi_ [x, z, i, q1]) (.sub (.mul (.sub (.mul (.var 3) (.mul (.var 1) (.var 1))) (.var 0)) (.mul (.var 2) (.var 2))) (.sub (.var 3) (.mul (.var 0) (.mul (.var 2) (.var 2))))) (.mul (.mul (.var 3) (.add (.mul (.var 1) (.var 2)) .one)) (.sub (.mul (.var 1) (.var 2)) .one)) (by kernel_rfl)) (lz hi)))
  have cB : gaddR (x, y, z) (q1, q2) * (Fld.finv z * Fld.finv z * Fld.finv z) = q2 - y * (Fld.finv z * Fld.finv z) * Fld.finv z := by
    rw [hR]
    generalize Fld.finv z = i at *
    exact (eq_of_sub (Eq.trans (show (((((q2 * z) * (z * z)) - y) * ((i * i) * i)) - (q2 - ((y * (i * i)) * i))) = ((q2 * ((((z * i) * (z * i)) + (z * i)) + 1)) * ((z * i) - 1)) from ring_id (fun vi_ => vget vi_ [y, z, i, q2]) (.sub (.mul (.sub (.mul (.mul (.var 3) (.var 1)) (.mul (.var 1) (.var 1))) (.var 0)) (.mul (.mul (.var 2) (.var 2)) (.var 2))) (.sub (.var 3) (.mul (.mul (.var 0) (.mul (.var 2) (.var 2))) (.var 2)))) (.mul (.mul (.var 3) (.add (.add (.mul (.mul (.var 1) (.var 2)) (.mul (.var 1) (.var 2))) (.mul (.var 1) (.var 2))) .one)) (.sub (.mul (.var 1) (.var 2)) .one)) (by kernel_rfl)) (lz hi)))
  by_cases h0 : gaddH (x, y, z) (q1, q2) = 0
  · have ex : x * (Fld.finv z * Fld.finv z) = q1 := by
      rw [h0, zero_mul'] at cA; exact (eq_of_sub cA.symm).symm
    by_cases r0 : gaddR (x, y, z) (q1, q2) = 0
    · have ey : y * (Fld.finv z * Fld.finv z) * Fld.finv z = q2 := by
        rw [r0, zero_mul'] at cB; exact (eq_of_sub cB.symm).symm
      rw [hunf, if_pos h0, if_pos r0]
      have he : gpt (x, y, z) = (q1, q2) := by rw [e2, ex, ey]
      have h := gdbl_ok hj
      rw [he] at h
      rw [he]
      exact h
    · rw [hunf, if_pos h0, if_neg r0]
      refine ⟨?_, .inl rfl⟩
      rw [show gpt ((0, 0, 0) : J3 α) = (0, 0) from if_pos rfl]
      have hne : y * (Fld.finv z * Fld.finv z) * Fld.finv z ≠ q2 := by
        intro e
        rw [e, sub_self'] at cB
        exact Fld.mul_ne r0 (Fld.mul_ne (Fld.mul_ne hin hin) hin) cB
      rw [e2]
      rw [e2] at hpa
      generalize y * (Fld.finv z * Fld.finv z) * Fld.finv z = y' at *
      generalize x * (Fld.finv z * Fld.finv z) = x' at *
      subst ex
      have hs : y' + q2 = 0 := by
        apply Classical.byContradiction
        intro hs
        refine Fld.mul_ne (sub_ne hne) hs ?_
        have H1 : y' * y' = x' * x' * x' + B := hpa
        have H2 : q2 * q2 = x' * x' * x' + B := hqa
        exact (eq_of_sub (Eq.trans (show (((q2 - y') * (y' + q2)) - 0) = ((1 * ((q2 * q2) - (((x' * x') * x') + B))) + ((-1) * ((y' * y') - (((x' * x') * x') + B)))) from ring_id (fun vi_ => vget vi_ [y', q2, x', B]) (.sub (.mul (.sub (.var 1) (.var 0)) (.add (.var 0) (.var 1))) .zero) (.add (.mul .one (.sub (.mul (.var 1) (.var 1)) (.add (.mul (.mul (.var 2) (.var 2)) (.var 2)) (.var 3)))) (.mul (.neg .one) (.sub (.mul (.var 0) (.var 0)) (.add (.mul (.mul (.var 2) (.var 2)) (.var 2)) (.var 3))))) (by kernel_rfl)) (lz2 (lz H2) (lz H1))))
      unfold cadd
      rw [if_neg hpa.ne, if_neg hq0, if_pos ⟨rfl, hs⟩]
  · rw [hunf, if_neg h0]
    have hxne : x * (Fld.finv z * Fld.finv z) ≠ q1 := by
      intro e
      rw [e, sub_self'] at cA
      exact Fld.mul_ne h0 (Fld.mul_ne hin hin) cA
    have hnn : ¬ ((x * (Fld.finv z * Fld.finv z), y * (Fld.finv z * Fld.finv z) * Fld.finv z).1 = (q1, q2).1 ∧ (x * (Fld.finv z * Fld.finv z), y * (Fld.finv z * Fld.finv z) * Fld.finv z).2 + (q1, q2).2 = 0) := fun h => hxne h.1
    have hl := slope_ok hpa' hqa hnn
    have e3 : cadd (x * (Fld.finv z * Fld.finv z), y * (Fld.finv z * Fld.finv z) * Fld.finv z) (q1, q2) = third (slope (x * (Fld.finv z * Fld.finv z), y * (Fld.finv z * Fld.finv z) * Fld.finv z) (q1, q2)) (x * (Fld.finv z * Fld.finv z), y * (Fld.finv z * Fld.finv z) * Fld.finv z) (q1, q2) := by
      unfold cadd; rw [if_neg hpa'.ne, if_neg hq0, if_neg hnn]
    have h3a := third_aff hpa' hl
    have hat := hl.at_
    generalize slope (x * (Fld.finv z * Fld.finv z), y * (Fld.finv z * Fld.finv z) * Fld.finv z) (q1, q2) = l at *
    have hat : q2 = y * (Fld.finv z * Fld.finv z) * Fld.finv z + l * (q1 - x * (Fld.finv z * Fld.finv z)) := hat
    have hN : gaddN (x, y, z) (q1, q2) = (let zz := z * z; let h := gaddH (x, y, z) (q1, q2); let r := gaddR (x, y, z) (q1, q2) + gaddR (x, y, z) (q1, q2); let hh := h * h; let i := (hh + hh) + (hh + hh); let j := h * i; let v := x * i; let xx := r * r - j - v - v; let yj := y * j; (xx, r * (v - xx) - yj - yj, (z + h) * (z + h) - zz - hh)) := rfl
    generalize gaddH (x, y, z) (q1, q2) = h at *
    generalize gaddR (x, y, z) (q1, q2) = r at *
    have hz3 : (z + h) * (z + h) - z * z - h * h ≠ 0 := by
      rw [(show ((((z + h) * (z + h)) - (z * z)) - (h * h)) = ((1 + 1) * (z * h)) from ring_id (fun vi_ => vget vi_ [z, h]) (.sub (.sub (.mul (.add (.var 0) (.var 1)) (.add (.var 0) (.var 1))) (.mul (.var 0) (.var 0))) (.mul (.var 1) (.var 1))) (.mul (.add .one .one) (.mul (.var 0) (.var 1))) (by kernel_rfl))]
      exact Fld.mul_ne hG.two (Fld.mul_ne hz h0)
    have hw := Fld.mul_finv _ hz3
    have e5 : gpt (gaddN (x, y, z) (q1, q2)) = third l (x * (Fld.finv z * Fld.finv z), y * (Fld.finv z * Fld.finv z) * Fld.finv z) (q1, q2) := by
      rw [hN]
      unfold gpt third
      simp only
      rw [if_neg hz3]
      generalize Fld.finv ((z + h) * (z + h) - z * z - h * h) = w at *
      generalize Fld.finv z = i at *
      have e4 : i = (h + h) * w :=
        (eq_of_sub (Eq.trans (show (i - ((h + h) * w)) = (((-i) * ((((((z + h) * (z + h)) - (z * z)) - (h * h)) * w) - 1)) + (((h + h) * w) * ((z * i) - 1))) from ring_id (fun vi_ => vget vi_ [z, h, i, w]) (.sub (.var 2) (.mul (.add (.var 1) (.var 1)) (.var 3))) (.add (.mul (.neg (.var 2)) (.sub (.mul (.sub (.sub (.mul (.add (.var 0) (.var 1)) (.add (.var 0) (.var 1))) (.mul (.var 0) (.var 0))) (.mul (.var 1) (.var 1))) (.var 3)) .one)) (.mul (.mul (.add (.var 1) (.var 1)) (.var 3)) (.sub (.mul (.var 0) (.var 2)) .one))) (by kernel_rfl)) (lz2 (lz hw) (lz hi))))
      have hle : l = (r + r) * w := by
        refine Fld.cancel (sub_ne hxne) ?_
        exact (eq_of_sub (Eq.trans (show (((q1 - (x * (i * i))) * l) - ((q1 - (x * (i * i))) * ((r + r) * w))) = (((((-1) * (q2 - (((y * (i * i)) * i) + (l * (q1 - (x * (i * i))))))) + ((-1) * ((r * ((i * i) * i)) - (q2 - ((y * (i * i)) * i))))) + (((r + r) * w) * ((h * (i * i)) - (q1 - (x * (i * i)))))) + ((r * (i * i)) * (i - ((h + h) * w)))) from ring_id (fun vi_ => vget vi_ [x, y, h, r, i, w, l, q1, q2]) (.sub (.mul (.sub (.var 7) (.mul (.var 0) (.mul (.var 4) (.var 4)))) (.var 6)) (.mul (.sub (.var 7) (.mul (.var 0) (.mul (.var 4) (.var 4)))) (.mul (.add (.var 3) (.var 3)) (.var 5)))) (.add (.add (.add (.mul (.neg .one) (.sub (.var 8) (.add (.mul (.mul (.var 1) (.mul (.var 4) (.var 4))) (.var 4)) (.mul (.var 6) (.sub (.var 7) (.mul (.var 0) (.mul (.var 4) (.var 4)))))))) (.mul (.neg .one) (.sub (.mul (.var 3) (.mul (.mul (.var 4) (.var 4)) (.var 4))) (.sub (.var 8) (.mul (.mul (.var 1) (.mul (.var 4) (.var 4))) (.var 4)))))) (.mul (.mul (.add (.var 3) (.var 3)) (.var 5)) (.sub (.mul (.var 2) (.mul (.var 4) (.var 4))) (.sub (.var 7) (.mul (.var 0) (.mul (.var 4) (.var 4))))))) (.mul (.mul (.var 3) (.mul (.var 4) (.var 4))) (.sub (.var 4) (.mul (.add (.var 2) (.var 2)) (.var 5))))) (by kernel_rfl)) (lz2 (lz2 (lz2 (lz hat) (lz cB)) (lz cA)) (lz e4))))
      rw [hle]
      subst e4
      refine Prod.ext ?_ ?_
      · exact (eq_of_sub (Eq.trans (show (((((((r + r) * (r + r)) - (h * (((h * h) + (h * h)) + ((h * h) + (h * h))))) - (x * (((h * h) + (h * h)) + ((h * h) + (h * h))))) - (x * (((h * h) + (h * h)) + ((h * h) + (h * h))))) * (w * w)) - (((((r + r) * w) * ((r + r) * w)) - (x * (((h + h) * w) * ((h + h) * w)))) - q1)) = ((-1) * ((h * (((h + h) * w) * ((h + h) * w))) - (q1 - (x * (((h + h) * w) * ((h + h) * w)))))) from ring_id (fun vi_ => vget vi_ [x, h, r, w, q1]) (.sub (.mul (.sub (.sub (.sub (.mul (.add (.var 2) (.var 2)) (.add (.var 2) (.var 2))) (.mul (.var 1) (.add (.add (.mul (.var 1) (.var 1)) (.mul (.var 1) (.var 1))) (.add (.mul (.var 1) (.var 1)) (.mul (.var 1) (.var 1)))))) (.mul (.var 0) (.add (.add (.mul (.var 1) (.var 1)) (.mul (.var 1) (.var 1))) (.add (.mul (.var 1) (.var 1)) (.mul (.var 1) (.var 1)))))) (.mul (.var 0) (.add (.add (.mul (.var 1) (.var 1)) (.mul (.var 1) (.var 1))) (.add (.mul (.var 1) (.var 1)) (.mul (.var 1) (.var 1)))))) (.mul (.var 3) (.var 3))) (.sub (.sub (.mul (.mul (.add (.var 2) (.var 2)) (.var 3)) (.mul (.add (.var 2) (.var 2)) (.var 3))) (.mul (.var 0) (.mul (.mul (.add (.var 1) (.var 1)) (.var 3)) (.mul (.add (.var 1) (.var 1)) (.var 3))))) (.var 4))) (.mul (.neg .one) (.sub (.mul (.var 1) (.mul (.mul (.add (.var 1) (.var 1)) (.var 3)) (.mul (.add (.var 1) (.var 1)) (.var 3)))) (.sub (.var 4) (.mul (.var 0) (.mul (.mul (.add (.var 1) (.var 1)) (.var 3)) (.mul (.add (.var 1) (.var 1)) (.var 3))))))) (by kernel_rfl)) (lz cA)))
      · exact (eq_of_sub (Eq.trans (show (((((((r + r) * ((x * (((h * h) + (h * h)) + ((h * h) + (h * h)))) - (((((r + r) * (r + r)) - (h * (((h * h) + (h * h)) + ((h * h) + (h * h))))) - (x * (((h * h) + (h * h)) + ((h * h) + (h * h))))) - (x * (((h * h) + (h * h)) + ((h * h) + (h * h))))))) - (y * (h * (((h * h) + (h * h)) + ((h * h) + (h * h)))))) - (y * (h * (((h * h) + (h * h)) + ((h * h) + (h * h)))))) * (w * w)) * w) - ((((r + r) * w) * ((x * (((h + h) * w) * ((h + h) * w))) - (((((r + r) * w) * ((r + r) * w)) - (x * (((h + h) * w) * ((h + h) * w)))) - q1))) - ((y * (((h + h) * w) * ((h + h) * w))) * ((h + h) * w)))) = (((r + r) * w) * ((h * (((h + h) * w) * ((h + h) * w))) - (q1 - (x * (((h + h) * w) * ((h + h) * w)))))) from ring_id (fun vi_ => vget vi_ [x, y, h, r, w, q1]) (.sub (.mul (.mul (.sub (.sub (.mul (.add (.var 3) (.var 3)) (.sub (.mul (.var 0) (.add (.add (.mul (.var 2) (.var 2)) (.mul (.var 2) (.var 2))) (.add (.mul (.var 2) (.var 2)) (.mul (.var 2) (.var 2))))) (.sub (.sub (.sub (.mul (.add (.var 3) (.var 3)) (.add (.var 3) (.var 3))) (.mul (.var 2) (.add (.add (.mul (.var 2) (.var 2)) (.mul (.var 2) (.var 2))) (.add (.mul (.var 2) (.var 2)) (.mul (.var 2) (.var 2)))))) (.mul (.var 0) (.add (.add (.mul (.var 2) (.var 2)) (.mul (.var 2) (.var 2))) (.add (.mul (.var 2) (.var 2)) (.mul (.var 2) (.var 2)))))) (.mul (.var 0) (.add (.add (.mul (.var 2) (.var 2)) (.mul (.var 2) (.var 2))) (.add (.mul (.var 2) (.var 2)) (.mul (.var 2) (.var 2)))))))) (.mul (.var 1) (.mul (.var 2) (.add (.add (.mul (.var 2) (.var 2)) (.mul (.var 2) (.var 2))) (.add (.mul (.var 2) (.var 2)) (.mul (.var 2) (.var 2))))))) (.mul (.var 1) (.mul (.var 2) (.add (.add (.mul (.var 2) (.var 2)) (.mul (.var 2) (.var 2))) (.add (.mul (.var 2) (.var 2)) (.mul (.var 2) (.var 2))))))) (.mul (.var 4) (.var 4))) (.var 4)) (.sub (.mul (.mul (.add (.var 3) (.var 3)) (.var 4)) (.sub (.mul (.var 0) (.mul (.mul (.add (.var 2) (.var 2)) (.var 4)) (.mul (.add (.var 2) (.var 2)) (.var 4)))) (.sub (.sub (.mul (.mul (.add (.var 3) (.var 3)) (.var 4)) (.mul (.add (.var 3) (.var 3)) (.var 4))) (.mul (.var 0) (.mul (.mul (.add (.var 2) (.var 2)) (.var 4)) (.mul (.add (.var 2) (.var 2)) (.var 4))))) (.var 5)))) (.mul (.mul (.var 1) (.mul (.mul (.add (.var 2) (.var 2)) (.var 4)) (.mul (.add (.var 2) (.var 2)) (.var 4)))) (.mul (.add (.var 2) (.var 2)) (.var 4))))) (.mul (.mul (.add (.var 3) (.var 3)) (.var 4)) (.sub (.mul (.var 2) (.mul (.mul (.add (.var 2) (.var 2)) (.var 4)) (.mul (.add (.var 2) (.var 2)) (.var 4)))) (.sub (.var 5) (.mul (.var 0) (.mul (.mul (.add (.var 2) (.var 2)) (.var 4)) (.mul (.add (.var 2) (.var 2)) (.var 4))))))) (by kernel_rfl)) (lz cA)))
    rw [e2, e3, e5]
    exact ⟨rfl, .inr (by rw [e5]; exact h3a)⟩
theorem step_dbl {j : J3 α} {x : Gp B} (hj : JOk B j) (h : gpt j = x.1) : JOk B (gdbl j) ∧ gpt (gdbl j) = (x + x).1 := by
  obtain ⟨h1, h2⟩ := gdbl_ok hj
  exact ⟨h2, by rw [h1, h]; rfl⟩
theorem step_add {j : J3 α} {x : Gp B} (q : Gp B) (hj : JOk B j) (h : gpt j = x.1) : JOk B (gadd j q.1) ∧ gpt (gadd j q.1) = (x + q).1 := by
  obtain ⟨h1, h2⟩ := gadd_ok hj q.2
  exact ⟨h2, by rw [h1, h]; rfl⟩
theorem step_sums : ∀ (l : List (Gp B)) {j : J3 α} {x : Gp B}, JOk B j → gpt j = x.1 → JOk B ((l.map (·.1)).foldl gadd j) ∧ gpt ((l.map (·.1)).foldl gadd j) = (l.foldl (· + ·) x).1
  | [], _, _, hj, h => ⟨hj, h⟩
  | q :: l, _, _, hj, h => by
    obtain ⟨h1, h2⟩ := step_add q hj h
    exact step_sums l h1 h2
theorem jzero_ok : JOk B ((0, 0, 0) : J3 α) ∧ gpt ((0, 0, 0) : J3 α) = (0 : Gp B).1 := ⟨.inl rfl, if_pos rfl⟩
/-- The ladder: n times p, for n of at most f bits. -/
def glad (p : α × α) : Nat → Nat → J3 α
  | 0, _ => (0, 0, 0)
  | f + 1, n => if n % 2 = 1 then gadd (gdbl (glad p f (n / 2))) p else gdbl (glad p f (n / 2))
theorem glad_ok (p : Gp B) : ∀ (f n : Nat), n < 2 ^ f → JOk B (glad p.1 f n) ∧ gpt (glad p.1 f n) = (nmul n p).1
  | 0, n, h => by
    obtain rfl : n = 0 := by simpa using h
    exact jzero_ok
  | f + 1, n, h => by
    obtain ⟨h1, h2⟩ := glad_ok p f (n / 2) (by rw [Nat.pow_succ] at h; omega)
    obtain ⟨h3, h4⟩ := step_dbl h1 h2
    have e : nmul (n / 2) p + nmul (n / 2) p = nmul (n / 2 * 2) p := by rw [nmul_mul, nmul_two]
    unfold glad
    split
    · obtain ⟨h5, h6⟩ := step_add p h3 h4
      refine ⟨h5, ?_⟩
      rw [h6, e]
      conv => rhs; rw [show n = n / 2 * 2 + 1 by omega]
      rfl
    · refine ⟨h3, ?_⟩
      rw [h4, e, show n / 2 * 2 = n by omega]
theorem nmul_zero_of {p : Gp B} {f n : Nat} (h : n < 2 ^ f) (hz : (glad p.1 f n).2.2 = 0) : nmul n p = 0 := by
  refine Gp.ext ?_
  rw [← (glad_ok p f n h).2]
  exact if_pos hz
end
end Go.Ec

/- Three points on a line, and maps of the curve onto itself, over any field. -/
namespace Go.Ec
open Go.Cu
set_option linter.unusedVariables false
set_option linter.unusedSimpArgs false
set_option linter.unusedSectionVars false
open CR
section
variable {α : Type} [Fld α] [DecidableEq α] {B : α} [hG : Gd B]
theorem line_r {p q : α × α} (hp : Aff B p) (hq : Aff B q) (h : ¬ (p.1 = q.1 ∧ p.2 + q.2 = 0)) :
    ∃ l, Ln l p q ∧ cneg (cadd p q) = (l * l - p.1 - q.1, p.2 + l * (l * l - p.1 - q.1 - p.1)) := by
  have hl := slope_ok hp hq h
  refine ⟨slope p q, hl, ?_⟩
  have e : cadd p q = third (slope p q) p q := by unfold cadd; rw [if_neg hp.ne, if_neg hq.ne, if_neg h]
  rw [e]
  unfold cneg
  rw [if_neg (third_aff hp hl).ne]
  generalize slope p q = l
  exact Prod.ext rfl (show (0 - ((l * (p.1 - (((l * l) - p.1) - q.1))) - p.2)) = (p.2 + (l * ((((l * l) - p.1) - q.1) - p.1))) from ring_id (fun vi_ => vget vi_ [l, p.1, p.2, q.1]) (.sub .zero (.sub (.mul (.var 0) (.sub (.var 1) (.sub (.sub (.mul (.var 0) (.var 0)) (.var 1)) (.var 3)))) (.var 2))) (.add (.var 2) (.mul (.var 0) (.sub (.sub (.sub (.mul (.var 0) (.var 0)) (.var 1)) (.var 3)) (.var 1)))) (by kernel_rfl))
/-- The tangent. -/
theorem tan_r {p : α × α} (hp : Aff B p) (hy : p.2 + p.2 ≠ 0) (r : α × α) (hr : r = cneg (cadd p p)) :
    ((p.2 + p.2) * (r.2 - p.2) = (p.1 * p.1 + p.1 * p.1 + p.1 * p.1) * (r.1 - p.1)) ∧
    (r.1 = p.1 → r = p ∧ (let s := p.1 * p.1 * (p.1 * p.1); let u := p.1 * (p.2 * p.2); let n := s + s + s; let v := u + u + u; n + n + n = (v + v) + (v + v))) := by
  obtain ⟨l, hl, he⟩ := line_r hp hp (fun h => hy h.2)
  have hT := hl.tan
  have hT : p.1 * p.1 + p.1 * p.1 + p.1 * p.1 = l * (p.2 + p.2 + l * (p.1 - p.1)) := hT
  rw [he] at hr
  subst hr
  obtain ⟨x, y⟩ := p
  have hT : x * x + x * x + x * x = l * (y + y + l * (x - x)) := hT
  refine ⟨?_, fun hx => ?_⟩
  · show (y + y) * (y + l * (l * l - x - x - x) - y) = (x * x + x * x + x * x) * (l * l - x - x - x)
    exact (eq_of_sub (Eq.trans (show (((y + y) * ((y + (l * ((((l * l) - x) - x) - x))) - y)) - ((((x * x) + (x * x)) + (x * x)) * ((((l * l) - x) - x) - x))) = ((-((((l * l) - x) - x) - x)) * ((((x * x) + (x * x)) + (x * x)) - (l * ((y + y) + (l * (x - x)))))) from ring_id (fun vi_ => vget vi_ [x, y, l]) (.sub (.mul (.add (.var 1) (.var 1)) (.sub (.add (.var 1) (.mul (.var 2) (.sub (.sub (.sub (.mul (.var 2) (.var 2)) (.var 0)) (.var 0)) (.var 0)))) (.var 1))) (.mul (.add (.add (.mul (.var 0) (.var 0)) (.mul (.var 0) (.var 0))) (.mul (.var 0) (.var 0))) (.sub (.sub (.sub (.mul (.var 2) (.var 2)) (.var 0)) (.var 0)) (.var 0)))) (.mul (.neg (.sub (.sub (.sub (.mul (.var 2) (.var 2)) (.var 0)) (.var 0)) (.var 0))) (.sub (.add (.add (.mul (.var 0) (.var 0)) (.mul (.var 0) (.var 0))) (.mul (.var 0) (.var 0))) (.mul (.var 2) (.add (.add (.var 1) (.var 1)) (.mul (.var 2) (.sub (.var 0) (.var 0))))))) (by kernel_rfl)) (lz hT)))
  · have hx : l * l - x - x = x := hx
    refine ⟨Prod.ext hx ?_, ?_⟩
    · show y + l * (l * l - x - x - x) = y
      exact (eq_of_sub (Eq.trans (show ((y + (l * ((((l * l) - x) - x) - x))) - y) = (l * ((((l * l) - x) - x) - x)) from ring_id (fun vi_ => vget vi_ [x, y, l]) (.sub (.add (.var 1) (.mul (.var 2) (.sub (.sub (.sub (.mul (.var 2) (.var 2)) (.var 0)) (.var 0)) (.var 0)))) (.var 1)) (.mul (.var 2) (.sub (.sub (.sub (.mul (.var 2) (.var 2)) (.var 0)) (.var 0)) (.var 0))) (by kernel_rfl)) (lz hx)))
    · show x * x * (x * x) + x * x * (x * x) + x * x * (x * x) + (x * x * (x * x) + x * x * (x * x) + x * x * (x * x)) + (x * x * (x * x) + x * x * (x * x) + x * x * (x * x)) = x * (y * y) + x * (y * y) + x * (y * y) + (x * (y * y) + x * (y * y) + x * (y * y)) + (x * (y * y) + x * (y * y) + x * (y * y) + (x * (y * y) + x * (y * y) + x * (y * y)))
      exact (eq_of_sub (Eq.trans (show (((((((x * x) * (x * x)) + ((x * x) * (x * x))) + ((x * x) * (x * x))) + ((((x * x) * (x * x)) + ((x * x) * (x * x))) + ((x * x) * (x * x)))) + ((((x * x) * (x * x)) + ((x * x) * (x * x))) + ((x * x) * (x * x)))) - (((((x * (y * y)) + (x * (y * y))) + (x * (y * y))) + (((x * (y * y)) + (x * (y * y))) + (x * (y * y)))) + ((((x * (y * y)) + (x * (y * y))) + (x * (y * y))) + (((x * (y * y)) + (x * (y * y))) + (x * (y * y)))))) = ((((((x * x) + (x * x)) + (x * x)) + (l * (y + y))) * ((((x * x) + (x * x)) + (x * x)) - (l * ((y + y) + (l * (x - x)))))) + (((y + y) * (y + y)) * ((((l * l) - x) - x) - x))) from ring_id (fun vi_ => vget vi_ [x, y, l]) (.sub (.add (.add (.add (.add (.mul (.mul (.var 0) (.var 0)) (.mul (.var 0) (.var 0))) (.mul (.mul (.var 0) (.var 0)) (.mul (.var 0) (.var 0)))) (.mul (.mul (.var 0) (.var 0)) (.mul (.var 0) (.var 0)))) (.add (.add (.mul (.mul (.var 0) (.var 0)) (.mul (.var 0) (.var 0))) (.mul (.mul (.var 0) (.var 0)) (.mul (.var 0) (.var 0)))) (.mul (.mul (.var 0) (.var 0)) (.mul (.var 0) (.var 0))))) (.add (.add (.mul (.mul (.var 0) (.var 0)) (.mul (.var 0) (.var 0))) (.mul (.mul (.var 0) (.var 0)) (.mul (.var 0) (.var 0)))) (.mul (.mul (.var 0) (.var 0)) (.mul (.var 0) (.var 0))))) (.add (.add (.add (.add (.mul (.var 0) (.mul (.var 1) (.var 1))) (.mul (.var 0) (.mul (.var 1) (.var 1)))) (.mul (.var 0) (.mul (.var 1) (.var 1)))) (.add (.add (.mul (.var 0) (.mul (.var 1) (.var 1))) (.mul (.var 0) (.mul (.var 1) (.var 1)))) (.mul (.var 0) (.mul (.var 1) (.var 1))))) (.add (.add (.add (.mul (.var 0) (.mul (.var 1) (.var 1))) (.mul (.var 0) (.mul (.var 1) (.var 1)))) (.mul (.var 0) (.mul (.var 1) (.var 1)))) (.add (.add (.mul (.var 0) (.mul (.var 1) (.var 1))) (.mul (.var 0) (.mul (.var 1) (.var 1)))) (.mul (.var 0) (.mul (.var 1) (.var 1))))))) (.add (.mul (.add (.add (.add (.mul (.var 0) (.var 0)) (.mul (.var 0) (.var 0))) (.mul (.var 0) (.var 0))) (.mul (.var 2) (.add (.var 1) (.var 1)))) (.sub (.add (.add (.mul (.var 0) (.var 0)) (.mul (.var 0) (.var 0))) (.mul (.var 0) (.var 0))) (.mul (.var 2) (.add (.add (.var 1) (.var 1)) (.mul (.var 2) (.sub (.var 0) (.var 0))))))) (.mul (.mul (.add (.var 1) (.var 1)) (.add (.var 1) (.var 1))) (.sub (.sub (.sub (.mul (.var 2) (.var 2)) (.var 0)) (.var 0)) (.var 0)))) (by kernel_rfl)) (lz2 (lz hT) (lz hx))))
/-- The chord. -/
theorem chord_r {p q : α × α} (hp : Aff B p) (hq : Aff B q) (hx : p.1 ≠ q.1) (r : α × α) (hr : r = cneg (cadd p q)) :
    ((q.1 - p.1) * (r.2 - p.2) = (r.1 - p.1) * (q.2 - p.2)) ∧ (p.1 + q.1 + r.1) * ((q.1 - p.1) * (q.1 - p.1)) = (q.2 - p.2) * (q.2 - p.2) := by
  obtain ⟨l, hl, he⟩ := line_r hp hq (fun h => hx h.1)
  rw [he] at hr
  subst hr
  have ha := hl.at_
  obtain ⟨x1, y1⟩ := p
  obtain ⟨x2, y2⟩ := q
  have ha : y2 = y1 + l * (x2 - x1) := ha
  subst ha
  refine ⟨?_, ?_⟩
  · exact (show ((x2 - x1) * ((y1 + (l * ((((l * l) - x1) - x2) - x1))) - y1)) = (((((l * l) - x1) - x2) - x1) * ((y1 + (l * (x2 - x1))) - y1)) from ring_id (fun vi_ => vget vi_ [x1, y1, x2, l]) (.mul (.sub (.var 2) (.var 0)) (.sub (.add (.var 1) (.mul (.var 3) (.sub (.sub (.sub (.mul (.var 3) (.var 3)) (.var 0)) (.var 2)) (.var 0)))) (.var 1))) (.mul (.sub (.sub (.sub (.mul (.var 3) (.var 3)) (.var 0)) (.var 2)) (.var 0)) (.sub (.add (.var 1) (.mul (.var 3) (.sub (.var 2) (.var 0)))) (.var 1))) (by kernel_rfl))
  · exact (show (((x1 + x2) + (((l * l) - x1) - x2)) * ((x2 - x1) * (x2 - x1))) = (((y1 + (l * (x2 - x1))) - y1) * ((y1 + (l * (x2 - x1))) - y1)) from ring_id (fun vi_ => vget vi_ [x1, y1, x2, l]) (.mul (.add (.add (.var 0) (.var 2)) (.sub (.sub (.mul (.var 3) (.var 3)) (.var 0)) (.var 2))) (.mul (.sub (.var 2) (.var 0)) (.sub (.var 2) (.var 0)))) (.mul (.sub (.add (.var 1) (.mul (.var 3) (.sub (.var 2) (.var 0)))) (.var 1)) (.sub (.add (.var 1) (.mul (.var 3) (.sub (.var 2) (.var 0)))) (.var 1))) (by kernel_rfl))
/-- Two points of the curve over one number are the same, or each other's negatives. -/
theorem same_x {p q : α × α} (hp : Aff B p) (hq : Aff B q) (hx : p.1 = q.1) : p = q ∨ p = cneg q := by
  by_cases hs : p.2 + q.2 = 0
  · right
    unfold cneg
    rw [if_neg hq.ne]
    exact Prod.ext hx (eq_of_sub (Eq.trans (show (p.2 - (0 - q.2)) = (1 * ((p.2 + q.2) - 0)) from ring_id (fun vi_ => vget vi_ [p.2, q.2]) (.sub (.var 0) (.sub .zero (.var 1))) (.mul .one (.sub (.add (.var 0) (.var 1)) .zero)) (by kernel_rfl)) (lz hs)))
  · left
    refine Prod.ext hx ?_
    apply Classical.byContradiction
    intro hne
    refine Fld.mul_ne (sub_ne hne) hs ?_
    have H1 : p.2 * p.2 = p.1 * p.1 * p.1 + B := hp
    have H2 : q.2 * q.2 = q.1 * q.1 * q.1 + B := hq
    rw [← hx] at H2
    exact (eq_of_sub (Eq.trans (show (((q.2 - p.2) * (p.2 + q.2)) - 0) = ((1 * ((q.2 * q.2) - (((p.1 * p.1) * p.1) + B))) + ((-1) * ((p.2 * p.2) - (((p.1 * p.1) * p.1) + B)))) from ring_id (fun vi_ => vget vi_ [p.2, q.2, p.1, B]) (.sub (.mul (.sub (.var 1) (.var 0)) (.add (.var 0) (.var 1))) .zero) (.add (.mul .one (.sub (.mul (.var 1) (.var 1)) (.add (.mul (.mul (.var 2) (.var 2)) (.var 2)) (.var 3)))) (.mul (.neg .one) (.sub (.mul (.var 0) (.var 0)) (.add (.mul (.mul (.var 2) (.var 2)) (.var 2)) (.var 3))))) (by kernel_rfl)) (lz2 (lz H2) (lz H1))))
/-- A line's slope is what the points say. -/
theorem Ln.unique {l l' : α} {p q : α × α} (hp : Aff B p) (hq : Aff B q) (h : ¬ (p.1 = q.1 ∧ p.2 + q.2 = 0)) (h1 : Ln l p q) (h2 : Ln l' p q) : l = l' := by
  by_cases hx : p.1 = q.1
  · have hy : p.2 + p.2 ≠ 0 := by
      intro e
      rcases same_x hp hq hx with e2 | e2
      · exact h ⟨hx, by rw [← e2]; exact e⟩
      · refine h ⟨hx, ?_⟩
        rw [e2]
        unfold cneg
        rw [if_neg hq.ne]
        exact (show ((0 - q.2) + q.2) = 0 from ring_id (fun vi_ => vget vi_ [q.2]) (.add (.sub .zero (.var 0)) (.var 0)) .zero (by kernel_rfl))
    have t1 := h1.tan
    have t2 := h2.tan
    refine Fld.cancel hy ?_
    rw [← hx] at t1 t2
    exact (eq_of_sub (Eq.trans (show (((p.2 + p.2) * l) - ((p.2 + p.2) * l')) = (((-1) * ((((p.1 * p.1) + (p.1 * p.1)) + (p.1 * p.1)) - (l * ((p.2 + p.2) + (l * (p.1 - p.1)))))) + (1 * ((((p.1 * p.1) + (p.1 * p.1)) + (p.1 * p.1)) - (l' * ((p.2 + p.2) + (l' * (p.1 - p.1))))))) from ring_id (fun vi_ => vget vi_ [p.2, p.1, l, l']) (.sub (.mul (.add (.var 0) (.var 0)) (.var 2)) (.mul (.add (.var 0) (.var 0)) (.var 3))) (.add (.mul (.neg .one) (.sub (.add (.add (.mul (.var 1) (.var 1)) (.mul (.var 1) (.var 1))) (.mul (.var 1) (.var 1))) (.mul (.var 2) (.add (.add (.var 0) (.var 0)) (.mul (.var 2) (.sub (.var 1) (.var 1))))))) (.mul .one (.sub (.add (.add (.mul (.var 1) (.var 1)) (.mul (.var 1) (.var 1))) (.mul (.var 1) (.var 1))) (.mul (.var 3) (.add (.add (.var 0) (.var 0)) (.mul (.var 3) (.sub (.var 1) (.var 1)))))))) (by kernel_rfl)) (lz2 (lz t1) (lz t2))))
  · refine Fld.cancel (sub_ne hx) ?_
    have a1 := h1.at_
    have a2 := h2.at_
    exact (eq_of_sub (Eq.trans (show (((q.1 - p.1) * l) - ((q.1 - p.1) * l')) = (((-1) * (q.2 - (p.2 + (l * (q.1 - p.1))))) + (1 * (q.2 - (p.2 + (l' * (q.1 - p.1)))))) from ring_id (fun vi_ => vget vi_ [p.1, p.2, q.1, q.2, l, l']) (.sub (.mul (.sub (.var 2) (.var 0)) (.var 4)) (.mul (.sub (.var 2) (.var 0)) (.var 5))) (.add (.mul (.neg .one) (.sub (.var 3) (.add (.var 1) (.mul (.var 4) (.sub (.var 2) (.var 0)))))) (.mul .one (.sub (.var 3) (.add (.var 1) (.mul (.var 5) (.sub (.var 2) (.var 0))))))) (by kernel_rfl)) (lz2 (lz a1) (lz a2))))
theorem cadd_line {l : α} {p q : α × α} (hp : Aff B p) (hq : Aff B q) (h : ¬ (p.1 = q.1 ∧ p.2 + q.2 = 0)) (h1 : Ln l p q) : cadd p q = third l p q := by
  unfold cadd
  rw [if_neg hp.ne, if_neg hq.ne, if_neg h, Ln.unique hp hq h (slope_ok hp hq h) h1]

/-- A map of the field onto itself that keeps sums and products. -/
structure Sig (σ : α → α) : Prop where
  add : ∀ a b, σ (a + b) = σ a + σ b
  mul : ∀ a b, σ (a * b) = σ a * σ b
  inj : ∀ a b, σ a = σ b → a = b
theorem Sig.zero {σ : α → α} (h : Sig σ) : σ 0 = 0 := by
  have h1 : σ 0 + σ 0 = σ 0 + 0 := by rw [← h.add, zero_add, add_zero']
  exact add_left_cancel' h1
theorem Sig.neg {σ : α → α} (h : Sig σ) (a : α) : σ (-a) = -σ a := by
  have h1 : σ a + σ (-a) = σ a + -σ a := by rw [← h.add, add_neg, h.zero, add_neg]
  exact add_left_cancel' h1
theorem Sig.sub {σ : α → α} (h : Sig σ) (a b : α) : σ (a - b) = σ a - σ b := by rw [sub_eq, h.add, h.neg, ← sub_eq]
/-- The curve's turn by e: x goes to e^2 σ(x), y to e^3 σ(y). -/
def turnm (σ : α → α) (e : α) (p : α × α) : α × α := (e * e * σ p.1, e * e * e * σ p.2)
structure Turn (B : α) (σ : α → α) (e : α) : Prop where
  sig : Sig σ
  ne : e ≠ 0
  keep : e * e * e * (e * e * e) * σ B = B
theorem turn_zero {σ : α → α} {e : α} (h : Turn B σ e) : turnm σ e (0, 0) = (0, 0) := by
  unfold turnm
  rw [h.sig.zero, mul_zero', mul_zero']
theorem turn_aff {σ : α → α} {e : α} (h : Turn B σ e) {p : α × α} (hp : Aff B p) : Aff B (turnm σ e p) := by
  have H1 := congrArg σ hp
  rw [h.sig.mul, h.sig.add, h.sig.mul, h.sig.mul] at H1
  have hk := h.keep
  generalize hX : σ p.1 = X at *
  generalize hY : σ p.2 = Y at *
  generalize hb : σ B = b at *
  show e * e * e * σ p.2 * (e * e * e * σ p.2) = e * e * σ p.1 * (e * e * σ p.1) * (e * e * σ p.1) + B
  rw [hX, hY]
  exact (eq_of_sub (Eq.trans (show (((((e * e) * e) * Y) * (((e * e) * e) * Y)) - (((((e * e) * X) * ((e * e) * X)) * ((e * e) * X)) + B)) = (((((e * e) * e) * ((e * e) * e)) * ((Y * Y) - (((X * X) * X) + b))) + (1 * (((((e * e) * e) * ((e * e) * e)) * b) - B))) from ring_id (fun vi_ => vget vi_ [e, X, Y, b, B]) (.sub (.mul (.mul (.mul (.mul (.var 0) (.var 0)) (.var 0)) (.var 2)) (.mul (.mul (.mul (.var 0) (.var 0)) (.var 0)) (.var 2))) (.add (.mul (.mul (.mul (.mul (.var 0) (.var 0)) (.var 1)) (.mul (.mul (.var 0) (.var 0)) (.var 1))) (.mul (.mul (.var 0) (.var 0)) (.var 1))) (.var 4))) (.add (.mul (.mul (.mul (.mul (.var 0) (.var 0)) (.var 0)) (.mul (.mul (.var 0) (.var 0)) (.var 0))) (.sub (.mul (.var 2) (.var 2)) (.add (.mul (.mul (.var 1) (.var 1)) (.var 1)) (.var 3)))) (.mul .one (.sub (.mul (.mul (.mul (.mul (.var 0) (.var 0)) (.var 0)) (.mul (.mul (.var 0) (.var 0)) (.var 0))) (.var 3)) (.var 4)))) (by kernel_rfl)) (lz2 (lz H1) (lz hk))))
theorem turn_on {σ : α → α} {e : α} (h : Turn B σ e) {p : α × α} (hp : On B p) : On B (turnm σ e p) := by
  rcases hp with rfl | hp
  · rw [turn_zero h]; exact .inl rfl
  · exact .inr (turn_aff h hp)
theorem turn_add {σ : α → α} {e : α} (h : Turn B σ e) {p q : α × α} (hp : On B p) (hq : On B q) : turnm σ e (cadd p q) = cadd (turnm σ e p) (turnm σ e q) := by
  rcases hp with rfl | hp
  · rw [turn_zero h, zero_cadd, zero_cadd]
  rcases hq with rfl | hq
  · rw [turn_zero h, cadd_zero, cadd_zero]
  have hp' := turn_aff h hp
  have hq' := turn_aff h hq
  have he3 : e * e * e ≠ 0 := Fld.mul_ne (Fld.mul_ne h.ne h.ne) h.ne
  by_cases hc : p.1 = q.1 ∧ p.2 + q.2 = 0
  · have hc' : (turnm σ e p).1 = (turnm σ e q).1 ∧ (turnm σ e p).2 + (turnm σ e q).2 = 0 := by
      refine ⟨by unfold turnm; rw [hc.1], ?_⟩
      show e * e * e * σ p.2 + e * e * e * σ q.2 = 0
      rw [← mul_add, ← h.sig.add, hc.2, h.sig.zero, mul_zero']
    have e1 : cadd p q = (0, 0) := by unfold cadd; rw [if_neg hp.ne, if_neg hq.ne, if_pos hc]
    have e2 : cadd (turnm σ e p) (turnm σ e q) = (0, 0) := by unfold cadd; rw [if_neg hp'.ne, if_neg hq'.ne, if_pos hc']
    rw [e1, e2, turn_zero h]
  · have hc' : ¬ ((turnm σ e p).1 = (turnm σ e q).1 ∧ (turnm σ e p).2 + (turnm σ e q).2 = 0) := by
      rintro ⟨h1, h2⟩
      have h1 : e * e * σ p.1 = e * e * σ q.1 := h1
      have h2 : e * e * e * σ p.2 + e * e * e * σ q.2 = 0 := h2
      rw [← mul_add, ← h.sig.add] at h2
      refine hc ⟨h.sig.inj _ _ (Fld.cancel (Fld.mul_ne h.ne h.ne) h1), h.sig.inj _ _ (Fld.cancel he3 ?_)⟩
      rw [h2, h.sig.zero, mul_zero']
    have hl := slope_ok hp hq hc
    have e1 : cadd p q = third (slope p q) p q := cadd_line hp hq hc hl
    generalize slope p q = l at *
    have ha := congrArg σ hl.at_
    have ht := congrArg σ hl.tan
    simp only [h.sig.mul, h.sig.add, h.sig.sub] at ha ht
    have hl' : Ln (e * σ l) (turnm σ e p) (turnm σ e q) := by
      refine ⟨?_, ?_⟩
      · show e * e * e * σ q.2 = e * e * e * σ p.2 + e * σ l * (e * e * σ q.1 - e * e * σ p.1)
        exact (eq_of_sub (Eq.trans (show ((((e * e) * e) * (σ q.2)) - ((((e * e) * e) * (σ p.2)) + ((e * (σ l)) * (((e * e) * (σ q.1)) - ((e * e) * (σ p.1)))))) = (((e * e) * e) * ((σ q.2) - ((σ p.2) + ((σ l) * ((σ q.1) - (σ p.1)))))) from ring_id (fun vi_ => vget vi_ [e, σ p.1, σ p.2, σ q.1, σ q.2, σ l]) (.sub (.mul (.mul (.mul (.var 0) (.var 0)) (.var 0)) (.var 4)) (.add (.mul (.mul (.mul (.var 0) (.var 0)) (.var 0)) (.var 2)) (.mul (.mul (.var 0) (.var 5)) (.sub (.mul (.mul (.var 0) (.var 0)) (.var 3)) (.mul (.mul (.var 0) (.var 0)) (.var 1)))))) (.mul (.mul (.mul (.var 0) (.var 0)) (.var 0)) (.sub (.var 4) (.add (.var 2) (.mul (.var 5) (.sub (.var 3) (.var 1)))))) (by kernel_rfl)) (lz ha)))
      · show e * e * σ p.1 * (e * e * σ p.1) + e * e * σ p.1 * (e * e * σ q.1) + e * e * σ q.1 * (e * e * σ q.1) = e * σ l * (e * e * e * σ p.2 + e * e * e * σ p.2 + e * σ l * (e * e * σ q.1 - e * e * σ p.1))
        exact (eq_of_sub (Eq.trans (show ((((((e * e) * (σ p.1)) * ((e * e) * (σ p.1))) + (((e * e) * (σ p.1)) * ((e * e) * (σ q.1)))) + (((e * e) * (σ q.1)) * ((e * e) * (σ q.1)))) - ((e * (σ l)) * (((((e * e) * e) * (σ p.2)) + (((e * e) * e) * (σ p.2))) + ((e * (σ l)) * (((e * e) * (σ q.1)) - ((e * e) * (σ p.1))))))) = (((e * e) * (e * e)) * (((((σ p.1) * (σ p.1)) + ((σ p.1) * (σ q.1))) + ((σ q.1) * (σ q.1))) - ((σ l) * (((σ p.2) + (σ p.2)) + ((σ l) * ((σ q.1) - (σ p.1))))))) from ring_id (fun vi_ => vget vi_ [e, σ p.1, σ p.2, σ q.1, σ l]) (.sub (.add (.add (.mul (.mul (.mul (.var 0) (.var 0)) (.var 1)) (.mul (.mul (.var 0) (.var 0)) (.var 1))) (.mul (.mul (.mul (.var 0) (.var 0)) (.var 1)) (.mul (.mul (.var 0) (.var 0)) (.var 3)))) (.mul (.mul (.mul (.var 0) (.var 0)) (.var 3)) (.mul (.mul (.var 0) (.var 0)) (.var 3)))) (.mul (.mul (.var 0) (.var 4)) (.add (.add (.mul (.mul (.mul (.var 0) (.var 0)) (.var 0)) (.var 2)) (.mul (.mul (.mul (.var 0) (.var 0)) (.var 0)) (.var 2))) (.mul (.mul (.var 0) (.var 4)) (.sub (.mul (.mul (.var 0) (.var 0)) (.var 3)) (.mul (.mul (.var 0) (.var 0)) (.var 1))))))) (.mul (.mul (.mul (.var 0) (.var 0)) (.mul (.var 0) (.var 0))) (.sub (.add (.add (.mul (.var 1) (.var 1)) (.mul (.var 1) (.var 3))) (.mul (.var 3) (.var 3))) (.mul (.var 4) (.add (.add (.var 2) (.var 2)) (.mul (.var 4) (.sub (.var 3) (.var 1))))))) (by kernel_rfl)) (lz ht)))
    rw [e1, cadd_line hp' hq' hc' hl']
    unfold turnm third
    simp only [h.sig.mul, h.sig.add, h.sig.sub]
    refine Prod.ext ?_ ?_
    · exact (show ((e * e) * ((((σ l) * (σ l)) - (σ p.1)) - (σ q.1))) = ((((e * (σ l)) * (e * (σ l))) - ((e * e) * (σ p.1))) - ((e * e) * (σ q.1))) from ring_id (fun vi_ => vget vi_ [e, σ p.1, σ q.1, σ l]) (.mul (.mul (.var 0) (.var 0)) (.sub (.sub (.mul (.var 3) (.var 3)) (.var 1)) (.var 2))) (.sub (.sub (.mul (.mul (.var 0) (.var 3)) (.mul (.var 0) (.var 3))) (.mul (.mul (.var 0) (.var 0)) (.var 1))) (.mul (.mul (.var 0) (.var 0)) (.var 2))) (by kernel_rfl))
    · exact (show (((e * e) * e) * (((σ l) * ((σ p.1) - ((((σ l) * (σ l)) - (σ p.1)) - (σ q.1)))) - (σ p.2))) = (((e * (σ l)) * (((e * e) * (σ p.1)) - ((((e * (σ l)) * (e * (σ l))) - ((e * e) * (σ p.1))) - ((e * e) * (σ q.1))))) - (((e * e) * e) * (σ p.2))) from ring_id (fun vi_ => vget vi_ [e, σ p.1, σ p.2, σ q.1, σ l]) (.mul (.mul (.mul (.var 0) (.var 0)) (.var 0)) (.sub (.mul (.var 4) (.sub (.var 1) (.sub (.sub (.mul (.var 4) (.var 4)) (.var 1)) (.var 3)))) (.var 2))) (.sub (.mul (.mul (.var 0) (.var 4)) (.sub (.mul (.mul (.var 0) (.var 0)) (.var 1)) (.sub (.sub (.mul (.mul (.var 0) (.var 4)) (.mul (.var 0) (.var 4))) (.mul (.mul (.var 0) (.var 0)) (.var 1))) (.mul (.mul (.var 0) (.var 0)) (.var 3))))) (.mul (.mul (.mul (.var 0) (.var 0)) (.var 0)) (.var 2))) (by kernel_rfl))
/-- The turn, as a map of the curve's group. -/
def turnG {σ : α → α} {e : α} (h : Turn B σ e) (p : Gp B) : Gp B := ⟨turnm σ e p.1, turn_on h p.2⟩
theorem turnG_add {σ : α → α} {e : α} (h : Turn B σ e) (p q : Gp B) : turnG h (p + q) = turnG h p + turnG h q := Gp.ext (turn_add h p.2 q.2)
theorem turnG_zero {σ : α → α} {e : α} (h : Turn B σ e) : turnG h (0 : Gp B) = 0 := Gp.ext (turn_zero h)
theorem turnG_nmul {σ : α → α} {e : α} (h : Turn B σ e) (p : Gp B) : ∀ n, turnG h (nmul n p) = nmul n (turnG h p)
  | 0 => turnG_zero h
  | n + 1 => by rw [nmul, turnG_add, turnG_nmul h p n, nmul]
theorem turnG_neg {σ : α → α} {e : α} (h : Turn B σ e) (p : Gp B) : turnG h (-p) = -turnG h p := a_neg_eq (by rw [← turnG_add, a_neg, turnG_zero])
end
end Go.Ec

/- The two fields, and the number under the curve's root. -/
namespace Go.Cu
open Go.Ec
open CR
set_option linter.unusedVariables false
set_option linter.unusedSimpArgs false
set_option linter.unusedSectionVars false
set_option linter.constructorNameAsVariable false

instance fqFld : Fld Fq where
  toCR := inferInstance
  finv x := pw x (pp - 2)
  mul_finv a ha := by
    have h := fermat prime_pp ha
    rw [show pp - 1 = (pp - 2) + 1 from rfl, pw, mul_comm] at h
    exact h
  one_ne := one_ne prime_pp
instance frFld : Fld Fs where
  toCR := inferInstance
  finv x := pw x (rr - 2)
  mul_finv a ha := by
    have h := fermat prime_rr ha
    rw [show rr - 1 = (rr - 2) + 1 from rfl, pw, mul_comm] at h
    exact h
  one_ne := one_ne prime_rr
instance fourGood : Gd four where
  two := by decide +kernel
  three := by decide +kernel
  b := by decide +kernel

end Go.Cu

/- The field with i: numbers a + b i, their sums and products, inverses; how Go lays them, and when two of them are equal in Go. -/
namespace Go.Cu
open Go Go.Ec Go.Vm Go.RowKit Go.Proofs
set_option linter.unusedVariables false
set_option linter.unusedSimpArgs false
set_option linter.unusedSectionVars false
attribute [local irreducible] W OpsW Det Fresh New Writes Vm.Pure Makes Changes ExternTo BuildTo ZeroTo FieldTo IndexTo BinTo SliceTo Vm.Enters
open CR

/-- a + b i, where i i = -1. -/
structure Fq2 where
  a : Fq
  b : Fq
theorem Fq2.ext : ∀ {x y : Fq2}, x.a = y.a → x.b = y.b → x = y
  | ⟨_, _⟩, ⟨_, _⟩, rfl, rfl => rfl
theorem Fq2.ext_iff {x y : Fq2} : x = y ↔ x.a = y.a ∧ x.b = y.b := ⟨fun h => by rw [h]; exact ⟨rfl, rfl⟩, fun h => Fq2.ext h.1 h.2⟩
instance : DecidableEq Fq2 := fun x y => decidable_of_iff (x.a = y.a ∧ x.b = y.b) Fq2.ext_iff.symm
instance : CR Fq2 where
  add x y := ⟨x.a + y.a, x.b + y.b⟩
  mul x y := ⟨x.a * y.a - x.b * y.b, (x.a + x.b) * (y.a + y.b) - x.a * y.a - x.b * y.b⟩
  neg x := ⟨-x.a, -x.b⟩
  sub x y := ⟨x.a - y.a, x.b - y.b⟩
  zero := ⟨0, 0⟩
  one := ⟨1, 0⟩
  add_comm u v := Fq2.ext (add_comm _ _) (add_comm _ _)
  add_assoc u v w := Fq2.ext (add_assoc _ _ _) (add_assoc _ _ _)
  zero_add u := Fq2.ext (zero_add _) (zero_add _)
  neg_add u := Fq2.ext (neg_add _) (neg_add _)
  sub_eq u v := Fq2.ext (sub_eq _ _) (sub_eq _ _)
  mul_comm u v := Fq2.ext (show ((u.a * v.a) - (u.b * v.b)) = ((v.a * u.a) - (v.b * u.b)) from ring_id (fun vi_ => vget vi_ [u.a, u.b, v.a, v.b]) (.sub (.mul (.var 0) (.var 2)) (.mul (.var 1) (.var 3))) (.sub (.mul (.var 2) (.var 0)) (.mul (.var 3) (.var 1))) (by kernel_rfl)) (show ((((u.a + u.b) * (v.a + v.b)) - (u.a * v.a)) - (u.b * v.b)) = ((((v.a + v.b) * (u.a + u.b)) - (v.a * u.a)) - (v.b * u.b)) from ring_id (fun vi_ => vget vi_ [u.a, u.b, v.a, v.b]) (.sub (.sub (.mul (.add (.var 0) (.var 1)) (.add (.var 2) (.var 3))) (.mul (.var 0) (.var 2))) (.mul (.var 1) (.var 3))) (.sub (.sub (.mul (.add (.var 2) (.var 3)) (.add (.var 0) (.var 1))) (.mul (.var 2) (.var 0))) (.mul (.var 3) (.var 1))) (by kernel_rfl))
  mul_assoc u v w := Fq2.ext (show ((((u.a * v.a) - (u.b * v.b)) * w.a) - (((((u.a + u.b) * (v.a + v.b)) - (u.a * v.a)) - (u.b * v.b)) * w.b)) = ((u.a * ((v.a * w.a) - (v.b * w.b))) - (u.b * ((((v.a + v.b) * (w.a + w.b)) - (v.a * w.a)) - (v.b * w.b)))) from ring_id (fun vi_ => vget vi_ [u.a, u.b, v.a, v.b, w.a, w.b]) (.sub (.mul (.sub (.mul (.var 0) (.var 2)) (.mul (.var 1) (.var 3))) (.var 4)) (.mul (.sub (.sub (.mul (.add (.var 0) (.var 1)) (.add (.var 2) (.var 3))) (.mul (.var 0) (.var 2))) (.mul (.var 1) (.var 3))) (.var 5))) (.sub (.mul (.var 0) (.sub (.mul (.var 2) (.var 4)) (.mul (.var 3) (.var 5)))) (.mul (.var 1) (.sub (.sub (.mul (.add (.var 2) (.var 3)) (.add (.var 4) (.var 5))) (.mul (.var 2) (.var 4))) (.mul (.var 3) (.var 5))))) (by kernel_rfl))
    (show ((((((u.a * v.a) - (u.b * v.b)) + ((((u.a + u.b) * (v.a + v.b)) - (u.a * v.a)) - (u.b * v.b))) * (w.a + w.b)) - (((u.a * v.a) - (u.b * v.b)) * w.a)) - (((((u.a + u.b) * (v.a + v.b)) - (u.a * v.a)) - (u.b * v.b)) * w.b)) = ((((u.a + u.b) * (((v.a * w.a) - (v.b * w.b)) + ((((v.a + v.b) * (w.a + w.b)) - (v.a * w.a)) - (v.b * w.b)))) - (u.a * ((v.a * w.a) - (v.b * w.b)))) - (u.b * ((((v.a + v.b) * (w.a + w.b)) - (v.a * w.a)) - (v.b * w.b)))) from ring_id (fun vi_ => vget vi_ [u.a, u.b, v.a, v.b, w.a, w.b]) (.sub (.sub (.mul (.add (.sub (.mul (.var 0) (.var 2)) (.mul (.var 1) (.var 3))) (.sub (.sub (.mul (.add (.var 0) (.var 1)) (.add (.var 2) (.var 3))) (.mul (.var 0) (.var 2))) (.mul (.var 1) (.var 3)))) (.add (.var 4) (.var 5))) (.mul (.sub (.mul (.var 0) (.var 2)) (.mul (.var 1) (.var 3))) (.var 4))) (.mul (.sub (.sub (.mul (.add (.var 0) (.var 1)) (.add (.var 2) (.var 3))) (.mul (.var 0) (.var 2))) (.mul (.var 1) (.var 3))) (.var 5))) (.sub (.sub (.mul (.add (.var 0) (.var 1)) (.add (.sub (.mul (.var 2) (.var 4)) (.mul (.var 3) (.var 5))) (.sub (.sub (.mul (.add (.var 2) (.var 3)) (.add (.var 4) (.var 5))) (.mul (.var 2) (.var 4))) (.mul (.var 3) (.var 5))))) (.mul (.var 0) (.sub (.mul (.var 2) (.var 4)) (.mul (.var 3) (.var 5))))) (.mul (.var 1) (.sub (.sub (.mul (.add (.var 2) (.var 3)) (.add (.var 4) (.var 5))) (.mul (.var 2) (.var 4))) (.mul (.var 3) (.var 5))))) (by kernel_rfl))
  one_mul u := Fq2.ext (show ((1 * u.a) - (0 * u.b)) = u.a from ring_id (fun vi_ => vget vi_ [u.a, u.b]) (.sub (.mul .one (.var 0)) (.mul .zero (.var 1))) (.var 0) (by kernel_rfl)) (show ((((1 + 0) * (u.a + u.b)) - (1 * u.a)) - (0 * u.b)) = u.b from ring_id (fun vi_ => vget vi_ [u.a, u.b]) (.sub (.sub (.mul (.add .one .zero) (.add (.var 0) (.var 1))) (.mul .one (.var 0))) (.mul .zero (.var 1))) (.var 1) (by kernel_rfl))
  mul_add u v w := Fq2.ext (show ((u.a * (v.a + w.a)) - (u.b * (v.b + w.b))) = (((u.a * v.a) - (u.b * v.b)) + ((u.a * w.a) - (u.b * w.b))) from ring_id (fun vi_ => vget vi_ [u.a, u.b, v.a, v.b, w.a, w.b]) (.sub (.mul (.var 0) (.add (.var 2) (.var 4))) (.mul (.var 1) (.add (.var 3) (.var 5)))) (.add (.sub (.mul (.var 0) (.var 2)) (.mul (.var 1) (.var 3))) (.sub (.mul (.var 0) (.var 4)) (.mul (.var 1) (.var 5)))) (by kernel_rfl))
    (show ((((u.a + u.b) * ((v.a + w.a) + (v.b + w.b))) - (u.a * (v.a + w.a))) - (u.b * (v.b + w.b))) = (((((u.a + u.b) * (v.a + v.b)) - (u.a * v.a)) - (u.b * v.b)) + ((((u.a + u.b) * (w.a + w.b)) - (u.a * w.a)) - (u.b * w.b))) from ring_id (fun vi_ => vget vi_ [u.a, u.b, v.a, v.b, w.a, w.b]) (.sub (.sub (.mul (.add (.var 0) (.var 1)) (.add (.add (.var 2) (.var 4)) (.add (.var 3) (.var 5)))) (.mul (.var 0) (.add (.var 2) (.var 4)))) (.mul (.var 1) (.add (.var 3) (.var 5)))) (.add (.sub (.sub (.mul (.add (.var 0) (.var 1)) (.add (.var 2) (.var 3))) (.mul (.var 0) (.var 2))) (.mul (.var 1) (.var 3))) (.sub (.sub (.mul (.add (.var 0) (.var 1)) (.add (.var 4) (.var 5))) (.mul (.var 0) (.var 4))) (.mul (.var 1) (.var 5)))) (by kernel_rfl))
def norm2 (x : Fq2) : Fq := x.a * x.a + x.b * x.b
def conj2 (x : Fq2) : Fq2 := ⟨x.a, 0 - x.b⟩
def scale2 (x : Fq2) (k : Fq) : Fq2 := ⟨x.a * k, x.b * k⟩
def inv2 (x : Fq2) : Fq2 := scale2 (conj2 x) (inv (norm2 x))
def small (a b : Nat) : Fq2 := ⟨Zp.of a, Zp.of b⟩
theorem sq_no_neg (x : Fq) : x * x + 1 ≠ 0 := by
  intro h
  have hx : x ≠ 0 := by
    rintro rfl
    rw [mul_zero', zero_add] at h
    exact one_ne prime_pp h
  have h1 := fermat prime_pp hx
  have h2 : x * x = -1 := (eq_of_sub (Eq.trans (show ((x * x) - (-1)) = (1 * (((x * x) + 1) - 0)) from ring_id (fun vi_ => vget vi_ [x]) (.sub (.mul (.var 0) (.var 0)) (.neg .one)) (.mul .one (.sub (.add (.mul (.var 0) (.var 0)) .one) .zero)) (by kernel_rfl)) (lz h)))
  obtain ⟨k, hk⟩ : ∃ k, pp - 1 = 2 * (2 * k + 1) := ⟨(pp - 3) / 4, by decide +kernel⟩
  rw [hk, pw_mul, show pw x 2 = x * x by rw [pw, pw, pw, one_mul], h2, pw, pw_mul, show pw (-1 : Fq) 2 = 1 from by decide +kernel, one_pw, one_mul] at h1
  exact absurd h1 (by decide +kernel)
theorem norm2_ne {x : Fq2} (hx : x ≠ 0) : norm2 x ≠ 0 := by
  intro h
  have h : x.a * x.a + x.b * x.b = 0 := h
  by_cases hb : x.b = 0
  · rw [hb, mul_zero', add_zero'] at h
    have ha : x.a = 0 := Classical.byContradiction fun ha => Fld.mul_ne ha ha h
    exact hx (Fq2.ext ha hb)
  · have hi := Fld.mul_finv x.b hb
    generalize Fld.finv x.b = v at hi
    refine sq_no_neg (x.a * v) ?_
    exact (eq_of_sub (Eq.trans (show ((((x.a * v) * (x.a * v)) + 1) - 0) = (((v * v) * (((x.a * x.a) + (x.b * x.b)) - 0)) + ((-((x.b * v) + 1)) * ((x.b * v) - 1))) from ring_id (fun vi_ => vget vi_ [x.a, x.b, v]) (.sub (.add (.mul (.mul (.var 0) (.var 2)) (.mul (.var 0) (.var 2))) .one) .zero) (.add (.mul (.mul (.var 2) (.var 2)) (.sub (.add (.mul (.var 0) (.var 0)) (.mul (.var 1) (.var 1))) .zero)) (.mul (.neg (.add (.mul (.var 1) (.var 2)) .one)) (.sub (.mul (.var 1) (.var 2)) .one))) (by kernel_rfl)) (lz2 (lz h) (lz hi))))
instance fq2Fld : Fld Fq2 where
  toCR := inferInstance
  finv := inv2
  mul_finv x hx := by
    have hi := Fld.mul_finv (norm2 x) (norm2_ne hx)
    have hi : (x.a * x.a + x.b * x.b) * inv (norm2 x) = 1 := hi
    show (⟨x.a * (x.a * inv (norm2 x)) - x.b * ((0 - x.b) * inv (norm2 x)), (x.a + x.b) * (x.a * inv (norm2 x) + (0 - x.b) * inv (norm2 x)) - x.a * (x.a * inv (norm2 x)) - x.b * ((0 - x.b) * inv (norm2 x))⟩ : Fq2) = ⟨1, 0⟩
    generalize inv (norm2 x) = n at hi
    refine Fq2.ext ?_ ?_
    · exact (eq_of_sub (Eq.trans (show (((x.a * (x.a * n)) - (x.b * ((0 - x.b) * n))) - 1) = (1 * ((((x.a * x.a) + (x.b * x.b)) * n) - 1)) from ring_id (fun vi_ => vget vi_ [x.a, x.b, n]) (.sub (.sub (.mul (.var 0) (.mul (.var 0) (.var 2))) (.mul (.var 1) (.mul (.sub .zero (.var 1)) (.var 2)))) .one) (.mul .one (.sub (.mul (.add (.mul (.var 0) (.var 0)) (.mul (.var 1) (.var 1))) (.var 2)) .one)) (by kernel_rfl)) (lz hi)))
    · exact (show ((((x.a + x.b) * ((x.a * n) + ((0 - x.b) * n))) - (x.a * (x.a * n))) - (x.b * ((0 - x.b) * n))) = 0 from ring_id (fun vi_ => vget vi_ [x.a, x.b, n]) (.sub (.sub (.mul (.add (.var 0) (.var 1)) (.add (.mul (.var 0) (.var 2)) (.mul (.sub .zero (.var 1)) (.var 2)))) (.mul (.var 0) (.mul (.var 0) (.var 2)))) (.mul (.var 1) (.mul (.sub .zero (.var 1)) (.var 2)))) .zero (by kernel_rfl))
  one_ne h := one_ne prime_pp (congrArg Fq2.a h)
theorem sq2 (x : Fq2) : (⟨(x.a + x.b) * (x.a - x.b), x.a * x.b + x.a * x.b⟩ : Fq2) = x * x :=
  Fq2.ext (show ((x.a + x.b) * (x.a - x.b)) = ((x.a * x.a) - (x.b * x.b)) from ring_id (fun vi_ => vget vi_ [x.a, x.b]) (.mul (.add (.var 0) (.var 1)) (.sub (.var 0) (.var 1))) (.sub (.mul (.var 0) (.var 0)) (.mul (.var 1) (.var 1))) (by kernel_rfl)) (show ((x.a * x.b) + (x.a * x.b)) = ((((x.a + x.b) * (x.a + x.b)) - (x.a * x.a)) - (x.b * x.b)) from ring_id (fun vi_ => vget vi_ [x.a, x.b]) (.add (.mul (.var 0) (.var 1)) (.mul (.var 0) (.var 1))) (.sub (.sub (.mul (.add (.var 0) (.var 1)) (.add (.var 0) (.var 1))) (.mul (.var 0) (.var 0))) (.mul (.var 1) (.var 1))) (by kernel_rfl))
end Go.Cu
namespace Go.Cw
open Go Go.Cu Go.Ec Go.Vm Go.RowKit Go.Proofs
attribute [local irreducible] W OpsW Det Fresh New Writes Vm.Pure Makes Changes ExternTo BuildTo ZeroTo FieldTo IndexTo BinTo SliceTo Vm.Enters
def cellsF (x : Fq2) : List Value := Cu.cellsF x.a ++ Cu.cellsF x.b
def encF (x : Fq2) : Value := .agg (cellsF x).toArray
abbrev Pt := Fq2 × Fq2
abbrev Jac := Fq2 × Fq2 × Fq2
def encP (p : Pt) : Value := .agg (cellsF p.1 ++ cellsF p.2).toArray
def encJ (p : Jac) : Value := .agg (cellsF p.1 ++ cellsF p.2.1 ++ cellsF p.2.2).toArray
def cellsJ (j : Jac) : List Value := cellsF j.1 ++ cellsF j.2.1 ++ cellsF j.2.2
def cellsP (p : Pt) : List Value := cellsF p.1 ++ cellsF p.2
theorem eqTo46 (d : Nat) (x y : Fq2) : EqTo Tryd.prog (d + 4) 46 (encF x) (encF y) (decide (x = y)) := by
  have h := eq_two (P := Tryd.prog) (d := d + 3) (t := 46) (xs := (Cu.cellsF x.a ++ Cu.cellsF x.b).toArray) (ys := (Cu.cellsF y.a ++ Cu.cellsF y.b).toArray) (by kernel_rfl) (by kernel_rfl) (nm := "A") (ft := 29) (off := 0) (nm' := "B") (ft' := 29) (off' := 6) (by kernel_rfl) (by decide) (by decide)
    (fun w => by kernel_rfl) (fun w => by kernel_rfl) (eqTo29 d x.a y.a) (fun w => by kernel_rfl) (fun w => by kernel_rfl) (eqTo29 d x.b y.b)
  have hb : (decide (x.a = y.a) && decide (x.b = y.b)) = decide (x = y) := by
    rw [Bool.eq_iff_iff]; simp [Fq2.ext_iff]
  rw [hb] at h
  exact h
theorem eqTo48 (d : Nat) (p q : Pt) : EqTo Tryd.prog (d + 5) 48 (encP p) (encP q) (decide (p = q)) := by
  have h := eq_two (P := Tryd.prog) (d := d + 4) (t := 48) (xs := (cellsF p.1 ++ cellsF p.2).toArray) (ys := (cellsF q.1 ++ cellsF q.2).toArray) (by kernel_rfl) (by kernel_rfl) (nm := "X") (ft := 46) (off := 0) (nm' := "Y") (ft' := 46) (off' := 12) (by kernel_rfl) (by decide) (by decide)
    (fun w => by kernel_rfl) (fun w => by kernel_rfl) (eqTo46 d p.1 q.1) (fun w => by kernel_rfl) (fun w => by kernel_rfl) (eqTo46 d p.2 q.2)
  have hb : (decide (p.1 = q.1) && decide (p.2 = q.2)) = decide (p = q) := by
    rw [Bool.eq_iff_iff]; simp [Prod.ext_iff]
  rw [hb] at h
  exact h
theorem eq46 {x y : Operand} {a b : Fq2} : BinTo Tryd.prog .eql 46 x y (encF a) (encF b) (.bool (decide (a = b))) := bin_of_eq (by kernel_rfl) (eqTo46 9996 a b)
theorem ne46 {x y : Operand} {a b : Fq2} : BinTo Tryd.prog .neq 46 x y (encF a) (encF b) (.bool (!decide (a = b))) := bin_of_ne (by kernel_rfl) (eqTo46 9996 a b)
theorem eq48 {x y : Operand} {a b : Pt} : BinTo Tryd.prog .eql 48 x y (encP a) (encP b) (.bool (decide (a = b))) := bin_of_eq (by kernel_rfl) (eqTo48 9995 a b)
theorem ne48 {x y : Operand} {a b : Pt} : BinTo Tryd.prog .neq 48 x y (encP a) (encP b) (.bool (!decide (a = b))) := bin_of_ne (by kernel_rfl) (eqTo48 9995 a b)
section
variable {K : List Nat} {G : Hp} {w0 : World} {d : Option Tmp} {ty xt yt : TypeId} {pos : String} {after : Array Edge} {g : Option (Nat × Bool)} {F : Fr} {H : Hp} {x y : Operand}
theorem det_eql46 {a b : Fq2} (hx : ev F x = some (encF a)) (hy : ev F y = some (encF b)) : Det Tryd.prog K G w0 ⟨d, .binOp .eql 46 x y yt, ty, pos, after, g⟩ F H (.bool (decide (a = b))) := det_binTo hx hy eq46
theorem det_neq46 {a b : Fq2} (hx : ev F x = some (encF a)) (hy : ev F y = some (encF b)) : Det Tryd.prog K G w0 ⟨d, .binOp .neq 46 x y yt, ty, pos, after, g⟩ F H (.bool (!decide (a = b))) := det_binTo hx hy ne46
theorem det_eql48 {a b : Pt} (hx : ev F x = some (encP a)) (hy : ev F y = some (encP b)) : Det Tryd.prog K G w0 ⟨d, .binOp .eql 48 x y yt, ty, pos, after, g⟩ F H (.bool (decide (a = b))) := det_binTo hx hy eq48
theorem det_neq48 {a b : Pt} (hx : ev F x = some (encP a)) (hy : ev F y = some (encP b)) : Det Tryd.prog K G w0 ⟨d, .binOp .neq 48 x y yt, ty, pos, after, g⟩ F H (.bool (!decide (a = b))) := det_binTo hx hy ne48
theorem z46r : TyZ Tryd.prog 46 (encF 0) (cellsF 0) := ⟨fun _ => by kernel_rfl, rfl⟩
theorem tyW46 : TyA Tryd.prog 46 12 := ⟨by kernel_rfl, by kernel_rfl⟩
theorem szW46 : sizeIn Tryd.prog 46 = some 12 := by kernel_rfl
theorem det_loadW46 {p : Fq2} {b e : Nat} {fr : Nat × Nat} (hx : ev F x = some (.pointer (some ⟨b, 0, none⟩))) (hm : (b, Obj.cells (cellsF p).toArray e fr) ∈ H) : Det Tryd.prog K G w0 ⟨d, .load 46 x, ty, pos, after, g⟩ F H (encF p) := det_loadW tyW46 rfl hx hm
theorem fr_boxW46 {p : Fq2} (hx : ev F x = some (encF p)) : Fresh Tryd.prog K G w0 ⟨d, .box 46 x, ty, pos, after, g⟩ F (fun b => .pointer (some ⟨b, 0, none⟩)) (blk (cellsF p) 46) := fr_box hx rfl
theorem OpsW.storeW46 {n : Nat} {ops : Array Oper} {rest : List Oper} {R : Fr → Hp → Prop} {H' : Hp} {p q : Fq2} {b e : Nat} (hx : ev F x = some (.pointer (some ⟨b, 0, none⟩))) (hy : ev F y = some (encF p)) (hu : Upd H b (blk (cellsF q) e) (blk (cellsF p) e) H') (h : OpsW Tryd.prog n K G w0 ops rest R F H') :
    OpsW Tryd.prog n K G w0 ops (⟨none, .store 46 x y, ty, pos, after, none⟩ :: rest) R F H := Vm.OpsW.storeW szW46 rfl rfl rfl hx hy hu h
theorem z48r : TyZ Tryd.prog 48 (encP (0, 0)) (cellsP (0, 0)) := ⟨fun _ => by kernel_rfl, rfl⟩
theorem tyW48 : TyA Tryd.prog 48 24 := ⟨by kernel_rfl, by kernel_rfl⟩
theorem szW48 : sizeIn Tryd.prog 48 = some 24 := by kernel_rfl
theorem det_loadW48 {p : Pt} {b e : Nat} {fr : Nat × Nat} (hx : ev F x = some (.pointer (some ⟨b, 0, none⟩))) (hm : (b, Obj.cells (cellsP p).toArray e fr) ∈ H) : Det Tryd.prog K G w0 ⟨d, .load 48 x, ty, pos, after, g⟩ F H (encP p) := det_loadW tyW48 rfl hx hm
theorem fr_boxW48 {p : Pt} (hx : ev F x = some (encP p)) : Fresh Tryd.prog K G w0 ⟨d, .box 48 x, ty, pos, after, g⟩ F (fun b => .pointer (some ⟨b, 0, none⟩)) (blk (cellsP p) 48) := fr_box hx rfl
theorem OpsW.storeW48 {n : Nat} {ops : Array Oper} {rest : List Oper} {R : Fr → Hp → Prop} {H' : Hp} {p q : Pt} {b e : Nat} (hx : ev F x = some (.pointer (some ⟨b, 0, none⟩))) (hy : ev F y = some (encP p)) (hu : Upd H b (blk (cellsP q) e) (blk (cellsP p) e) H') (h : OpsW Tryd.prog n K G w0 ops rest R F H') :
    OpsW Tryd.prog n K G w0 ops (⟨none, .store 48 x y, ty, pos, after, none⟩ :: rest) R F H := Vm.OpsW.storeW szW48 rfl rfl rfl hx hy hu h
theorem z112r : TyZ Tryd.prog 112 (encJ (0, 0, 0)) (cellsJ (0, 0, 0)) := ⟨fun _ => by kernel_rfl, rfl⟩
theorem tyW112 : TyA Tryd.prog 112 36 := ⟨by kernel_rfl, by kernel_rfl⟩
theorem szW112 : sizeIn Tryd.prog 112 = some 36 := by kernel_rfl
theorem det_loadW112 {p : Jac} {b e : Nat} {fr : Nat × Nat} (hx : ev F x = some (.pointer (some ⟨b, 0, none⟩))) (hm : (b, Obj.cells (cellsJ p).toArray e fr) ∈ H) : Det Tryd.prog K G w0 ⟨d, .load 112 x, ty, pos, after, g⟩ F H (encJ p) := det_loadW tyW112 rfl hx hm
theorem fr_boxW112 {p : Jac} (hx : ev F x = some (encJ p)) : Fresh Tryd.prog K G w0 ⟨d, .box 112 x, ty, pos, after, g⟩ F (fun b => .pointer (some ⟨b, 0, none⟩)) (blk (cellsJ p) 112) := fr_box hx rfl
theorem OpsW.storeW112 {n : Nat} {ops : Array Oper} {rest : List Oper} {R : Fr → Hp → Prop} {H' : Hp} {p q : Jac} {b e : Nat} (hx : ev F x = some (.pointer (some ⟨b, 0, none⟩))) (hy : ev F y = some (encJ p)) (hu : Upd H b (blk (cellsJ q) e) (blk (cellsJ p) e) H') (h : OpsW Tryd.prog n K G w0 ops rest R F H') :
    OpsW Tryd.prog n K G w0 ops (⟨none, .store 112 x y, ty, pos, after, none⟩ :: rest) R F H := Vm.OpsW.storeW szW112 rfl rfl rfl hx hy hu h
def cellsR (x : Fs) : List Value := w4 (lim (montr x))
theorem z67r : TyZ Tryd.prog 67 (encR 0) (cellsR 0) := ⟨fun _ => by kernel_rfl, rfl⟩
theorem tyW67 : TyA Tryd.prog 67 4 := ⟨by kernel_rfl, by kernel_rfl⟩
theorem szW67 : sizeIn Tryd.prog 67 = some 4 := by kernel_rfl
theorem det_loadW67 {p : Fs} {b e : Nat} {fr : Nat × Nat} (hx : ev F x = some (.pointer (some ⟨b, 0, none⟩))) (hm : (b, Obj.cells (cellsR p).toArray e fr) ∈ H) : Det Tryd.prog K G w0 ⟨d, .load 67 x, ty, pos, after, g⟩ F H (encR p) := det_loadW tyW67 rfl hx hm
theorem fr_boxW67 {p : Fs} (hx : ev F x = some (encR p)) : Fresh Tryd.prog K G w0 ⟨d, .box 67 x, ty, pos, after, g⟩ F (fun b => .pointer (some ⟨b, 0, none⟩)) (blk (cellsR p) 67) := fr_box hx rfl
theorem OpsW.storeW67 {n : Nat} {ops : Array Oper} {rest : List Oper} {R : Fr → Hp → Prop} {H' : Hp} {p q : Fs} {b e : Nat} (hx : ev F x = some (.pointer (some ⟨b, 0, none⟩))) (hy : ev F y = some (encR p)) (hu : Upd H b (blk (cellsR q) e) (blk (cellsR p) e) H') (h : OpsW Tryd.prog n K G w0 ops rest R F H') :
    OpsW Tryd.prog n K G w0 ops (⟨none, .store 67 x y, ty, pos, after, none⟩ :: rest) R F H := Vm.OpsW.storeW szW67 rfl rfl rfl hx hy hu h
end
end Go.Cw

/- The field with i: what its functions compute: the walks. Conditions: none. -/
namespace Go.Cw
open Go Go.Vm Go.RowKit Go.Proofs Go.Cu
attribute [local irreducible] W OpsW Det Fresh New Writes Vm.Pure Makes Changes ExternTo BuildTo ZeroTo FieldTo IndexTo BinTo SliceTo Vm.Enters
set_option linter.unusedVariables false
set_option linter.unusedSimpArgs false
variable {T : Nat → TypeId × Nat × Nat}

theorem bld46 {a b : Fq} : BuildTo Tryd.prog 46 [(0, Cu.encF a), (1, Cu.encF b)] (encF ⟨a, b⟩) := BuildTo.of fun _ => by kernel_rfl
theorem bz46 : ZeroTo Tryd.prog 46 (encF 0) := ZeroTo.of fun _ => by kernel_rfl
theorem en84 : Vm.Enters Tryd.prog 84 := Vm.Enters.of fun _ _ => by kernel_rfl
theorem en66 : Vm.Enters Tryd.prog 66 := Vm.Enters.of fun _ _ => by kernel_rfl
theorem en100 : Vm.Enters Tryd.prog 100 := Vm.Enters.of fun _ _ => by kernel_rfl
theorem en29 : Vm.Enters Tryd.prog 29 := Vm.Enters.of fun _ _ => by kernel_rfl
theorem fl46_0 : TyF Tryd.prog 46 0 0 6 := ⟨⟨29, by kernel_rfl, by kernel_rfl⟩, by decide⟩
theorem fl46_1 : TyF Tryd.prog 46 1 6 6 := ⟨⟨29, by kernel_rfl, by kernel_rfl⟩, by decide⟩
theorem sz46 : sizeIn Tryd.prog 46 = some 12 := by kernel_rfl
theorem ty46 : TyA Tryd.prog 46 12 := ⟨by kernel_rfl, by kernel_rfl⟩
theorem Add_ok {x y : Fq2} {w : World} (hG : Blocks (GH T) w)  : Vm.Pure Tryd.prog 28 #[encF x, encF y] w (encF (x + y)) := by
  refine pure_of_W (n := 16) (args := [encF x, encF y]) Tryd.func28 rfl Tryd.ntmps28 (Nat.le_of_ble_eq_true rfl) hG ?_
  refine sStart ?_
  refine sSeq ?_
  refine W.region ?_
  refine OpsW.fresh (fr_boxW46 rfl) rfl fun b2 => ?_
  refine OpsW.fresh (fr_boxW46 rfl) rfl fun b3 => ?_
  refine OpsW.fresh (fr_alloc z46r) rfl fun b4 => ?_
  refine sNext ?_
  refine W.keep (F' := [(4, _), (3, _), (2, _)]) ⟨rfl, rfl, rfl, trivial⟩ ?_
  refine sSeq ?_
  refine W.draw mixed 11 [[], [0], [], [2], [0, 1, 2, 3], [], [5], [], [7], [0, 1, 2, 3, 4, 5, 6, 7, 8], [0, 1, 2, 3, 4, 5, 6, 7, 8, 9], [0, 1, 2, 3, 4, 5, 6, 7, 8, 9, 10]] (cl_lt (by decide)) ?_
  refine HeadR.start (cl_lt (by decide)) ?_
  refine HeadR.det rfl (fun β hβ => (det_fieldAddr fl46_0 rfl)) ?_
  refine HeadR.det rfl (fun β hβ => (det_loadA ty29 rfl (List.Mem.tail _ (List.Mem.tail _ (List.Mem.head _))) rfl)) ?_
  refine HeadR.det rfl (fun β hβ => (det_fieldAddr fl46_0 rfl)) ?_
  refine HeadR.det rfl (fun β hβ => (det_loadA ty29 rfl (List.Mem.tail _ (List.Mem.head _)) rfl)) ?_
  refine HeadR.det rfl (fun β hβ => (det_call en18 rfl (fun w hb ho => Cu.Add_ok ho.blocks))) ?_
  refine HeadR.det rfl (fun β hβ => (det_fieldAddr fl46_1 rfl)) ?_
  refine HeadR.det rfl (fun β hβ => (det_loadA ty29 rfl (List.Mem.tail _ (List.Mem.tail _ (List.Mem.head _))) rfl)) ?_
  refine HeadR.det rfl (fun β hβ => (det_fieldAddr fl46_1 rfl)) ?_
  refine HeadR.det rfl (fun β hβ => (det_loadA ty29 rfl (List.Mem.tail _ (List.Mem.head _)) rfl)) ?_
  refine HeadR.det rfl (fun β hβ => (det_call en18 rfl (fun w hb ho => Cu.Add_ok ho.blocks))) ?_
  refine HeadR.det rfl (fun β hβ => (det_build rfl bld46)) ?_
  refine HeadR.done ⟨by kernel_rfl, fun β hβ => ?_⟩
  refine OpsW.norm (F' := [(5, _), (6, _), (7, _), (8, _), (9, _), (10, _), (11, _), (12, _), (13, _), (14, _), (15, _), (4, _), (3, _), (2, _)]) (H' := [(_, _), (_, _), (_, _)]) rfl rfl ?_
  refine OpsW.storeW46 rfl rfl (Upd.here) ?_
  refine sNext ?_
  refine W.keep (F' := [(4, _)]) ⟨rfl, trivial⟩ ?_
  refine sRet ?_
  exact done1 Tryd.results28 (rv_cellA ty46 rfl (List.Mem.head _) rfl) rfl
theorem Sub_ok {x y : Fq2} {w : World} (hG : Blocks (GH T) w)  : Vm.Pure Tryd.prog 95 #[encF x, encF y] w (encF (x - y)) := by
  refine pure_of_W (n := 16) (args := [encF x, encF y]) Tryd.func95 rfl Tryd.ntmps95 (Nat.le_of_ble_eq_true rfl) hG ?_
  refine sStart ?_
  refine sSeq ?_
  refine W.region ?_
  refine OpsW.fresh (fr_boxW46 rfl) rfl fun b2 => ?_
  refine OpsW.fresh (fr_boxW46 rfl) rfl fun b3 => ?_
  refine OpsW.fresh (fr_alloc z46r) rfl fun b4 => ?_
  refine sNext ?_
  refine W.keep (F' := [(4, _), (3, _), (2, _)]) ⟨rfl, rfl, rfl, trivial⟩ ?_
  refine sSeq ?_
  refine W.draw mixed 11 [[], [0], [], [2], [0, 1, 2, 3], [], [5], [], [7], [0, 1, 2, 3, 4, 5, 6, 7, 8], [0, 1, 2, 3, 4, 5, 6, 7, 8, 9], [0, 1, 2, 3, 4, 5, 6, 7, 8, 9, 10]] (cl_lt (by decide)) ?_
  refine HeadR.start (cl_lt (by decide)) ?_
  refine HeadR.det rfl (fun β hβ => (det_fieldAddr fl46_0 rfl)) ?_
  refine HeadR.det rfl (fun β hβ => (det_loadA ty29 rfl (List.Mem.tail _ (List.Mem.tail _ (List.Mem.head _))) rfl)) ?_
  refine HeadR.det rfl (fun β hβ => (det_fieldAddr fl46_0 rfl)) ?_
  refine HeadR.det rfl (fun β hβ => (det_loadA ty29 rfl (List.Mem.tail _ (List.Mem.head _)) rfl)) ?_
  refine HeadR.det rfl (fun β hβ => (det_call en62 rfl (fun w hb ho => Cu.Sub_ok ho.blocks))) ?_
  refine HeadR.det rfl (fun β hβ => (det_fieldAddr fl46_1 rfl)) ?_
  refine HeadR.det rfl (fun β hβ => (det_loadA ty29 rfl (List.Mem.tail _ (List.Mem.tail _ (List.Mem.head _))) rfl)) ?_
  refine HeadR.det rfl (fun β hβ => (det_fieldAddr fl46_1 rfl)) ?_
  refine HeadR.det rfl (fun β hβ => (det_loadA ty29 rfl (List.Mem.tail _ (List.Mem.head _)) rfl)) ?_
  refine HeadR.det rfl (fun β hβ => (det_call en62 rfl (fun w hb ho => Cu.Sub_ok ho.blocks))) ?_
  refine HeadR.det rfl (fun β hβ => (det_build rfl bld46)) ?_
  refine HeadR.done ⟨by kernel_rfl, fun β hβ => ?_⟩
  refine OpsW.norm (F' := [(5, _), (6, _), (7, _), (8, _), (9, _), (10, _), (11, _), (12, _), (13, _), (14, _), (15, _), (4, _), (3, _), (2, _)]) (H' := [(_, _), (_, _), (_, _)]) rfl rfl ?_
  refine OpsW.storeW46 rfl rfl (Upd.here) ?_
  refine sNext ?_
  refine W.keep (F' := [(4, _)]) ⟨rfl, trivial⟩ ?_
  refine sRet ?_
  exact done1 Tryd.results95 (rv_cellA ty46 rfl (List.Mem.head _) rfl) rfl
theorem Mul_ok {x y : Fq2} {w : World} (hG : Blocks (GH T) w)  : Vm.Pure Tryd.prog 27 #[encF x, encF y] w (encF (x * y)) := by
  refine pure_of_W (n := 38) (args := [encF x, encF y]) Tryd.func27 rfl Tryd.ntmps27 (Nat.le_of_ble_eq_true rfl) hG ?_
  refine sStart ?_
  refine sSeq ?_
  refine W.region ?_
  refine OpsW.fresh (fr_boxW46 rfl) rfl fun b2 => ?_
  refine OpsW.fresh (fr_boxW46 rfl) rfl fun b3 => ?_
  refine OpsW.fresh (fr_alloc z46r) rfl fun b4 => ?_
  refine sNext ?_
  refine W.keep (F' := [(4, _), (3, _), (2, _)]) ⟨rfl, rfl, rfl, trivial⟩ ?_
  refine sSeq ?_
  refine W.draw mixed 12 [[], [0], [], [2], [0, 1, 2, 3], [], [5], [], [7], [0, 1, 2, 3, 4, 5, 6, 7, 8], [], [], [0, 1, 2, 3, 4, 5, 6, 7, 8, 9, 10, 11], [0, 1, 2, 3, 4, 5, 6, 7, 8, 9, 10, 11, 12]] (cl_lt (by decide)) ?_
  refine HeadR.start (cl_lt (by decide)) ?_
  refine HeadR.det rfl (fun β hβ => (det_fieldAddr fl46_0 rfl)) ?_
  refine HeadR.det rfl (fun β hβ => (det_loadA ty29 rfl (List.Mem.tail _ (List.Mem.tail _ (List.Mem.head _))) rfl)) ?_
  refine HeadR.det rfl (fun β hβ => (det_fieldAddr fl46_0 rfl)) ?_
  refine HeadR.det rfl (fun β hβ => (det_loadA ty29 rfl (List.Mem.tail _ (List.Mem.head _)) rfl)) ?_
  refine HeadR.det rfl (fun β hβ => (det_call en17 rfl (fun w hb ho => Cu.Mul_ok ho.blocks))) ?_
  refine HeadR.det rfl (fun β hβ => (det_fieldAddr fl46_1 rfl)) ?_
  refine HeadR.det rfl (fun β hβ => (det_loadA ty29 rfl (List.Mem.tail _ (List.Mem.tail _ (List.Mem.head _))) rfl)) ?_
  refine HeadR.det rfl (fun β hβ => (det_fieldAddr fl46_1 rfl)) ?_
  refine HeadR.det rfl (fun β hβ => (det_loadA ty29 rfl (List.Mem.tail _ (List.Mem.head _)) rfl)) ?_
  refine HeadR.det rfl (fun β hβ => (det_call en17 rfl (fun w hb ho => Cu.Mul_ok ho.blocks))) ?_
  refine HeadR.fresh rfl (fun β hβ => (fr_alloc z29).new) ?_
  refine HeadR.fresh rfl (fun β hβ => (fr_alloc z29).new) ?_
  refine HeadR.done ⟨by kernel_rfl, fun β hβ => ?_⟩
  refine OpsW.norm (F' := [(8, _), (9, _), (10, _), (11, _), (12, _), (13, _), (14, _), (15, _), (16, _), (17, _), (5, .pointer (some ⟨(β 5).1, 0, none⟩)), (6, .pointer (some ⟨(β 6).1, 0, none⟩)), (4, _), (3, _), (2, _)]) (H' := [(_, _), (_, _), (_, _), (_, _), (_, _)]) rfl rfl ?_
  generalize (β 5).1 = b5
  generalize (β 6).1 = b6
  refine OpsW.store sz29 rfl rfl rfl rfl rfl (Upd.here) rfl ?_
  refine OpsW.store sz29 rfl rfl rfl rfl rfl (Upd.there (Upd.here)) rfl ?_
  refine sNext ?_
  refine W.keep (F' := [(5, _), (6, _), (4, _), (3, _), (2, _)]) ⟨rfl, rfl, rfl, rfl, rfl, trivial⟩ ?_
  refine sSeq ?_
  refine W.draw mixed 12 [[], [0], [], [2], [0, 1, 2, 3], [], [5], [], [7], [0, 1, 2, 3, 4, 5, 6, 7, 8], [0, 1, 2, 3, 4, 5, 6, 7, 8, 9], [], [0, 1, 2, 3, 4, 5, 6, 7, 8, 9, 10, 11]] (cl_lt (by decide)) ?_
  refine HeadR.start (cl_lt (by decide)) ?_
  refine HeadR.det rfl (fun β hβ => (det_fieldAddr fl46_0 rfl)) ?_
  refine HeadR.det rfl (fun β hβ => (det_loadA ty29 rfl (List.Mem.tail _ (List.Mem.tail _ (List.Mem.tail _ (List.Mem.tail _ (List.Mem.head _))))) rfl)) ?_
  refine HeadR.det rfl (fun β hβ => (det_fieldAddr fl46_1 rfl)) ?_
  refine HeadR.det rfl (fun β hβ => (det_loadA ty29 rfl (List.Mem.tail _ (List.Mem.tail _ (List.Mem.tail _ (List.Mem.tail _ (List.Mem.head _))))) rfl)) ?_
  refine HeadR.det rfl (fun β hβ => (det_call en18 rfl (fun w hb ho => Cu.Add_ok ho.blocks))) ?_
  refine HeadR.det rfl (fun β hβ => (det_fieldAddr fl46_0 rfl)) ?_
  refine HeadR.det rfl (fun β hβ => (det_loadA ty29 rfl (List.Mem.tail _ (List.Mem.tail _ (List.Mem.tail _ (List.Mem.head _)))) rfl)) ?_
  refine HeadR.det rfl (fun β hβ => (det_fieldAddr fl46_1 rfl)) ?_
  refine HeadR.det rfl (fun β hβ => (det_loadA ty29 rfl (List.Mem.tail _ (List.Mem.tail _ (List.Mem.tail _ (List.Mem.head _)))) rfl)) ?_
  refine HeadR.det rfl (fun β hβ => (det_call en18 rfl (fun w hb ho => Cu.Add_ok ho.blocks))) ?_
  refine HeadR.det rfl (fun β hβ => (det_call en17 rfl (fun w hb ho => Cu.Mul_ok ho.blocks))) ?_
  refine HeadR.fresh rfl (fun β hβ => (fr_alloc z29).new) ?_
  refine HeadR.done ⟨by kernel_rfl, fun β hβ => ?_⟩
  refine OpsW.norm (F' := [(18, _), (19, _), (20, _), (21, _), (22, _), (23, _), (24, _), (25, _), (26, _), (27, _), (28, _), (7, .pointer (some ⟨(β 7).1, 0, none⟩)), (5, _), (6, _), (4, _), (3, _), (2, _)]) (H' := [(_, _), (_, _), (_, _), (_, _), (_, _), (_, _)]) rfl rfl ?_
  generalize (β 7).1 = b7
  refine OpsW.store sz29 rfl rfl rfl rfl rfl (Upd.here) rfl ?_
  refine sNext ?_
  refine W.keep (F' := [(7, _), (5, _), (6, _), (4, _)]) ⟨rfl, rfl, rfl, rfl, trivial⟩ ?_
  refine sSeq ?_
  refine W.draw mixed 9 [[], [], [0, 1], [], [], [0, 1, 2, 3, 4], [], [0, 1, 2, 3, 4, 5, 6], [0, 1, 2, 3, 4, 5, 6, 7], [0, 1, 2, 3, 4, 5, 6, 7, 8]] (cl_lt (by decide)) ?_
  refine HeadR.start (cl_lt (by decide)) ?_
  refine HeadR.det rfl (fun β hβ => (det_loadA ty29 rfl (List.Mem.tail _ (List.Mem.head _)) rfl)) ?_
  refine HeadR.det rfl (fun β hβ => (det_loadA ty29 rfl (List.Mem.tail _ (List.Mem.tail _ (List.Mem.head _))) rfl)) ?_
  refine HeadR.det rfl (fun β hβ => (det_call en62 rfl (fun w hb ho => Cu.Sub_ok ho.blocks))) ?_
  refine HeadR.det rfl (fun β hβ => (det_loadA ty29 rfl (List.Mem.head _) rfl)) ?_
  refine HeadR.det rfl (fun β hβ => (det_loadA ty29 rfl (List.Mem.tail _ (List.Mem.head _)) rfl)) ?_
  refine HeadR.det rfl (fun β hβ => (det_call en62 rfl (fun w hb ho => Cu.Sub_ok ho.blocks))) ?_
  refine HeadR.det rfl (fun β hβ => (det_loadA ty29 rfl (List.Mem.tail _ (List.Mem.tail _ (List.Mem.head _))) rfl)) ?_
  refine HeadR.det rfl (fun β hβ => (det_call en62 rfl (fun w hb ho => Cu.Sub_ok ho.blocks))) ?_
  refine HeadR.det rfl (fun β hβ => (det_build rfl bld46)) ?_
  refine HeadR.done ⟨by kernel_rfl, fun β hβ => ?_⟩
  refine OpsW.norm (F' := [(29, _), (30, _), (31, _), (32, _), (33, _), (34, _), (35, _), (36, _), (37, _), (7, _), (5, _), (6, _), (4, _)]) (H' := [(_, _), (_, _), (_, _), (_, _), (_, _), (_, _)]) rfl rfl ?_
  refine OpsW.storeW46 rfl rfl (Upd.there (Upd.there (Upd.there (Upd.here)))) ?_
  refine sNext ?_
  refine W.keep (F' := [(4, _)]) ⟨rfl, trivial⟩ ?_
  refine sRet ?_
  exact done1 Tryd.results27 (rv_cellA ty46 rfl (List.Mem.tail _ (List.Mem.tail _ (List.Mem.tail _ (List.Mem.head _)))) rfl) rfl
theorem Neg_ok {x : Fq2} {w : World} (hG : Blocks (GH T) w)  : Vm.Pure Tryd.prog 33 #[encF x] w (encF (0 - x)) := by
  refine pure_of_W (n := 10) (args := [encF x]) Tryd.func33 rfl Tryd.ntmps33 (Nat.le_of_ble_eq_true rfl) hG ?_
  refine sStart ?_
  refine sSeq ?_
  refine W.region ?_
  refine OpsW.fresh (fr_boxW46 rfl) rfl fun b1 => ?_
  refine OpsW.fresh (fr_alloc z46r) rfl fun b2 => ?_
  refine sNext ?_
  refine W.keep (F' := [(2, _), (1, _)]) ⟨rfl, rfl, trivial⟩ ?_
  refine sSeq ?_
  refine W.draw mixed 7 [[], [0], [0, 1], [], [3], [0, 1, 2, 3, 4], [0, 1, 2, 3, 4, 5], [0, 1, 2, 3, 4, 5, 6]] (cl_lt (by decide)) ?_
  refine HeadR.start (cl_lt (by decide)) ?_
  refine HeadR.det rfl (fun β hβ => (det_fieldAddr fl46_0 rfl)) ?_
  refine HeadR.det rfl (fun β hβ => (det_loadA ty29 rfl (List.Mem.tail _ (List.Mem.head _)) rfl)) ?_
  refine HeadR.det rfl (fun β hβ => (det_call en23 rfl (fun w hb ho => Cu.Neg_ok ho.blocks))) ?_
  refine HeadR.det rfl (fun β hβ => (det_fieldAddr fl46_1 rfl)) ?_
  refine HeadR.det rfl (fun β hβ => (det_loadA ty29 rfl (List.Mem.tail _ (List.Mem.head _)) rfl)) ?_
  refine HeadR.det rfl (fun β hβ => (det_call en23 rfl (fun w hb ho => Cu.Neg_ok ho.blocks))) ?_
  refine HeadR.det rfl (fun β hβ => (det_build rfl bld46)) ?_
  refine HeadR.done ⟨by kernel_rfl, fun β hβ => ?_⟩
  refine OpsW.norm (F' := [(3, _), (4, _), (5, _), (6, _), (7, _), (8, _), (9, _), (2, _), (1, _)]) (H' := [(_, _), (_, _)]) rfl rfl ?_
  refine OpsW.storeW46 rfl rfl (Upd.here) ?_
  refine sNext ?_
  refine W.keep (F' := [(2, _)]) ⟨rfl, trivial⟩ ?_
  refine sRet ?_
  exact done1 Tryd.results33 (rv_cellA ty46 rfl (List.Mem.head _) rfl) rfl
theorem Conj_ok {x : Fq2} {w : World} (hG : Blocks (GH T) w)  : Vm.Pure Tryd.prog 84 #[encF x] w (encF (conj2 x)) := by
  refine pure_of_W (n := 9) (args := [encF x]) Tryd.func84 rfl Tryd.ntmps84 (Nat.le_of_ble_eq_true rfl) hG ?_
  refine sStart ?_
  refine sSeq ?_
  refine W.region ?_
  refine OpsW.fresh (fr_boxW46 rfl) rfl fun b1 => ?_
  refine OpsW.fresh (fr_alloc z46r) rfl fun b2 => ?_
  refine sNext ?_
  refine W.keep (F' := [(2, _), (1, _)]) ⟨rfl, rfl, trivial⟩ ?_
  refine sSeq ?_
  refine W.draw mixed 6 [[], [0], [], [2], [2, 3], [0, 1, 2, 3, 4], [0, 1, 2, 3, 4, 5]] (cl_lt (by decide)) ?_
  refine HeadR.start (cl_lt (by decide)) ?_
  refine HeadR.det rfl (fun β hβ => (det_fieldAddr fl46_0 rfl)) ?_
  refine HeadR.det rfl (fun β hβ => (det_loadA ty29 rfl (List.Mem.tail _ (List.Mem.head _)) rfl)) ?_
  refine HeadR.det rfl (fun β hβ => (det_fieldAddr fl46_1 rfl)) ?_
  refine HeadR.det rfl (fun β hβ => (det_loadA ty29 rfl (List.Mem.tail _ (List.Mem.head _)) rfl)) ?_
  refine HeadR.det rfl (fun β hβ => (det_call en23 rfl (fun w hb ho => Cu.Neg_ok ho.blocks))) ?_
  refine HeadR.det rfl (fun β hβ => (det_build rfl bld46)) ?_
  refine HeadR.done ⟨by kernel_rfl, fun β hβ => ?_⟩
  refine OpsW.norm (F' := [(3, _), (4, _), (5, _), (6, _), (7, _), (8, _), (2, _), (1, _)]) (H' := [(_, _), (_, _)]) rfl rfl ?_
  refine OpsW.storeW46 rfl rfl (Upd.here) ?_
  refine sNext ?_
  refine W.keep (F' := [(2, _)]) ⟨rfl, trivial⟩ ?_
  refine sRet ?_
  exact done1 Tryd.results84 (rv_cellA ty46 rfl (List.Mem.head _) rfl) rfl
theorem Square_ok {x : Fq2} {w : World} (hG : Blocks (GH T) w)  : Vm.Pure Tryd.prog 26 #[encF x] w (encF (x * x)) := by
  refine pure_of_W (n := 24) (args := [encF x]) Tryd.func26 rfl Tryd.ntmps26 (Nat.le_of_ble_eq_true rfl) hG ?_
  refine sStart ?_
  refine sSeq ?_
  refine W.region ?_
  refine OpsW.fresh (fr_boxW46 rfl) rfl fun b1 => ?_
  refine OpsW.fresh (fr_alloc z46r) rfl fun b2 => ?_
  refine sNext ?_
  refine W.keep (F' := [(2, _), (1, _)]) ⟨rfl, rfl, trivial⟩ ?_
  refine sSeq ?_
  refine W.region ?_
  refine OpsW.det (det_fieldAddr fl46_0 rfl) rfl ?_
  refine OpsW.det (det_loadA ty29 rfl (List.Mem.tail _ (List.Mem.head _)) rfl) rfl ?_
  refine OpsW.det (det_fieldAddr fl46_1 rfl) rfl ?_
  refine OpsW.det (det_loadA ty29 rfl (List.Mem.tail _ (List.Mem.head _)) rfl) rfl ?_
  refine OpsW.det (det_call en17 rfl (fun w hb ho => Cu.Mul_ok ho.blocks)) rfl ?_
  refine OpsW.fresh (fr_alloc z29) rfl fun b3 => ?_
  refine OpsW.store sz29 rfl rfl rfl rfl rfl (Upd.here) rfl ?_
  refine sNext ?_
  refine W.keep (F' := [(3, _), (2, _), (1, _)]) ⟨rfl, rfl, rfl, trivial⟩ ?_
  refine sSeq ?_
  refine W.draw mixed 15 [[], [0], [], [2], [0, 1, 2, 3], [], [5], [], [7], [0, 1, 2, 3, 4, 5, 6, 7, 8], [0, 1, 2, 3, 4, 5, 6, 7, 8, 9], [], [], [0, 1, 2, 3, 4, 5, 6, 7, 8, 9, 10, 11, 12], [0, 1, 2, 3, 4, 5, 6, 7, 8, 9, 10, 11, 12, 13], [0, 1, 2, 3, 4, 5, 6, 7, 8, 9, 10, 11, 12, 13, 14]] (cl_lt (by decide)) ?_
  refine HeadR.start (cl_lt (by decide)) ?_
  refine HeadR.det rfl (fun β hβ => (det_fieldAddr fl46_0 rfl)) ?_
  refine HeadR.det rfl (fun β hβ => (det_loadA ty29 rfl (List.Mem.tail _ (List.Mem.tail _ (List.Mem.head _))) rfl)) ?_
  refine HeadR.det rfl (fun β hβ => (det_fieldAddr fl46_1 rfl)) ?_
  refine HeadR.det rfl (fun β hβ => (det_loadA ty29 rfl (List.Mem.tail _ (List.Mem.tail _ (List.Mem.head _))) rfl)) ?_
  refine HeadR.det rfl (fun β hβ => (det_call en18 rfl (fun w hb ho => Cu.Add_ok ho.blocks))) ?_
  refine HeadR.det rfl (fun β hβ => (det_fieldAddr fl46_0 rfl)) ?_
  refine HeadR.det rfl (fun β hβ => (det_loadA ty29 rfl (List.Mem.tail _ (List.Mem.tail _ (List.Mem.head _))) rfl)) ?_
  refine HeadR.det rfl (fun β hβ => (det_fieldAddr fl46_1 rfl)) ?_
  refine HeadR.det rfl (fun β hβ => (det_loadA ty29 rfl (List.Mem.tail _ (List.Mem.tail _ (List.Mem.head _))) rfl)) ?_
  refine HeadR.det rfl (fun β hβ => (det_call en62 rfl (fun w hb ho => Cu.Sub_ok ho.blocks))) ?_
  refine HeadR.det rfl (fun β hβ => (det_call en17 rfl (fun w hb ho => Cu.Mul_ok ho.blocks))) ?_
  refine HeadR.det rfl (fun β hβ => (det_loadA ty29 rfl (List.Mem.head _) rfl)) ?_
  refine HeadR.det rfl (fun β hβ => (det_loadA ty29 rfl (List.Mem.head _) rfl)) ?_
  refine HeadR.det rfl (fun β hβ => (det_call en18 rfl (fun w hb ho => Cu.Add_ok ho.blocks))) ?_
  refine HeadR.det rfl (fun β hβ => (det_build rfl bld46)) ?_
  refine HeadR.done ⟨by kernel_rfl, fun β hβ => ?_⟩
  refine OpsW.norm (F' := [(9, _), (10, _), (11, _), (12, _), (13, _), (14, _), (15, _), (16, _), (17, _), (18, _), (19, _), (20, _), (21, _), (22, _), (23, _), (3, _), (2, _), (1, _)]) (H' := [(_, _), (_, _), (_, _)]) rfl rfl ?_
  refine OpsW.storeW46 rfl rfl (Upd.there (Upd.here)) ?_
  refine sNext ?_
  refine W.keep (F' := [(2, _)]) ⟨rfl, trivial⟩ ?_
  refine sRet ?_
  exact done1 Tryd.results26 (rv_cellA ty46 rfl (List.Mem.tail _ (List.Mem.head _)) rfl) (congrArg encF (sq2 x))
theorem Scale_ok {x : Fq2} {k : Fq} {w : World} (hG : Blocks (GH T) w)  : Vm.Pure Tryd.prog 100 #[encF x, Cu.encF k] w (encF (scale2 x k)) := by
  refine pure_of_W (n := 14) (args := [encF x, Cu.encF k]) Tryd.func100 rfl Tryd.ntmps100 (Nat.le_of_ble_eq_true rfl) hG ?_
  refine sStart ?_
  refine sSeq ?_
  refine W.region ?_
  refine OpsW.fresh (fr_boxW46 rfl) rfl fun b2 => ?_
  refine OpsW.fresh (fr_box rfl rfl) rfl fun b3 => ?_
  refine OpsW.fresh (fr_alloc z46r) rfl fun b4 => ?_
  refine sNext ?_
  refine W.keep (F' := [(4, _), (3, _), (2, _)]) ⟨rfl, rfl, rfl, trivial⟩ ?_
  refine sSeq ?_
  refine W.draw mixed 9 [[], [0], [], [0, 1, 2], [], [4], [], [0, 1, 2, 3, 4, 5, 6], [0, 1, 2, 3, 4, 5, 6, 7], [0, 1, 2, 3, 4, 5, 6, 7, 8]] (cl_lt (by decide)) ?_
  refine HeadR.start (cl_lt (by decide)) ?_
  refine HeadR.det rfl (fun β hβ => (det_fieldAddr fl46_0 rfl)) ?_
  refine HeadR.det rfl (fun β hβ => (det_loadA ty29 rfl (List.Mem.tail _ (List.Mem.tail _ (List.Mem.head _))) rfl)) ?_
  refine HeadR.det rfl (fun β hβ => (det_loadA ty29 rfl (List.Mem.tail _ (List.Mem.head _)) rfl)) ?_
  refine HeadR.det rfl (fun β hβ => (det_call en17 rfl (fun w hb ho => Cu.Mul_ok ho.blocks))) ?_
  refine HeadR.det rfl (fun β hβ => (det_fieldAddr fl46_1 rfl)) ?_
  refine HeadR.det rfl (fun β hβ => (det_loadA ty29 rfl (List.Mem.tail _ (List.Mem.tail _ (List.Mem.head _))) rfl)) ?_
  refine HeadR.det rfl (fun β hβ => (det_loadA ty29 rfl (List.Mem.tail _ (List.Mem.head _)) rfl)) ?_
  refine HeadR.det rfl (fun β hβ => (det_call en17 rfl (fun w hb ho => Cu.Mul_ok ho.blocks))) ?_
  refine HeadR.det rfl (fun β hβ => (det_build rfl bld46)) ?_
  refine HeadR.done ⟨by kernel_rfl, fun β hβ => ?_⟩
  refine OpsW.norm (F' := [(5, _), (6, _), (7, _), (8, _), (9, _), (10, _), (11, _), (12, _), (13, _), (4, _), (3, _), (2, _)]) (H' := [(_, _), (_, _), (_, _)]) rfl rfl ?_
  refine OpsW.storeW46 rfl rfl (Upd.here) ?_
  refine sNext ?_
  refine W.keep (F' := [(4, _)]) ⟨rfl, trivial⟩ ?_
  refine sRet ?_
  exact done1 Tryd.results100 (rv_cellA ty46 rfl (List.Mem.head _) rfl) rfl
theorem Norm_ok {x : Fq2} {w : World} (hG : Blocks (GH T) w)  : Vm.Pure Tryd.prog 66 #[encF x] w (Cu.encF (norm2 x)) := by
  refine pure_of_W (n := 10) (args := [encF x]) Tryd.func66 rfl Tryd.ntmps66 (Nat.le_of_ble_eq_true rfl) hG ?_
  refine sStart ?_
  refine sSeq ?_
  refine W.region ?_
  refine OpsW.fresh (fr_boxW46 rfl) rfl fun b1 => ?_
  refine OpsW.fresh (fr_alloc z29) rfl fun b2 => ?_
  refine sNext ?_
  refine W.keep (F' := [(2, _), (1, _)]) ⟨rfl, rfl, trivial⟩ ?_
  refine sSeq ?_
  refine W.draw mixed 7 [[], [0], [0, 1], [], [3], [0, 1, 2, 3, 4], [0, 1, 2, 3, 4, 5], [0, 1, 2, 3, 4, 5, 6]] (cl_lt (by decide)) ?_
  refine HeadR.start (cl_lt (by decide)) ?_
  refine HeadR.det rfl (fun β hβ => (det_fieldAddr fl46_0 rfl)) ?_
  refine HeadR.det rfl (fun β hβ => (det_loadA ty29 rfl (List.Mem.tail _ (List.Mem.head _)) rfl)) ?_
  refine HeadR.det rfl (fun β hβ => (det_call en16 rfl (fun w hb ho => Cu.Square_ok ho.blocks))) ?_
  refine HeadR.det rfl (fun β hβ => (det_fieldAddr fl46_1 rfl)) ?_
  refine HeadR.det rfl (fun β hβ => (det_loadA ty29 rfl (List.Mem.tail _ (List.Mem.head _)) rfl)) ?_
  refine HeadR.det rfl (fun β hβ => (det_call en16 rfl (fun w hb ho => Cu.Square_ok ho.blocks))) ?_
  refine HeadR.det rfl (fun β hβ => (det_call en18 rfl (fun w hb ho => Cu.Add_ok ho.blocks))) ?_
  refine HeadR.done ⟨by kernel_rfl, fun β hβ => ?_⟩
  refine OpsW.norm (F' := [(3, _), (4, _), (5, _), (6, _), (7, _), (8, _), (9, _), (2, _), (1, _)]) (H' := [(_, _), (_, _)]) rfl rfl ?_
  refine OpsW.store sz29 rfl rfl rfl rfl rfl (Upd.here) rfl ?_
  refine sNext ?_
  refine W.keep (F' := [(2, _)]) ⟨rfl, trivial⟩ ?_
  refine sRet ?_
  exact done1 Tryd.results66 (rv_cellA ty29 rfl (List.Mem.head _) rfl) rfl
theorem Inv_ok {x : Fq2} {w : World} (hG : Blocks (GH T) w)  : Vm.Pure Tryd.prog 97 #[encF x] w (encF (inv2 x)) := by
  refine pure_of_W (n := 9) (args := [encF x]) Tryd.func97 rfl Tryd.ntmps97 (Nat.le_of_ble_eq_true rfl) hG ?_
  refine sStart ?_
  refine sSeq ?_
  refine W.region ?_
  refine OpsW.fresh (fr_boxW46 rfl) rfl fun b1 => ?_
  refine OpsW.fresh (fr_alloc z46r) rfl fun b2 => ?_
  refine sNext ?_
  refine W.keep (F' := [(2, _), (1, _)]) ⟨rfl, rfl, trivial⟩ ?_
  refine sSeq ?_
  refine W.draw mixed 6 [[], [0], [], [0, 1, 2], [0, 1, 2, 3], [0, 1, 2, 3, 4], [0, 1, 2, 3, 4, 5]] (cl_lt (by decide)) ?_
  refine HeadR.start (cl_lt (by decide)) ?_
  refine HeadR.det rfl (fun β hβ => (det_loadW46 rfl (List.Mem.tail _ (List.Mem.head _)))) ?_
  refine HeadR.det rfl (fun β hβ => (det_call en84 rfl (fun w hb ho => Conj_ok ho.blocks))) ?_
  refine HeadR.det rfl (fun β hβ => (det_loadW46 rfl (List.Mem.tail _ (List.Mem.head _)))) ?_
  refine HeadR.det rfl (fun β hβ => (det_call en66 rfl (fun w hb ho => Norm_ok ho.blocks))) ?_
  refine HeadR.det rfl (fun β hβ => (det_call en67 rfl (fun w hb ho => Cu.Inv_ok ho.blocks))) ?_
  refine HeadR.det rfl (fun β hβ => (det_call en100 rfl (fun w hb ho => Scale_ok ho.blocks))) ?_
  refine HeadR.done ⟨by kernel_rfl, fun β hβ => ?_⟩
  refine OpsW.norm (F' := [(3, _), (4, _), (5, _), (6, _), (7, _), (8, _), (2, _), (1, _)]) (H' := [(_, _), (_, _)]) rfl rfl ?_
  refine OpsW.storeW46 rfl rfl (Upd.here) ?_
  refine sNext ?_
  refine W.keep (F' := [(2, _)]) ⟨rfl, trivial⟩ ?_
  refine sRet ?_
  exact done1 Tryd.results97 (rv_cellA ty46 rfl (List.Mem.head _) rfl) rfl
theorem Zero_ok {x : Fq2} {w : World} (hG : Blocks (GH T) w)  : Vm.Pure Tryd.prog 94 #[encF x] w (.bool (decide (x = 0))) := by
  refine pure_of_W (n := 6) (args := [encF x]) Tryd.func94 rfl Tryd.ntmps94 (Nat.le_of_ble_eq_true rfl) hG ?_
  refine sStart ?_
  refine sSeq ?_
  refine W.region ?_
  refine OpsW.fresh (fr_boxW46 rfl) rfl fun b1 => ?_
  refine OpsW.det (det_assign rfl) rfl ?_
  refine sNext ?_
  refine W.keep (F' := [(1, _)]) ⟨rfl, trivial⟩ ?_
  refine sSeq ?_
  refine W.region ?_
  refine OpsW.det (det_loadW46 rfl (List.Mem.head _)) rfl ?_
  refine OpsW.det (det_zero bz46) rfl ?_
  refine OpsW.det (det_eql46 rfl rfl) rfl ?_
  refine OpsW.det (det_assign rfl) rfl ?_
  refine sNext ?_
  refine W.keep (F' := [(2, _)]) ⟨rfl, trivial⟩ ?_
  refine sRet ?_
  exact done1 Tryd.results94 (rv_tmp rfl) rfl
theorem Small_ok {m n : Nat} (hm : m < 18446744073709551616) (hn : n < 18446744073709551616) {w : World} (hG : Blocks (GH T) w)  : Vm.Pure Tryd.prog 29 #[u64 m, u64 n] w (encF (small m n)) := by
  refine pure_of_W (n := 10) (args := [u64 m, u64 n]) Tryd.func29 rfl Tryd.ntmps29 (Nat.le_of_ble_eq_true rfl) hG ?_
  refine sStart ?_
  refine sSeq ?_
  refine W.region ?_
  refine OpsW.fresh (fr_alloc z46r) rfl fun b4 => ?_
  refine sNext ?_
  refine sSeq ?_
  refine W.region ?_
  refine OpsW.det (det_move rfl) rfl ?_
  refine OpsW.det (det_call en19 rfl (fun w hb ho => Cu.Of_ok hm ho.blocks)) rfl ?_
  refine OpsW.det (det_move rfl) rfl ?_
  refine OpsW.det (det_call en19 rfl (fun w hb ho => Cu.Of_ok hn ho.blocks)) rfl ?_
  refine OpsW.det (det_build rfl bld46) rfl ?_
  refine OpsW.storeW46 rfl rfl (Upd.here) ?_
  refine sNext ?_
  refine W.keep (F' := [(4, _)]) ⟨rfl, trivial⟩ ?_
  refine sRet ?_
  exact done1 Tryd.results29 (rv_cellA ty46 rfl (List.Mem.head _) rfl) rfl
theorem four_ok  {w : World} (hG : Blocks (GH T) w)  : Vm.Pure Tryd.prog 72 #[] w (encF (small 4 4)) := by
  refine pure_of_W (n := 2) (args := []) Tryd.func72 rfl Tryd.ntmps72 (Nat.le_of_ble_eq_true rfl) hG ?_
  refine sStart ?_
  refine sSeq ?_
  refine W.region ?_
  refine OpsW.fresh (fr_alloc z46r) rfl fun b0 => ?_
  refine sNext ?_
  refine sSeq ?_
  refine W.region ?_
  refine OpsW.det (det_call en29 rfl (fun w hb ho => Small_ok (m := 4) (n := 4) (by decide) (by decide) ho.blocks)) rfl ?_
  refine OpsW.storeW46 rfl rfl (Upd.here) ?_
  refine sNext ?_
  refine W.keep (F' := [(0, _)]) ⟨rfl, trivial⟩ ?_
  refine sRet ?_
  exact done1 Tryd.results72 (rv_cellA ty46 rfl (List.Mem.head _) rfl) rfl
theorem one_ok  {w : World} (hG : Blocks (GH T) w)  : Vm.Pure Tryd.prog 99 #[] w (encF (small 1 0)) := by
  refine pure_of_W (n := 2) (args := []) Tryd.func99 rfl Tryd.ntmps99 (Nat.le_of_ble_eq_true rfl) hG ?_
  refine sStart ?_
  refine sSeq ?_
  refine W.region ?_
  refine OpsW.fresh (fr_alloc z46r) rfl fun b0 => ?_
  refine sNext ?_
  refine sSeq ?_
  refine W.region ?_
  refine OpsW.det (det_call en29 rfl (fun w hb ho => Small_ok (m := 1) (n := 0) (by decide) (by decide) ho.blocks)) rfl ?_
  refine OpsW.storeW46 rfl rfl (Upd.here) ?_
  refine sNext ?_
  refine W.keep (F' := [(0, _)]) ⟨rfl, trivial⟩ ?_
  refine sRet ?_
  exact done1 Tryd.results99 (rv_cellA ty46 rfl (List.Mem.head _) rfl) rfl

end Go.Cw
