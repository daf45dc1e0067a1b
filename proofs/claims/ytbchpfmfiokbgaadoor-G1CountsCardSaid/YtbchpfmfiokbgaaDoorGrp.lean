/-
  The group law of a curve y^2 = x^3 + b over a field: sums of points go in any order and may be taken together as one likes.
  Conditions: neither 2 nor 3 nor b is nought in the field.
-/
import Derived.Test.YtbchpfmfiokbgaaDoorIdl
namespace Go.Ec
open Go.Cu
open CR
set_option linter.unusedVariables false
set_option linter.unusedSimpArgs false
set_option linter.unusedSectionVars false
set_option linter.constructorNameAsVariable false

section
variable {ρ : Type} [Dom ρ]
instance : Std.Associative (α := Idl ρ) (· * ·) := ⟨imul_assoc⟩
instance : Std.Commutative (α := Idl ρ) (· * ·) := ⟨imul_comm⟩
theorem gen2_line {X Y x1 y1 l xi : ρ} : gen2 (X - xi) (Y - (y1 + l * (xi - x1))) = gen2 (X - xi) (Y - y1 - l * (X - x1)) := by
  rw [← gen2_shift (X - xi) (Y - (y1 + l * (xi - x1))) (-l), (show ((Y - (y1 + (l * (xi - x1)))) + ((-l) * (X - xi))) = ((Y - y1) - (l * (X - x1))) from ring_id (fun vi_ => vget vi_ [X, Y, x1, y1, l, xi]) (.add (.sub (.var 1) (.add (.var 3) (.mul (.var 4) (.sub (.var 5) (.var 2))))) (.mul (.neg (.var 4)) (.sub (.var 0) (.var 5)))) (.sub (.sub (.var 1) (.var 3)) (.mul (.var 4) (.sub (.var 0) (.var 2)))) (by kernel_rfl))]
theorem line_prod {X Y x1 y1 x2 l b : ρ} (H0 : Y * Y = X * X * X + b) (H1 : y1 * y1 = x1 * x1 * x1 + b) (T : x1 * x1 + x1 * x2 + x2 * x2 = l * (y1 + y1 + l * (x2 - x1))) :
    (X - x1) * ((X - x2) * (X - (l * l - x1 - x2))) = (Y - y1 - l * (X - x1)) * (Y + y1 + l * (X - x1)) :=
  (eq_of_sub (Eq.trans (show (((X - x1) * ((X - x2) * (X - (((l * l) - x1) - x2)))) - (((Y - y1) - (l * (X - x1))) * ((Y + y1) + (l * (X - x1))))) = ((((-1) * ((Y * Y) - (((X * X) * X) + b))) + ((x1 - X) * ((((x1 * x1) + (x1 * x2)) + (x2 * x2)) - (l * ((y1 + y1) + (l * (x2 - x1))))))) + (1 * ((y1 * y1) - (((x1 * x1) * x1) + b)))) from ring_id (fun vi_ => vget vi_ [X, Y, x1, y1, x2, l, b]) (.sub (.mul (.sub (.var 0) (.var 2)) (.mul (.sub (.var 0) (.var 4)) (.sub (.var 0) (.sub (.sub (.mul (.var 5) (.var 5)) (.var 2)) (.var 4))))) (.mul (.sub (.sub (.var 1) (.var 3)) (.mul (.var 5) (.sub (.var 0) (.var 2)))) (.add (.add (.var 1) (.var 3)) (.mul (.var 5) (.sub (.var 0) (.var 2)))))) (.add (.add (.mul (.neg .one) (.sub (.mul (.var 1) (.var 1)) (.add (.mul (.mul (.var 0) (.var 0)) (.var 0)) (.var 6)))) (.mul (.sub (.var 2) (.var 0)) (.sub (.add (.add (.mul (.var 2) (.var 2)) (.mul (.var 2) (.var 4))) (.mul (.var 4) (.var 4))) (.mul (.var 5) (.add (.add (.var 3) (.var 3)) (.mul (.var 5) (.sub (.var 4) (.var 2)))))))) (.mul .one (.sub (.mul (.var 3) (.var 3)) (.add (.mul (.mul (.var 2) (.var 2)) (.var 2)) (.var 6))))) (by kernel_rfl)) (lz2 (lz2 (lz H0) (lz T)) (lz H1))))
theorem line_le {X Y x1 y1 x2 l b : ρ} (H0 : Y * Y = X * X * X + b) (H1 : y1 * y1 = x1 * x1 * x1 + b) (T : x1 * x1 + x1 * x2 + x2 * x2 = l * (y1 + y1 + l * (x2 - x1))) {w : ρ}
    (hw : (gen2 (X - x1) (Y - y1) * (gen2 (X - x2) (Y - (y1 + l * (x2 - x1))) * gen2 (X - (l * l - x1 - x2)) (Y - (y1 + l * (l * l - x1 - x2 - x1))))).mem w) : (prin (Y - y1 - l * (X - x1))).mem w := by
  rw [gen2_line, gen2_line] at hw
  have e : gen2 (X - x1) (Y - y1) = gen2 (X - x1) (Y - y1 - l * (X - x1)) := by
    have h := gen2_line (X := X) (Y := Y) (x1 := x1) (y1 := y1) (l := l) (xi := x1)
    rwa [(show (y1 + (l * (x1 - x1))) = y1 from ring_id (fun vi_ => vget vi_ [y1, l, x1]) (.add (.var 0) (.mul (.var 1) (.sub (.var 2) (.var 2)))) (.var 0) (by kernel_rfl))] at h
  rw [e] at hw
  exact mul3_le (line_prod H0 H1 T) hw
/-- The three points of a line make the line's function. -/
theorem line_eq {X Y x1 y1 x2 l b y2 x3 y3 : ρ} (H0 : Y * Y = X * X * X + b) (H1 : y1 * y1 = x1 * x1 * x1 + b) (T : x1 * x1 + x1 * x2 + x2 * x2 = l * (y1 + y1 + l * (x2 - x1)))
    (h2 : y2 = y1 + l * (x2 - x1)) (hx3 : x3 = l * l - x1 - x2) (hy3 : y3 = y1 + l * (x3 - x1))
    (i1 : gen2 (X - x1) (Y - y1) * gen2 (X - x1) (Y - -y1) = prin (X - x1)) (i2 : gen2 (X - x2) (Y - y2) * gen2 (X - x2) (Y - -y2) = prin (X - x2)) (i3 : gen2 (X - x3) (Y - y3) * gen2 (X - x3) (Y - -y3) = prin (X - x3))
    (hn : Y + y1 + l * (X - x1) ≠ 0) : gen2 (X - x1) (Y - y1) * (gen2 (X - x2) (Y - y2) * gen2 (X - x3) (Y - y3)) = prin (Y - y1 - l * (X - x1)) := by
  have hle : ∀ w, (gen2 (X - x1) (Y - y1) * (gen2 (X - x2) (Y - y2) * gen2 (X - x3) (Y - y3))).mem w → (prin (Y - y1 - l * (X - x1))).mem w := fun w hw => by
    subst h2; subst hx3; subst hy3
    exact line_le H0 H1 T hw
  have hle' : ∀ w, (gen2 (X - x1) (Y - -y1) * (gen2 (X - x2) (Y - -y2) * gen2 (X - x3) (Y - -y3))).mem w → (prin (Y + y1 + l * (X - x1))).mem w := fun w hw => by
    subst h2; subst hx3; subst hy3
    have h := line_le (X := X) (Y := Y) (x1 := x1) (y1 := -y1) (x2 := x2) (l := -l) (b := b) (w := w) H0 (eq_of_sub (Eq.trans (show (((-y1) * (-y1)) - (((x1 * x1) * x1) + b)) = (1 * ((y1 * y1) - (((x1 * x1) * x1) + b))) from ring_id (fun vi_ => vget vi_ [y1, x1, b]) (.sub (.mul (.neg (.var 0)) (.neg (.var 0))) (.add (.mul (.mul (.var 1) (.var 1)) (.var 1)) (.var 2))) (.mul .one (.sub (.mul (.var 0) (.var 0)) (.add (.mul (.mul (.var 1) (.var 1)) (.var 1)) (.var 2)))) (by kernel_rfl)) (lz H1)))
      (eq_of_sub (Eq.trans (show ((((x1 * x1) + (x1 * x2)) + (x2 * x2)) - ((-l) * (((-y1) + (-y1)) + ((-l) * (x2 - x1))))) = (1 * ((((x1 * x1) + (x1 * x2)) + (x2 * x2)) - (l * ((y1 + y1) + (l * (x2 - x1)))))) from ring_id (fun vi_ => vget vi_ [x1, x2, y1, l]) (.sub (.add (.add (.mul (.var 0) (.var 0)) (.mul (.var 0) (.var 1))) (.mul (.var 1) (.var 1))) (.mul (.neg (.var 3)) (.add (.add (.neg (.var 2)) (.neg (.var 2))) (.mul (.neg (.var 3)) (.sub (.var 1) (.var 0)))))) (.mul .one (.sub (.add (.add (.mul (.var 0) (.var 0)) (.mul (.var 0) (.var 1))) (.mul (.var 1) (.var 1))) (.mul (.var 3) (.add (.add (.var 2) (.var 2)) (.mul (.var 3) (.sub (.var 1) (.var 0))))))) (by kernel_rfl)) (lz T)))
    rw [(show ((-y1) + ((-l) * (x2 - x1))) = (-(y1 + (l * (x2 - x1)))) from ring_id (fun vi_ => vget vi_ [y1, l, x1, x2]) (.add (.neg (.var 0)) (.mul (.neg (.var 1)) (.sub (.var 3) (.var 2)))) (.neg (.add (.var 0) (.mul (.var 1) (.sub (.var 3) (.var 2))))) (by kernel_rfl)), (show ((((-l) * (-l)) - x1) - x2) = (((l * l) - x1) - x2) from ring_id (fun vi_ => vget vi_ [l, x1, x2]) (.sub (.sub (.mul (.neg (.var 0)) (.neg (.var 0))) (.var 1)) (.var 2)) (.sub (.sub (.mul (.var 0) (.var 0)) (.var 1)) (.var 2)) (by kernel_rfl)), (show ((-y1) + ((-l) * ((((l * l) - x1) - x2) - x1))) = (-(y1 + (l * ((((l * l) - x1) - x2) - x1)))) from ring_id (fun vi_ => vget vi_ [y1, l, x1, x2]) (.add (.neg (.var 0)) (.mul (.neg (.var 1)) (.sub (.sub (.sub (.mul (.var 1) (.var 1)) (.var 2)) (.var 3)) (.var 2)))) (.neg (.add (.var 0) (.mul (.var 1) (.sub (.sub (.sub (.mul (.var 1) (.var 1)) (.var 2)) (.var 3)) (.var 2))))) (by kernel_rfl)),
      (show ((Y - (-y1)) - ((-l) * (X - x1))) = ((Y + y1) + (l * (X - x1))) from ring_id (fun vi_ => vget vi_ [X, Y, y1, l, x1]) (.sub (.sub (.var 1) (.neg (.var 2))) (.mul (.neg (.var 3)) (.sub (.var 0) (.var 4)))) (.add (.add (.var 1) (.var 2)) (.mul (.var 3) (.sub (.var 0) (.var 4)))) (by kernel_rfl))] at h
    exact h hw
  have hprod : (X - x1) * ((X - x2) * (X - x3)) = (Y - y1 - l * (X - x1)) * (Y + y1 + l * (X - x1)) := by
    subst hx3; exact line_prod H0 H1 T
  have hAA : gen2 (X - x1) (Y - y1) * (gen2 (X - x2) (Y - y2) * gen2 (X - x3) (Y - y3)) * (gen2 (X - x1) (Y - -y1) * (gen2 (X - x2) (Y - -y2) * gen2 (X - x3) (Y - -y3))) = prin ((Y - y1 - l * (X - x1)) * (Y + y1 + l * (X - x1))) := by
    have : gen2 (X - x1) (Y - y1) * (gen2 (X - x2) (Y - y2) * gen2 (X - x3) (Y - y3)) * (gen2 (X - x1) (Y - -y1) * (gen2 (X - x2) (Y - -y2) * gen2 (X - x3) (Y - -y3))) =
      (gen2 (X - x1) (Y - y1) * gen2 (X - x1) (Y - -y1)) * ((gen2 (X - x2) (Y - y2) * gen2 (X - x2) (Y - -y2)) * (gen2 (X - x3) (Y - y3) * gen2 (X - x3) (Y - -y3))) := by ac_rfl
    rw [this, i1, i2, i3, prin_mul, prin_mul, hprod]
  refine Idl.ext fun w => ⟨hle w, fun ⟨u, hu⟩ => ?_⟩
  have hL : (gen2 (X - x1) (Y - y1) * (gen2 (X - x2) (Y - y2) * gen2 (X - x3) (Y - y3))).mem (Y - y1 - l * (X - x1)) := by
    have h1 : (prin (Y + y1 + l * (X - x1)) * (gen2 (X - x1) (Y - y1) * (gen2 (X - x2) (Y - y2) * gen2 (X - x3) (Y - y3)))).mem ((Y - y1 - l * (X - x1)) * (Y + y1 + l * (X - x1))) := by
      have h0 := prin_self ((Y - y1 - l * (X - x1)) * (Y + y1 + l * (X - x1)))
      rw [← hAA] at h0
      rw [imul_comm (prin _)]
      exact imul_le (fun u v hu hv => imem hu (hle' v hv)) h0
    obtain ⟨a, ha, he⟩ := mem_prin_mul.1 h1
    rw [mul_comm] at he
    rw [Dom.cancel hn he]
    exact ha
  rw [hu, mul_comm]
  exact Idl.mul _ _ _ hL
end

section
variable {α : Type} [Fld α]
class Gd (B : α) : Prop where
  two : (1 : α) + 1 ≠ 0
  three : (1 : α) + 1 + 1 ≠ 0
  b : B ≠ 0
instance cdDom {B : α} : Dom (Cd B) where
  toCR := inferInstance
  mul_ne := Cd.mul_ne
  one_ne := fun h => deg_one.ne (congrArg Cd.a h)
def Aff (B : α) (p : α × α) : Prop := p.2 * p.2 = p.1 * p.1 * p.1 + B
def On (B : α) (p : α × α) : Prop := p = (0, 0) ∨ Aff B p
theorem Aff.ne {B : α} [Gd B] {p : α × α} (h : Aff B p) : p ≠ (0, 0) := by
  rintro rfl
  have h : (0 : α) * 0 = 0 * 0 * 0 + B := h
  rw [mul_zero', zero_mul', zero_add] at h
  exact Gd.b h.symm
/-- A line through two points, or the tangent. -/
structure Ln (l : α) (p q : α × α) : Prop where
  at_ : q.2 = p.2 + l * (q.1 - p.1)
  tan : p.1 * p.1 + p.1 * q.1 + q.1 * q.1 = l * (p.2 + p.2 + l * (q.1 - p.1))
def third (l : α) (p q : α × α) : α × α := (l * l - p.1 - q.1, l * (p.1 - (l * l - p.1 - q.1)) - p.2)
theorem third_aff {B l : α} {p q : α × α} (hp : Aff B p) (h : Ln l p q) : Aff B (third l p q) := by
  have H1 : p.2 * p.2 = p.1 * p.1 * p.1 + B := hp
  have T := h.tan
  exact (eq_of_sub (Eq.trans (show ((((l * (p.1 - (((l * l) - p.1) - q.1))) - p.2) * ((l * (p.1 - (((l * l) - p.1) - q.1))) - p.2)) - ((((((l * l) - p.1) - q.1) * (((l * l) - p.1) - q.1)) * (((l * l) - p.1) - q.1)) + B)) = (((p.1 - (((l * l) - p.1) - q.1)) * ((((p.1 * p.1) + (p.1 * q.1)) + (q.1 * q.1)) - (l * ((p.2 + p.2) + (l * (q.1 - p.1)))))) + (1 * ((p.2 * p.2) - (((p.1 * p.1) * p.1) + B)))) from ring_id (fun vi_ => vget vi_ [p.1, p.2, q.1, l, B]) (.sub (.mul (.sub (.mul (.var 3) (.sub (.var 0) (.sub (.sub (.mul (.var 3) (.var 3)) (.var 0)) (.var 2)))) (.var 1)) (.sub (.mul (.var 3) (.sub (.var 0) (.sub (.sub (.mul (.var 3) (.var 3)) (.var 0)) (.var 2)))) (.var 1))) (.add (.mul (.mul (.sub (.sub (.mul (.var 3) (.var 3)) (.var 0)) (.var 2)) (.sub (.sub (.mul (.var 3) (.var 3)) (.var 0)) (.var 2))) (.sub (.sub (.mul (.var 3) (.var 3)) (.var 0)) (.var 2))) (.var 4))) (.add (.mul (.sub (.var 0) (.sub (.sub (.mul (.var 3) (.var 3)) (.var 0)) (.var 2))) (.sub (.add (.add (.mul (.var 0) (.var 0)) (.mul (.var 0) (.var 2))) (.mul (.var 2) (.var 2))) (.mul (.var 3) (.add (.add (.var 1) (.var 1)) (.mul (.var 3) (.sub (.var 2) (.var 0))))))) (.mul .one (.sub (.mul (.var 1) (.var 1)) (.add (.mul (.mul (.var 0) (.var 0)) (.var 0)) (.var 4))))) (by kernel_rfl)) (lz2 (lz T) (lz H1))))
theorem half (B : α) [hG : Gd B] {y : α} (hy : y ≠ 0) : y + y ≠ 0 := by
  rw [(show (y + y) = ((1 + 1) * y) from ring_id (fun vi_ => vget vi_ [y]) (.add (.var 0) (.var 0)) (.mul (.add .one .one) (.var 0)) (by kernel_rfl))]
  exact Fld.mul_ne hG.two hy
variable {B : α} [hG : Gd B]
theorem CXsub_ne (x : α) : (CX - kc x : Cd B) ≠ 0 := fun h => (deg_Xsub x).ne (congrArg Cd.a h)
def iaff (B : α) (p : α × α) : Idl (Cd B) := gen2 (CX - kc p.1) (CY - kc p.2)
theorem aff_lift {p : α × α} (h : Aff B p) : (kc p.2 * kc p.2 : Cd B) = kc p.1 * kc p.1 * kc p.1 + kc B := by
  rw [← kc_mul, ← kc_mul, ← kc_mul, ← kc_add]; exact congrArg kc h
theorem inv_pt {x y : α} (h : Aff B (x, y)) : (gen2 (CX - kc x) (CY - kc y) * gen2 (CX - kc x) (CY - -kc y) : Idl (Cd B)) = prin (CX - kc x) := by
  have H1 : (kc y * kc y : Cd B) = kc x * kc x * kc x + kc B := aff_lift h
  have H0 : (CY * CY : Cd B) = CX * CX * CX + kc B := CY_sq
  generalize hX : (CX : Cd B) = X at *
  generalize hY : (CY : Cd B) = Y at *
  have key : (gen2 (X - kc x) (Y - kc y) * gen2 (X - kc x) (Y - -kc y)).mem (X - kc x) := by
    by_cases hy : y = 0
    · have hx : x ≠ 0 := by
        rintro rfl; subst hy
        exact h.ne rfl
      have h3 : x * x + x * x + x * x ≠ 0 := by
        rw [(show (((x * x) + (x * x)) + (x * x)) = (((1 + 1) + 1) * (x * x)) from ring_id (fun vi_ => vget vi_ [x]) (.add (.add (.mul (.var 0) (.var 0)) (.mul (.var 0) (.var 0))) (.mul (.var 0) (.var 0))) (.mul (.add (.add .one .one) .one) (.mul (.var 0) (.var 0))) (by kernel_rfl))]
        exact Fld.mul_ne hG.three (Fld.mul_ne hx hx)
      have hk := congrArg (kc (B := B)) (Fld.mul_finv _ h3)
      rw [kc_mul, kc_add, kc_add, kc_mul, kc_one] at hk
      generalize kc (B := B) (Fld.finv (x * x + x * x + x * x)) = k at hk
      have h1 := imem (gen2_r (X - kc x) (Y - kc y)) (gen2_r (X - kc x) (Y - -kc y))
      have h2 := imem (gen2_l (X - kc x) (Y - kc y)) (gen2_l (X - kc x) (Y - -kc y))
      have h4 := Idl.add _ _ _ (Idl.mul _ k _ h1) (Idl.mul _ (-(k * (X + kc x + kc x))) _ h2)
      generalize kc (B := B) x = u at *
      generalize kc (B := B) y = v at *
      generalize kc (B := B) B = b at *
      rwa [(eq_of_sub (Eq.trans (show (((k * ((Y - v) * (Y - (-v)))) + ((-(k * ((X + u) + u))) * ((X - u) * (X - u)))) - (X - u)) = (((k * ((Y * Y) - (((X * X) * X) + b))) + ((-k) * ((v * v) - (((u * u) * u) + b)))) + ((X - u) * (((((u * u) + (u * u)) + (u * u)) * k) - 1))) from ring_id (fun vi_ => vget vi_ [X, Y, u, v, k, b]) (.sub (.add (.mul (.var 4) (.mul (.sub (.var 1) (.var 3)) (.sub (.var 1) (.neg (.var 3))))) (.mul (.neg (.mul (.var 4) (.add (.add (.var 0) (.var 2)) (.var 2)))) (.mul (.sub (.var 0) (.var 2)) (.sub (.var 0) (.var 2))))) (.sub (.var 0) (.var 2))) (.add (.add (.mul (.var 4) (.sub (.mul (.var 1) (.var 1)) (.add (.mul (.mul (.var 0) (.var 0)) (.var 0)) (.var 5)))) (.mul (.neg (.var 4)) (.sub (.mul (.var 3) (.var 3)) (.add (.mul (.mul (.var 2) (.var 2)) (.var 2)) (.var 5))))) (.mul (.sub (.var 0) (.var 2)) (.sub (.mul (.add (.add (.mul (.var 2) (.var 2)) (.mul (.var 2) (.var 2))) (.mul (.var 2) (.var 2))) (.var 4)) .one))) (by kernel_rfl)) (lz2 (lz2 (lz H0) (lz H1)) (lz hk))))] at h4
    · have hk := congrArg (kc (B := B)) (Fld.mul_finv _ (half B hy))
      rw [kc_mul, kc_add, kc_one] at hk
      generalize kc (B := B) (Fld.finv (y + y)) = k at hk
      have h1 := imem (gen2_l (X - kc x) (Y - kc y)) (gen2_r (X - kc x) (Y - -kc y))
      have h2 := imem (gen2_r (X - kc x) (Y - kc y)) (gen2_l (X - kc x) (Y - -kc y))
      have h4 := Idl.add _ _ _ (Idl.mul _ k _ h1) (Idl.mul _ (-k) _ h2)
      generalize kc (B := B) x = u at *
      generalize kc (B := B) y = v at *
      rwa [(eq_of_sub (Eq.trans (show (((k * ((X - u) * (Y - (-v)))) + ((-k) * ((Y - v) * (X - u)))) - (X - u)) = ((X - u) * (((v + v) * k) - 1)) from ring_id (fun vi_ => vget vi_ [X, Y, u, v, k]) (.sub (.add (.mul (.var 4) (.mul (.sub (.var 0) (.var 2)) (.sub (.var 1) (.neg (.var 3))))) (.mul (.neg (.var 4)) (.mul (.sub (.var 1) (.var 3)) (.sub (.var 0) (.var 2))))) (.sub (.var 0) (.var 2))) (.mul (.sub (.var 0) (.var 2)) (.sub (.mul (.add (.var 3) (.var 3)) (.var 4)) .one)) (by kernel_rfl)) (lz hk)))] at h4
  refine Idl.ext fun w => ⟨imul_le (fun a c ha hc => ?_), fun ⟨u, hu⟩ => by rw [hu, mul_comm]; exact Idl.mul _ _ _ key⟩
  obtain ⟨p, q, rfl⟩ := ha
  obtain ⟨r, s, rfl⟩ := hc
  generalize kc (B := B) x = u at *
  generalize kc (B := B) y = v at *
  generalize kc (B := B) B = b at *
  exact ⟨p * r * (X - u) + p * s * (Y + v) + q * r * (Y - v) + q * s * (X * X + X * u + u * u),
    (eq_of_sub (Eq.trans (show ((((p * (X - u)) + (q * (Y - v))) * ((r * (X - u)) + (s * (Y - (-v))))) - ((X - u) * (((((p * r) * (X - u)) + ((p * s) * (Y + v))) + ((q * r) * (Y - v))) + ((q * s) * (((X * X) + (X * u)) + (u * u)))))) = (((q * s) * ((Y * Y) - (((X * X) * X) + b))) + ((-(q * s)) * ((v * v) - (((u * u) * u) + b)))) from ring_id (fun vi_ => vget vi_ [p, q, r, s, X, Y, u, v, b]) (.sub (.mul (.add (.mul (.var 0) (.sub (.var 4) (.var 6))) (.mul (.var 1) (.sub (.var 5) (.var 7)))) (.add (.mul (.var 2) (.sub (.var 4) (.var 6))) (.mul (.var 3) (.sub (.var 5) (.neg (.var 7)))))) (.mul (.sub (.var 4) (.var 6)) (.add (.add (.add (.mul (.mul (.var 0) (.var 2)) (.sub (.var 4) (.var 6))) (.mul (.mul (.var 0) (.var 3)) (.add (.var 5) (.var 7)))) (.mul (.mul (.var 1) (.var 2)) (.sub (.var 5) (.var 7)))) (.mul (.mul (.var 1) (.var 3)) (.add (.add (.mul (.var 4) (.var 4)) (.mul (.var 4) (.var 6))) (.mul (.var 6) (.var 6))))))) (.add (.mul (.mul (.var 1) (.var 3)) (.sub (.mul (.var 5) (.var 5)) (.add (.mul (.mul (.var 4) (.var 4)) (.var 4)) (.var 8)))) (.mul (.neg (.mul (.var 1) (.var 3))) (.sub (.mul (.var 7) (.var 7)) (.add (.mul (.mul (.var 6) (.var 6)) (.var 6)) (.var 8))))) (by kernel_rfl)) (lz2 (lz H0) (lz H1))))⟩
theorem line_ne {l x1 y1 : α} : (CY + kc y1 + kc l * (CX - kc x1) : Cd B) ≠ 0 := by
  intro h
  have h1 : (1 : Pol α) + 0 + (cst l * (0 - 0) + 0 * (PX - cst x1)) = 0 := congrArg Cd.b h
  rw [(show ((1 + 0) + (((cst l) * (0 - 0)) + (0 * (PX - cst x1)))) = 1 from ring_id (fun vi_ => vget vi_ [cst l, PX - cst x1]) (.add (.add .one .zero) (.add (.mul (.var 0) (.sub .zero .zero)) (.mul .zero (.var 1)))) .one (by kernel_rfl))] at h1
  exact deg_one.ne h1
theorem line_ne' {l x1 y1 : α} : (CY - kc y1 - kc l * (CX - kc x1) : Cd B) ≠ 0 := by
  intro h
  have h1 : (1 : Pol α) - 0 - (cst l * (0 - 0) + 0 * (PX - cst x1)) = 0 := congrArg Cd.b h
  rw [(show ((1 - 0) - (((cst l) * (0 - 0)) + (0 * (PX - cst x1)))) = 1 from ring_id (fun vi_ => vget vi_ [cst l, PX - cst x1]) (.sub (.sub .one .zero) (.add (.mul (.var 0) (.sub .zero .zero)) (.mul .zero (.var 1)))) .one (by kernel_rfl))] at h1
  exact deg_one.ne h1
/-- Of a line's points: their sum is of their product's class. -/
theorem cls_line {l : α} {p q : α × α} (hp : Aff B p) (hq : Aff B q) (h : Ln l p q) : Rel (iaff B p * iaff B q) (iaff B (third l p q)) := by
  obtain ⟨x1, y1⟩ := p
  obtain ⟨x2, y2⟩ := q
  have H0 : (CY * CY : Cd B) = CX * CX * CX + kc B := CY_sq
  have H1 := aff_lift hp
  have h3 := third_aff hp h
  have T := congrArg (kc (B := B)) h.tan
  have h2 := congrArg (kc (B := B)) h.at_
  simp only [kc_add, kc_mul, kc_sub] at T h2 H1
  have i1 := inv_pt hp
  have i2 := inv_pt hq
  have h3' : Aff B (l * l - x1 - x2, y1 + l * (l * l - x1 - x2 - x1)) := by
    have e : Aff B (l * l - x1 - x2, l * (x1 - (l * l - x1 - x2)) - y1) := h3
    have e : (l * (x1 - (l * l - x1 - x2)) - y1) * (l * (x1 - (l * l - x1 - x2)) - y1) = (l * l - x1 - x2) * (l * l - x1 - x2) * (l * l - x1 - x2) + B := e
    exact (eq_of_sub (Eq.trans (show (((y1 + (l * ((((l * l) - x1) - x2) - x1))) * (y1 + (l * ((((l * l) - x1) - x2) - x1)))) - ((((((l * l) - x1) - x2) * (((l * l) - x1) - x2)) * (((l * l) - x1) - x2)) + B)) = (1 * ((((l * (x1 - (((l * l) - x1) - x2))) - y1) * ((l * (x1 - (((l * l) - x1) - x2))) - y1)) - ((((((l * l) - x1) - x2) * (((l * l) - x1) - x2)) * (((l * l) - x1) - x2)) + B))) from ring_id (fun vi_ => vget vi_ [x1, x2, y1, l, B]) (.sub (.mul (.add (.var 2) (.mul (.var 3) (.sub (.sub (.sub (.mul (.var 3) (.var 3)) (.var 0)) (.var 1)) (.var 0)))) (.add (.var 2) (.mul (.var 3) (.sub (.sub (.sub (.mul (.var 3) (.var 3)) (.var 0)) (.var 1)) (.var 0))))) (.add (.mul (.mul (.sub (.sub (.mul (.var 3) (.var 3)) (.var 0)) (.var 1)) (.sub (.sub (.mul (.var 3) (.var 3)) (.var 0)) (.var 1))) (.sub (.sub (.mul (.var 3) (.var 3)) (.var 0)) (.var 1))) (.var 4))) (.mul .one (.sub (.mul (.sub (.mul (.var 3) (.sub (.var 0) (.sub (.sub (.mul (.var 3) (.var 3)) (.var 0)) (.var 1)))) (.var 2)) (.sub (.mul (.var 3) (.sub (.var 0) (.sub (.sub (.mul (.var 3) (.var 3)) (.var 0)) (.var 1)))) (.var 2))) (.add (.mul (.mul (.sub (.sub (.mul (.var 3) (.var 3)) (.var 0)) (.var 1)) (.sub (.sub (.mul (.var 3) (.var 3)) (.var 0)) (.var 1))) (.sub (.sub (.mul (.var 3) (.var 3)) (.var 0)) (.var 1))) (.var 4)))) (by kernel_rfl)) (lz e)))
  have i3 := inv_pt h3'
  have hl := line_eq (X := CX) (Y := CY) (l := kc l) H0 H1 T h2 (x3 := kc (l * l - x1 - x2)) (y3 := kc (y1 + l * (l * l - x1 - x2 - x1))) (by simp only [kc_add, kc_mul, kc_sub]) (by simp only [kc_add, kc_mul, kc_sub]) i1 i2 i3 line_ne
  refine ⟨CX - kc (l * l - x1 - x2), CY - kc y1 - kc l * (CX - kc x1), CXsub_ne _, line_ne', ?_⟩
  have ey : (-kc (y1 + l * (l * l - x1 - x2 - x1)) : Cd B) = kc (l * (x1 - (l * l - x1 - x2)) - y1) := by
    rw [← kc_neg, (show (-(y1 + (l * ((((l * l) - x1) - x2) - x1)))) = ((l * (x1 - (((l * l) - x1) - x2))) - y1) from ring_id (fun vi_ => vget vi_ [x1, x2, y1, l]) (.neg (.add (.var 2) (.mul (.var 3) (.sub (.sub (.sub (.mul (.var 3) (.var 3)) (.var 0)) (.var 1)) (.var 0))))) (.sub (.mul (.var 3) (.sub (.var 0) (.sub (.sub (.mul (.var 3) (.var 3)) (.var 0)) (.var 1)))) (.var 2)) (by kernel_rfl))]
  rw [← hl, ← i3, ey]
  show gen2 _ _ * gen2 _ _ * (gen2 _ _ * gen2 _ _) = gen2 _ _ * (gen2 _ _ * gen2 _ _) * gen2 _ _
  ac_rfl

variable [DecidableEq α]
def slope (p q : α × α) : α := if p.1 = q.1 then (p.1 * p.1 + p.1 * p.1 + p.1 * p.1) * Fld.finv (p.2 + p.2) else (q.2 - p.2) * Fld.finv (q.1 - p.1)
/-- The sum of two points. -/
def cadd (p q : α × α) : α × α := if p = (0, 0) then q else if q = (0, 0) then p else if p.1 = q.1 ∧ p.2 + q.2 = 0 then (0, 0) else third (slope p q) p q
def cneg (p : α × α) : α × α := if p = (0, 0) then p else (p.1, 0 - p.2)
theorem sub_ne {a b : α} (h : a ≠ b) : b - a ≠ 0 := fun e => h (eq_of_sub e).symm
theorem slope_ok {p q : α × α} (hp : Aff B p) (hq : Aff B q) (h : ¬ (p.1 = q.1 ∧ p.2 + q.2 = 0)) : Ln (slope p q) p q := by
  obtain ⟨x1, y1⟩ := p
  obtain ⟨x2, y2⟩ := q
  have H1 : y1 * y1 = x1 * x1 * x1 + B := hp
  have H2 : y2 * y2 = x2 * x2 * x2 + B := hq
  by_cases hx : x1 = x2
  · subst hx
    have hs : y1 + y2 ≠ 0 := fun e => h ⟨rfl, e⟩
    have he : y1 = y2 := by
      apply Classical.byContradiction
      intro hne
      refine Fld.mul_ne (sub_ne hne) hs ?_
      exact (eq_of_sub (Eq.trans (show (((y2 - y1) * (y1 + y2)) - 0) = ((1 * ((y2 * y2) - (((x1 * x1) * x1) + B))) + ((-1) * ((y1 * y1) - (((x1 * x1) * x1) + B)))) from ring_id (fun vi_ => vget vi_ [y1, y2, x1, B]) (.sub (.mul (.sub (.var 1) (.var 0)) (.add (.var 0) (.var 1))) .zero) (.add (.mul .one (.sub (.mul (.var 1) (.var 1)) (.add (.mul (.mul (.var 2) (.var 2)) (.var 2)) (.var 3)))) (.mul (.neg .one) (.sub (.mul (.var 0) (.var 0)) (.add (.mul (.mul (.var 2) (.var 2)) (.var 2)) (.var 3))))) (by kernel_rfl)) (lz2 (lz H2) (lz H1))))
    subst he
    have hk := Fld.mul_finv _ hs
    unfold slope
    simp only [if_true]
    generalize Fld.finv (y1 + y1) = k at hk
    refine ⟨?_, ?_⟩
    · show y1 = y1 + (x1 * x1 + x1 * x1 + x1 * x1) * k * (x1 - x1)
      exact (show y1 = (y1 + (((((x1 * x1) + (x1 * x1)) + (x1 * x1)) * k) * (x1 - x1))) from ring_id (fun vi_ => vget vi_ [y1, x1, k]) (.var 0) (.add (.var 0) (.mul (.mul (.add (.add (.mul (.var 1) (.var 1)) (.mul (.var 1) (.var 1))) (.mul (.var 1) (.var 1))) (.var 2)) (.sub (.var 1) (.var 1)))) (by kernel_rfl))
    · show x1 * x1 + x1 * x1 + x1 * x1 = (x1 * x1 + x1 * x1 + x1 * x1) * k * (y1 + y1 + (x1 * x1 + x1 * x1 + x1 * x1) * k * (x1 - x1))
      exact (eq_of_sub (Eq.trans (show ((((x1 * x1) + (x1 * x1)) + (x1 * x1)) - (((((x1 * x1) + (x1 * x1)) + (x1 * x1)) * k) * ((y1 + y1) + (((((x1 * x1) + (x1 * x1)) + (x1 * x1)) * k) * (x1 - x1))))) = ((-(((x1 * x1) + (x1 * x1)) + (x1 * x1))) * (((y1 + y1) * k) - 1)) from ring_id (fun vi_ => vget vi_ [y1, x1, k]) (.sub (.add (.add (.mul (.var 1) (.var 1)) (.mul (.var 1) (.var 1))) (.mul (.var 1) (.var 1))) (.mul (.mul (.add (.add (.mul (.var 1) (.var 1)) (.mul (.var 1) (.var 1))) (.mul (.var 1) (.var 1))) (.var 2)) (.add (.add (.var 0) (.var 0)) (.mul (.mul (.add (.add (.mul (.var 1) (.var 1)) (.mul (.var 1) (.var 1))) (.mul (.var 1) (.var 1))) (.var 2)) (.sub (.var 1) (.var 1)))))) (.mul (.neg (.add (.add (.mul (.var 1) (.var 1)) (.mul (.var 1) (.var 1))) (.mul (.var 1) (.var 1)))) (.sub (.mul (.add (.var 0) (.var 0)) (.var 2)) .one)) (by kernel_rfl)) (lz hk)))
  · have hk := Fld.mul_finv _ (sub_ne hx)
    unfold slope
    simp only [if_neg hx]
    generalize Fld.finv (x2 - x1) = k at hk
    have hl : (y2 - y1) * k * (x2 - x1) = y2 - y1 := (eq_of_sub (Eq.trans (show ((((y2 - y1) * k) * (x2 - x1)) - (y2 - y1)) = ((y2 - y1) * (((x2 - x1) * k) - 1)) from ring_id (fun vi_ => vget vi_ [y1, y2, x1, x2, k]) (.sub (.mul (.mul (.sub (.var 1) (.var 0)) (.var 4)) (.sub (.var 3) (.var 2))) (.sub (.var 1) (.var 0))) (.mul (.sub (.var 1) (.var 0)) (.sub (.mul (.sub (.var 3) (.var 2)) (.var 4)) .one)) (by kernel_rfl)) (lz hk)))
    generalize (y2 - y1) * k = l at hl
    refine ⟨?_, ?_⟩
    · show y2 = y1 + l * (x2 - x1)
      rw [hl]; exact (show y2 = (y1 + (y2 - y1)) from ring_id (fun vi_ => vget vi_ [y1, y2]) (.var 1) (.add (.var 0) (.sub (.var 1) (.var 0))) (by kernel_rfl))
    · show x1 * x1 + x1 * x2 + x2 * x2 = l * (y1 + y1 + l * (x2 - x1))
      apply Classical.byContradiction
      intro hne
      refine Fld.mul_ne (sub_ne hx) (sub_ne (fun e => hne e.symm)) ?_
      exact (eq_of_sub (Eq.trans (show (((x2 - x1) * ((((x1 * x1) + (x1 * x2)) + (x2 * x2)) - (l * ((y1 + y1) + (l * (x2 - x1)))))) - 0) = (((1 * ((y1 * y1) - (((x1 * x1) * x1) + B))) + ((-1) * ((y2 * y2) - (((x2 * x2) * x2) + B)))) + ((-((y1 + y2) + (l * (x2 - x1)))) * ((l * (x2 - x1)) - (y2 - y1)))) from ring_id (fun vi_ => vget vi_ [x1, x2, y1, y2, l, B]) (.sub (.mul (.sub (.var 1) (.var 0)) (.sub (.add (.add (.mul (.var 0) (.var 0)) (.mul (.var 0) (.var 1))) (.mul (.var 1) (.var 1))) (.mul (.var 4) (.add (.add (.var 2) (.var 2)) (.mul (.var 4) (.sub (.var 1) (.var 0))))))) .zero) (.add (.add (.mul .one (.sub (.mul (.var 2) (.var 2)) (.add (.mul (.mul (.var 0) (.var 0)) (.var 0)) (.var 5)))) (.mul (.neg .one) (.sub (.mul (.var 3) (.var 3)) (.add (.mul (.mul (.var 1) (.var 1)) (.var 1)) (.var 5))))) (.mul (.neg (.add (.add (.var 2) (.var 3)) (.mul (.var 4) (.sub (.var 1) (.var 0))))) (.sub (.mul (.var 4) (.sub (.var 1) (.var 0))) (.sub (.var 3) (.var 2))))) (by kernel_rfl)) (lz2 (lz2 (lz H1) (lz H2)) (lz hl))))
theorem cadd_zero (p : α × α) : cadd p (0, 0) = p := by
  unfold cadd
  by_cases h : p = (0, 0)
  · rw [if_pos h, h]
  · rw [if_neg h, if_pos rfl]
theorem zero_cadd (p : α × α) : cadd (0, 0) p = p := if_pos rfl
theorem On.cadd {p q : α × α} (hp : On B p) (hq : On B q) : On B (cadd p q) := by
  rcases hp with rfl | hp
  · rw [zero_cadd]; exact hq
  rcases hq with rfl | hq
  · rw [cadd_zero]; exact .inr hp
  unfold Ec.cadd
  rw [if_neg hp.ne, if_neg hq.ne]
  split
  · exact .inl rfl
  · rename_i h; exact .inr (third_aff hp (slope_ok hp hq h))
theorem Aff.neg {p : α × α} (h : Aff B p) : Aff B (p.1, 0 - p.2) := by
  have H1 : p.2 * p.2 = p.1 * p.1 * p.1 + B := h
  exact (eq_of_sub (Eq.trans (show (((0 - p.2) * (0 - p.2)) - (((p.1 * p.1) * p.1) + B)) = (1 * ((p.2 * p.2) - (((p.1 * p.1) * p.1) + B))) from ring_id (fun vi_ => vget vi_ [p.1, p.2, B]) (.sub (.mul (.sub .zero (.var 1)) (.sub .zero (.var 1))) (.add (.mul (.mul (.var 0) (.var 0)) (.var 0)) (.var 2))) (.mul .one (.sub (.mul (.var 1) (.var 1)) (.add (.mul (.mul (.var 0) (.var 0)) (.var 0)) (.var 2)))) (by kernel_rfl)) (lz H1)))
theorem cneg_zero : cneg ((0, 0) : α × α) = (0, 0) := if_pos rfl
theorem On.cneg {p : α × α} (hp : On B p) : On B (cneg p) := by
  rcases hp with rfl | hp
  · rw [cneg_zero]; exact .inl rfl
  · unfold Ec.cneg; rw [if_neg hp.ne]; exact .inr hp.neg
theorem cneg_cneg {p : α × α} (hp : On B p) : cneg (cneg p) = p := by
  rcases hp with rfl | hp
  · rw [cneg_zero, cneg_zero]
  · have h1 : cneg p = (p.1, 0 - p.2) := if_neg hp.ne
    rw [h1]
    unfold cneg
    rw [if_neg hp.neg.ne]
    exact Prod.ext rfl (show (0 - (0 - p.2)) = p.2 from ring_id (fun vi_ => vget vi_ [p.2]) (.sub .zero (.sub .zero (.var 0))) (.var 0) (by kernel_rfl))
theorem cadd_cneg {p : α × α} (hp : On B p) : cadd p (cneg p) = (0, 0) := by
  rcases hp with rfl | hp
  · rw [cneg_zero, zero_cadd]
  · have h1 : cneg p = (p.1, 0 - p.2) := if_neg hp.ne
    rw [h1]
    unfold cadd
    rw [if_neg hp.ne, if_neg hp.neg.ne, if_pos ⟨rfl, (show (p.2 + (0 - p.2)) = 0 from ring_id (fun vi_ => vget vi_ [p.2]) (.add (.var 0) (.sub .zero (.var 0))) .zero (by kernel_rfl))⟩]
def ip (B : α) (p : α × α) : Idl (Cd B) := if p = (0, 0) then prin 1 else iaff B p
theorem ip_zero : ip B (0, 0) = prin 1 := if_pos rfl
theorem ip_aff {p : α × α} (h : Aff B p) : ip B p = iaff B p := if_neg h.ne
theorem cls_add {p q : α × α} (hp : On B p) (hq : On B q) : Rel (ip B p * ip B q) (ip B (cadd p q)) := by
  rcases hp with rfl | hp
  · rw [zero_cadd, ip_zero, prin_one]; exact Rel.refl _
  rcases hq with rfl | hq
  · rw [cadd_zero, ip_zero, imul_comm, prin_one]; exact Rel.refl _
  by_cases h : p.1 = q.1 ∧ p.2 + q.2 = 0
  · have e : cadd p q = (0, 0) := by unfold cadd; rw [if_neg hp.ne, if_neg hq.ne, if_pos h]
    rw [e, ip_zero, ip_aff hp, ip_aff hq]
    obtain ⟨x1, y1⟩ := p
    obtain ⟨x2, y2⟩ := q
    obtain ⟨rfl, h2⟩ : x1 = x2 ∧ y1 + y2 = 0 := h
    have e2 : y2 = -y1 := by
      exact (eq_of_sub (Eq.trans (show (y2 - (-y1)) = (1 * ((y1 + y2) - 0)) from ring_id (fun vi_ => vget vi_ [y1, y2]) (.sub (.var 1) (.neg (.var 0))) (.mul .one (.sub (.add (.var 0) (.var 1)) .zero)) (by kernel_rfl)) (lz h2)))
    subst e2
    have hi := inv_pt hp
    rw [← kc_neg] at hi
    exact ⟨1, CX - kc x1, Dom.one_ne, CXsub_ne _, by
      rw [prin_one, imul_comm (prin _) (prin 1), prin_one]
      exact hi⟩
  · have e : cadd p q = third (slope p q) p q := by unfold cadd; rw [if_neg hp.ne, if_neg hq.ne, if_neg h]
    have hl := slope_ok hp hq h
    rw [e, ip_aff hp, ip_aff hq, ip_aff (third_aff hp hl)]
    exact cls_line hp hq hl
theorem not_prin {p : α × α} (hp : Aff B p) : ¬ Rel (iaff B p) (prin 1) := by
  rintro ⟨f, g, hf, hg, h⟩
  have e : prin f * iaff B p = prin g := by rw [h, imul_comm, prin_one]
  -- g = f w for some w of the ideal; then w divides what the point makes nought
  have hg1 : (prin f * iaff B p).mem g := by rw [e]; exact prin_self g
  obtain ⟨w, hw, rfl⟩ := mem_prin_mul.1 hg1
  have hX : (prin (f * w)).mem (f * (CX - kc p.1)) := by rw [← e]; exact mem_prin_mul.2 ⟨_, gen2_l _ _, rfl⟩
  have hY : (prin (f * w)).mem (f * (CY - kc p.2)) := by rw [← e]; exact mem_prin_mul.2 ⟨_, gen2_r _ _, rfl⟩
  obtain ⟨s, hs⟩ := hX
  obtain ⟨t, ht⟩ := hY
  rw [mul_assoc] at hs ht
  obtain ⟨wb, wa⟩ := no_common (Dom.cancel hf hs).symm (Dom.cancel hf ht).symm
  -- so one lies in the ideal
  have hw1 : w = kc (w.a.co 0) := Cd.ext (Pol.ext fun n => by
    cases n with
    | zero => rfl
    | succ n => rw [wa.2 (n + 1) (Nat.succ_pos n)]; rfl) wb
  have h1 : (iaff B p).mem 1 := by
    have := (iaff B p).mul (kc (Fld.finv (w.a.co 0))) w hw
    have e1 : (kc (Fld.finv (w.a.co 0)) * w : Cd B) = 1 := by
      have h0 := wa.1
      generalize w.a.co 0 = c at hw1 h0
      rw [hw1, ← kc_mul, mul_comm, Fld.mul_finv c h0, kc_one]
    rw [e1] at this
    exact this
  obtain ⟨r, s, hrs⟩ := h1
  have H1 := aff_lift hp
  have H0 : (CY * CY : Cd B) = CX * CX * CX + kc B := CY_sq
  have key : (CY + kc p.2 : Cd B) = (CX - kc p.1) * (r * (CY + kc p.2) + s * (CX * CX + CX * kc p.1 + kc p.1 * kc p.1)) := by
    generalize (CX : Cd B) = X at *
    generalize (CY : Cd B) = Y at *
    generalize kc (B := B) p.1 = u at *
    generalize kc (B := B) p.2 = v at *
    generalize kc (B := B) B = b at *
    exact (eq_of_sub (Eq.trans (show ((Y + v) - ((X - u) * ((r * (Y + v)) + (s * (((X * X) + (X * u)) + (u * u)))))) = ((((Y + v) * (1 - ((r * (X - u)) + (s * (Y - v))))) + (s * ((Y * Y) - (((X * X) * X) + b)))) + ((-s) * ((v * v) - (((u * u) * u) + b)))) from ring_id (fun vi_ => vget vi_ [X, Y, u, v, b, r, s]) (.sub (.add (.var 1) (.var 3)) (.mul (.sub (.var 0) (.var 2)) (.add (.mul (.var 5) (.add (.var 1) (.var 3))) (.mul (.var 6) (.add (.add (.mul (.var 0) (.var 0)) (.mul (.var 0) (.var 2))) (.mul (.var 2) (.var 2))))))) (.add (.add (.mul (.add (.var 1) (.var 3)) (.sub .one (.add (.mul (.var 5) (.sub (.var 0) (.var 2))) (.mul (.var 6) (.sub (.var 1) (.var 3)))))) (.mul (.var 6) (.sub (.mul (.var 1) (.var 1)) (.add (.mul (.mul (.var 0) (.var 0)) (.var 0)) (.var 4))))) (.mul (.neg (.var 6)) (.sub (.mul (.var 3) (.var 3)) (.add (.mul (.mul (.var 2) (.var 2)) (.var 2)) (.var 4))))) (by kernel_rfl)) (lz2 (lz2 (lz hrs) (lz H0)) (lz H1))))
  generalize r * (CY + kc p.2) + s * (CX * CX + CX * kc p.1 + kc p.1 * kc p.1) = v at key
  have hb : (1 : Pol α) + 0 = (PX - cst p.1) * v.b + (0 - 0) * v.a := congrArg Cd.b key
  rw [(show (((PX - cst p.1) * v.b) + ((0 - 0) * v.a)) = ((PX - cst p.1) * v.b) from ring_id (fun vi_ => vget vi_ [v.a, v.b, PX - cst p.1]) (.add (.mul (.var 2) (.var 1)) (.mul (.sub .zero .zero) (.var 0))) (.mul (.var 2) (.var 1)) (by kernel_rfl)), add_zero'] at hb
  have hv : v.b ≠ 0 := by
    intro e; rw [e, mul_zero'] at hb; exact deg_one.ne hb
  obtain ⟨n, hn⟩ := Deg.of hv
  have := (hb ▸ deg_one).unique ((deg_Xsub p.1).mul hn)
  omega
theorem cadd_O {p q : α × α} (hp : On B p) (hq : On B q) (h : cadd p q = (0, 0)) : p = cneg q := by
  rcases hp with rfl | hp
  · rw [zero_cadd] at h; rw [h, cneg_zero]
  rcases hq with rfl | hq
  · rw [cadd_zero] at h; exact absurd h hp.ne
  by_cases hc : p.1 = q.1 ∧ p.2 + q.2 = 0
  · unfold cneg
    rw [if_neg hq.ne]
    have h2 := hc.2
    exact Prod.ext hc.1 (eq_of_sub (Eq.trans (show (p.2 - (0 - q.2)) = (1 * ((p.2 + q.2) - 0)) from ring_id (fun vi_ => vget vi_ [p.2, q.2]) (.sub (.var 0) (.sub .zero (.var 1))) (.mul .one (.sub (.add (.var 0) (.var 1)) .zero)) (by kernel_rfl)) (lz h2)))
  · unfold cadd at h
    rw [if_neg hp.ne, if_neg hq.ne, if_neg hc] at h
    exact absurd h (third_aff hp (slope_ok hp hq hc)).ne
/-- Points of one class are the same. -/
theorem cls_inj {p q : α × α} (hp : On B p) (hq : On B q) (h : Rel (ip B p) (ip B q)) : p = q := by
  have h1 := (cls_add hp hq.cneg).symm.trans ((h.mul (Rel.refl (ip B (cneg q)))).trans (cls_add hq hq.cneg))
  rw [cadd_cneg hq, ip_zero] at h1
  rcases hp.cadd hq.cneg with h2 | h2
  · rw [cadd_O hp hq.cneg h2, cneg_cneg hq]
  · rw [ip_aff h2] at h1; exact absurd h1 (not_prin h2)
theorem cadd_comm {p q : α × α} (hp : On B p) (hq : On B q) : cadd p q = cadd q p :=
  cls_inj (hp.cadd hq) (hq.cadd hp) ((cls_add hp hq).symm.trans ((Rel.of_eq (imul_comm _ _)).trans (cls_add hq hp)))
theorem cadd_assoc {p q r : α × α} (hp : On B p) (hq : On B q) (hr : On B r) : cadd (cadd p q) r = cadd p (cadd q r) := by
  refine cls_inj ((hp.cadd hq).cadd hr) (hp.cadd (hq.cadd hr)) ?_
  have h1 := ((cls_add hp hq).mul (Rel.refl (ip B r))).trans (cls_add (hp.cadd hq) hr)
  have h2 := ((Rel.refl (ip B p)).mul (cls_add hq hr)).trans (cls_add hp (hq.cadd hr))
  exact h1.symm.trans ((Rel.of_eq (imul_assoc _ _ _)).trans h2)
end
end Go.Ec
