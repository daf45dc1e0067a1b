/-
  Three points on a line, and maps of the curve onto itself, over any field.
  Conditions: neither 2 nor 3 nor b is nought in the field; the points lie on the curve.
-/
import Derived.Test.YtbchpfmfiokbgaaDoorJac
namespace Go.Ec
open Go.Cu
set_option linter.unusedVariables false
set_option linter.unusedSimpArgs false
set_option linter.unusedSectionVars false
open CR
section
variable {α : Type} [Fld α] [DecidableEq α] {B : α} [hG : Gd B]
theorem line_r {p q : α × α} (hp : Aff B p) (hq : Aff B q) (h : ¬ (p.1 = q.1 ∧ p.2 + q.2 = 0)) :
    ∃ l, Ln l p q ∧ cneg (cadd p q) = (l * l - p.1 - q.1, p.2 + l * (l * l - p.1 - q.1 - p.1)) := by
  have hl := slope_ok hp hq h
  refine ⟨slope p q, hl, ?_⟩
  have e : cadd p q = third (slope p q) p q := by unfold cadd; rw [if_neg hp.ne, if_neg hq.ne, if_neg h]
  rw [e]
  unfold cneg
  rw [if_neg (third_aff hp hl).ne]
  generalize slope p q = l
  exact Prod.ext rfl (show (0 - ((l * (p.1 - (((l * l) - p.1) - q.1))) - p.2)) = (p.2 + (l * ((((l * l) - p.1) - q.1) - p.1))) from ring_id (fun vi_ => vget vi_ [l, p.1, p.2, q.1]) (.sub .zero (.sub (.mul (.var 0) (.sub (.var 1) (.sub (.sub (.mul (.var 0) (.var 0)) (.var 1)) (.var 3)))) (.var 2))) (.add (.var 2) (.mul (.var 0) (.sub (.sub (.sub (.mul (.var 0) (.var 0)) (.var 1)) (.var 3)) (.var 1)))) (by kernel_rfl))
/-- The tangent. -/
theorem tan_r {p : α × α} (hp : Aff B p) (hy : p.2 + p.2 ≠ 0) (r : α × α) (hr : r = cneg (cadd p p)) :
    ((p.2 + p.2) * (r.2 - p.2) = (p.1 * p.1 + p.1 * p.1 + p.1 * p.1) * (r.1 - p.1)) ∧
    (r.1 = p.1 → r = p ∧ (let s := p.1 * p.1 * (p.1 * p.1); let u := p.1 * (p.2 * p.2); let n := s + s + s; let v := u + u + u; n + n + n = (v + v) + (v + v))) := by
  obtain ⟨l, hl, he⟩ := line_r hp hp (fun h => hy h.2)
  have hT := hl.tan
  have hT : p.1 * p.1 + p.1 * p.1 + p.1 * p.1 = l * (p.2 + p.2 + l * (p.1 - p.1)) := hT
  rw [he] at hr
  subst hr
  obtain ⟨x, y⟩ := p
  have hT : x * x + x * x + x * x = l * (y + y + l * (x - x)) := hT
  refine ⟨?_, fun hx => ?_⟩
  · show (y + y) * (y + l * (l * l - x - x - x) - y) = (x * x + x * x + x * x) * (l * l - x - x - x)
    exact (eq_of_sub (Eq.trans (show (((y + y) * ((y + (l * ((((l * l) - x) - x) - x))) - y)) - ((((x * x) + (x * x)) + (x * x)) * ((((l * l) - x) - x) - x))) = ((-((((l * l) - x) - x) - x)) * ((((x * x) + (x * x)) + (x * x)) - (l * ((y + y) + (l * (x - x)))))) from ring_id (fun vi_ => vget vi_ [x, y, l]) (.sub (.mul (.add (.var 1) (.var 1)) (.sub (.add (.var 1) (.mul (.var 2) (.sub (.sub (.sub (.mul (.var 2) (.var 2)) (.var 0)) (.var 0)) (.var 0)))) (.var 1))) (.mul (.add (.add (.mul (.var 0) (.var 0)) (.mul (.var 0) (.var 0))) (.mul (.var 0) (.var 0))) (.sub (.sub (.sub (.mul (.var 2) (.var 2)) (.var 0)) (.var 0)) (.var 0)))) (.mul (.neg (.sub (.sub (.sub (.mul (.var 2) (.var 2)) (.var 0)) (.var 0)) (.var 0))) (.sub (.add (.add (.mul (.var 0) (.var 0)) (.mul (.var 0) (.var 0))) (.mul (.var 0) (.var 0))) (.mul (.var 2) (.add (.add (.var 1) (.var 1)) (.mul (.var 2) (.sub (.var 0) (.var 0))))))) (by kernel_rfl)) (lz hT)))
  · have hx : l * l - x - x = x := hx
    refine ⟨Prod.ext hx ?_, ?_⟩
    · show y + l * (l * l - x - x - x) = y
      exact (eq_of_sub (Eq.trans (show ((y + (l * ((((l * l) - x) - x) - x))) - y) = (l * ((((l * l) - x) - x) - x)) from ring_id (fun vi_ => vget vi_ [x, y, l]) (.sub (.add (.var 1) (.mul (.var 2) (.sub (.sub (.sub (.mul (.var 2) (.var 2)) (.var 0)) (.var 0)) (.var 0)))) (.var 1)) (.mul (.var 2) (.sub (.sub (.sub (.mul (.var 2) (.var 2)) (.var 0)) (.var 0)) (.var 0))) (by kernel_rfl)) (lz hx)))
    · show x * x * (x * x) + x * x * (x * x) + x * x * (x * x) + (x * x * (x * x) + x * x * (x * x) + x * x * (x * x)) + (x * x * (x * x) + x * x * (x * x) + x * x * (x * x)) = x * (y * y) + x * (y * y) + x * (y * y) + (x * (y * y) + x * (y * y) + x * (y * y)) + (x * (y * y) + x * (y * y) + x * (y * y) + (x * (y * y) + x * (y * y) + x * (y * y)))
      exact (eq_of_sub (Eq.trans (show (((((((x * x) * (x * x)) + ((x * x) * (x * x))) + ((x * x) * (x * x))) + ((((x * x) * (x * x)) + ((x * x) * (x * x))) + ((x * x) * (x * x)))) + ((((x * x) * (x * x)) + ((x * x) * (x * x))) + ((x * x) * (x * x)))) - (((((x * (y * y)) + (x * (y * y))) + (x * (y * y))) + (((x * (y * y)) + (x * (y * y))) + (x * (y * y)))) + ((((x * (y * y)) + (x * (y * y))) + (x * (y * y))) + (((x * (y * y)) + (x * (y * y))) + (x * (y * y)))))) = ((((((x * x) + (x * x)) + (x * x)) + (l * (y + y))) * ((((x * x) + (x * x)) + (x * x)) - (l * ((y + y) + (l * (x - x)))))) + (((y + y) * (y + y)) * ((((l * l) - x) - x) - x))) from ring_id (fun vi_ => vget vi_ [x, y, l]) (.sub (.add (.add (.add (.add (.mul (.mul (.var 0) (.var 0)) (.mul (.var 0) (.var 0))) (.mul (.mul (.var 0) (.var 0)) (.mul (.var 0) (.var 0)))) (.mul (.mul (.var 0) (.var 0)) (.mul (.var 0) (.var 0)))) (.add (.add (.mul (.mul (.var 0) (.var 0)) (.mul (.var 0) (.var 0))) (.mul (.mul (.var 0) (.var 0)) (.mul (.var 0) (.var 0)))) (.mul (.mul (.var 0) (.var 0)) (.mul (.var 0) (.var 0))))) (.add (.add (.mul (.mul (.var 0) (.var 0)) (.mul (.var 0) (.var 0))) (.mul (.mul (.var 0) (.var 0)) (.mul (.var 0) (.var 0)))) (.mul (.mul (.var 0) (.var 0)) (.mul (.var 0) (.var 0))))) (.add (.add (.add (.add (.mul (.var 0) (.mul (.var 1) (.var 1))) (.mul (.var 0) (.mul (.var 1) (.var 1)))) (.mul (.var 0) (.mul (.var 1) (.var 1)))) (.add (.add (.mul (.var 0) (.mul (.var 1) (.var 1))) (.mul (.var 0) (.mul (.var 1) (.var 1)))) (.mul (.var 0) (.mul (.var 1) (.var 1))))) (.add (.add (.add (.mul (.var 0) (.mul (.var 1) (.var 1))) (.mul (.var 0) (.mul (.var 1) (.var 1)))) (.mul (.var 0) (.mul (.var 1) (.var 1)))) (.add (.add (.mul (.var 0) (.mul (.var 1) (.var 1))) (.mul (.var 0) (.mul (.var 1) (.var 1)))) (.mul (.var 0) (.mul (.var 1) (.var 1))))))) (.add (.mul (.add (.add (.add (.mul (.var 0) (.var 0)) (.mul (.var 0) (.var 0))) (.mul (.var 0) (.var 0))) (.mul (.var 2) (.add (.var 1) (.var 1)))) (.sub (.add (.add (.mul (.var 0) (.var 0)) (.mul (.var 0) (.var 0))) (.mul (.var 0) (.var 0))) (.mul (.var 2) (.add (.add (.var 1) (.var 1)) (.mul (.var 2) (.sub (.var 0) (.var 0))))))) (.mul (.mul (.add (.var 1) (.var 1)) (.add (.var 1) (.var 1))) (.sub (.sub (.sub (.mul (.var 2) (.var 2)) (.var 0)) (.var 0)) (.var 0)))) (by kernel_rfl)) (lz2 (lz hT) (lz hx))))
/-- The chord. -/
theorem chord_r {p q : α × α} (hp : Aff B p) (hq : Aff B q) (hx : p.1 ≠ q.1) (r : α × α) (hr : r = cneg (cadd p q)) :
    ((q.1 - p.1) * (r.2 - p.2) = (r.1 - p.1) * (q.2 - p.2)) ∧ (p.1 + q.1 + r.1) * ((q.1 - p.1) * (q.1 - p.1)) = (q.2 - p.2) * (q.2 - p.2) := by
  obtain ⟨l, hl, he⟩ := line_r hp hq (fun h => hx h.1)
  rw [he] at hr
  subst hr
  have ha := hl.at_
  obtain ⟨x1, y1⟩ := p
  obtain ⟨x2, y2⟩ := q
  have ha : y2 = y1 + l * (x2 - x1) := ha
  subst ha
  refine ⟨?_, ?_⟩
  · exact (show ((x2 - x1) * ((y1 + (l * ((((l * l) - x1) - x2) - x1))) - y1)) = (((((l * l) - x1) - x2) - x1) * ((y1 + (l * (x2 - x1))) - y1)) from ring_id (fun vi_ => vget vi_ [x1, y1, x2, l]) (.mul (.sub (.var 2) (.var 0)) (.sub (.add (.var 1) (.mul (.var 3) (.sub (.sub (.sub (.mul (.var 3) (.var 3)) (.var 0)) (.var 2)) (.var 0)))) (.var 1))) (.mul (.sub (.sub (.sub (.mul (.var 3) (.var 3)) (.var 0)) (.var 2)) (.var 0)) (.sub (.add (.var 1) (.mul (.var 3) (.sub (.var 2) (.var 0)))) (.var 1))) (by kernel_rfl))
  · exact (show (((x1 + x2) + (((l * l) - x1) - x2)) * ((x2 - x1) * (x2 - x1))) = (((y1 + (l * (x2 - x1))) - y1) * ((y1 + (l * (x2 - x1))) - y1)) from ring_id (fun vi_ => vget vi_ [x1, y1, x2, l]) (.mul (.add (.add (.var 0) (.var 2)) (.sub (.sub (.mul (.var 3) (.var 3)) (.var 0)) (.var 2))) (.mul (.sub (.var 2) (.var 0)) (.sub (.var 2) (.var 0)))) (.mul (.sub (.add (.var 1) (.mul (.var 3) (.sub (.var 2) (.var 0)))) (.var 1)) (.sub (.add (.var 1) (.mul (.var 3) (.sub (.var 2) (.var 0)))) (.var 1))) (by kernel_rfl))
/-- Two points of the curve over one number are the same, or each other's negatives. -/
theorem same_x {p q : α × α} (hp : Aff B p) (hq : Aff B q) (hx : p.1 = q.1) : p = q ∨ p = cneg q := by
  by_cases hs : p.2 + q.2 = 0
  · right
    unfold cneg
    rw [if_neg hq.ne]
    exact Prod.ext hx (eq_of_sub (Eq.trans (show (p.2 - (0 - q.2)) = (1 * ((p.2 + q.2) - 0)) from ring_id (fun vi_ => vget vi_ [p.2, q.2]) (.sub (.var 0) (.sub .zero (.var 1))) (.mul .one (.sub (.add (.var 0) (.var 1)) .zero)) (by kernel_rfl)) (lz hs)))
  · left
    refine Prod.ext hx ?_
    apply Classical.byContradiction
    intro hne
    refine Fld.mul_ne (sub_ne hne) hs ?_
    have H1 : p.2 * p.2 = p.1 * p.1 * p.1 + B := hp
    have H2 : q.2 * q.2 = q.1 * q.1 * q.1 + B := hq
    rw [← hx] at H2
    exact (eq_of_sub (Eq.trans (show (((q.2 - p.2) * (p.2 + q.2)) - 0) = ((1 * ((q.2 * q.2) - (((p.1 * p.1) * p.1) + B))) + ((-1) * ((p.2 * p.2) - (((p.1 * p.1) * p.1) + B)))) from ring_id (fun vi_ => vget vi_ [p.2, q.2, p.1, B]) (.sub (.mul (.sub (.var 1) (.var 0)) (.add (.var 0) (.var 1))) .zero) (.add (.mul .one (.sub (.mul (.var 1) (.var 1)) (.add (.mul (.mul (.var 2) (.var 2)) (.var 2)) (.var 3)))) (.mul (.neg .one) (.sub (.mul (.var 0) (.var 0)) (.add (.mul (.mul (.var 2) (.var 2)) (.var 2)) (.var 3))))) (by kernel_rfl)) (lz2 (lz H2) (lz H1))))
/-- A line's slope is what the points say. -/
theorem Ln.unique {l l' : α} {p q : α × α} (hp : Aff B p) (hq : Aff B q) (h : ¬ (p.1 = q.1 ∧ p.2 + q.2 = 0)) (h1 : Ln l p q) (h2 : Ln l' p q) : l = l' := by
  by_cases hx : p.1 = q.1
  · have hy : p.2 + p.2 ≠ 0 := by
      intro e
      rcases same_x hp hq hx with e2 | e2
      · exact h ⟨hx, by rw [← e2]; exact e⟩
      · refine h ⟨hx, ?_⟩
        rw [e2]
        unfold cneg
        rw [if_neg hq.ne]
        exact (show ((0 - q.2) + q.2) = 0 from ring_id (fun vi_ => vget vi_ [q.2]) (.add (.sub .zero (.var 0)) (.var 0)) .zero (by kernel_rfl))
    have t1 := h1.tan
    have t2 := h2.tan
    refine Fld.cancel hy ?_
    rw [← hx] at t1 t2
    exact (eq_of_sub (Eq.trans (show (((p.2 + p.2) * l) - ((p.2 + p.2) * l')) = (((-1) * ((((p.1 * p.1) + (p.1 * p.1)) + (p.1 * p.1)) - (l * ((p.2 + p.2) + (l * (p.1 - p.1)))))) + (1 * ((((p.1 * p.1) + (p.1 * p.1)) + (p.1 * p.1)) - (l' * ((p.2 + p.2) + (l' * (p.1 - p.1))))))) from ring_id (fun vi_ => vget vi_ [p.2, p.1, l, l']) (.sub (.mul (.add (.var 0) (.var 0)) (.var 2)) (.mul (.add (.var 0) (.var 0)) (.var 3))) (.add (.mul (.neg .one) (.sub (.add (.add (.mul (.var 1) (.var 1)) (.mul (.var 1) (.var 1))) (.mul (.var 1) (.var 1))) (.mul (.var 2) (.add (.add (.var 0) (.var 0)) (.mul (.var 2) (.sub (.var 1) (.var 1))))))) (.mul .one (.sub (.add (.add (.mul (.var 1) (.var 1)) (.mul (.var 1) (.var 1))) (.mul (.var 1) (.var 1))) (.mul (.var 3) (.add (.add (.var 0) (.var 0)) (.mul (.var 3) (.sub (.var 1) (.var 1)))))))) (by kernel_rfl)) (lz2 (lz t1) (lz t2))))
  · refine Fld.cancel (sub_ne hx) ?_
    have a1 := h1.at_
    have a2 := h2.at_
    exact (eq_of_sub (Eq.trans (show (((q.1 - p.1) * l) - ((q.1 - p.1) * l')) = (((-1) * (q.2 - (p.2 + (l * (q.1 - p.1))))) + (1 * (q.2 - (p.2 + (l' * (q.1 - p.1)))))) from ring_id (fun vi_ => vget vi_ [p.1, p.2, q.1, q.2, l, l']) (.sub (.mul (.sub (.var 2) (.var 0)) (.var 4)) (.mul (.sub (.var 2) (.var 0)) (.var 5))) (.add (.mul (.neg .one) (.sub (.var 3) (.add (.var 1) (.mul (.var 4) (.sub (.var 2) (.var 0)))))) (.mul .one (.sub (.var 3) (.add (.var 1) (.mul (.var 5) (.sub (.var 2) (.var 0))))))) (by kernel_rfl)) (lz2 (lz a1) (lz a2))))
theorem cadd_line {l : α} {p q : α × α} (hp : Aff B p) (hq : Aff B q) (h : ¬ (p.1 = q.1 ∧ p.2 + q.2 = 0)) (h1 : Ln l p q) : cadd p q = third l p q := by
  unfold cadd
  rw [if_neg hp.ne, if_neg hq.ne, if_neg h, Ln.unique hp hq h (slope_ok hp hq h) h1]

/-- A map of the field onto itself that keeps sums and products. -/
structure Sig (σ : α → α) : Prop where
  add : ∀ a b, σ (a + b) = σ a + σ b
  mul : ∀ a b, σ (a * b) = σ a * σ b
  inj : ∀ a b, σ a = σ b → a = b
theorem Sig.zero {σ : α → α} (h : Sig σ) : σ 0 = 0 := by
  have h1 : σ 0 + σ 0 = σ 0 + 0 := by rw [← h.add, zero_add, add_zero']
  exact add_left_cancel' h1
theorem Sig.neg {σ : α → α} (h : Sig σ) (a : α) : σ (-a) = -σ a := by
  have h1 : σ a + σ (-a) = σ a + -σ a := by rw [← h.add, add_neg, h.zero, add_neg]
  exact add_left_cancel' h1
theorem Sig.sub {σ : α → α} (h : Sig σ) (a b : α) : σ (a - b) = σ a - σ b := by rw [sub_eq, h.add, h.neg, ← sub_eq]
/-- The curve's turn by e: x goes to e^2 σ(x), y to e^3 σ(y). -/
def turnm (σ : α → α) (e : α) (p : α × α) : α × α := (e * e * σ p.1, e * e * e * σ p.2)
structure Turn (B : α) (σ : α → α) (e : α) : Prop where
  sig : Sig σ
  ne : e ≠ 0
  keep : e * e * e * (e * e * e) * σ B = B
theorem turn_zero {σ : α → α} {e : α} (h : Turn B σ e) : turnm σ e (0, 0) = (0, 0) := by
  unfold turnm
  rw [h.sig.zero, mul_zero', mul_zero']
theorem turn_aff {σ : α → α} {e : α} (h : Turn B σ e) {p : α × α} (hp : Aff B p) : Aff B (turnm σ e p) := by
  have H1 := congrArg σ hp
  rw [h.sig.mul, h.sig.add, h.sig.mul, h.sig.mul] at H1
  have hk := h.keep
  generalize hX : σ p.1 = X at *
  generalize hY : σ p.2 = Y at *
  generalize hb : σ B = b at *
  show e * e * e * σ p.2 * (e * e * e * σ p.2) = e * e * σ p.1 * (e * e * σ p.1) * (e * e * σ p.1) + B
  rw [hX, hY]
  exact (eq_of_sub (Eq.trans (show (((((e * e) * e) * Y) * (((e * e) * e) * Y)) - (((((e * e) * X) * ((e * e) * X)) * ((e * e) * X)) + B)) = (((((e * e) * e) * ((e * e) * e)) * ((Y * Y) - (((X * X) * X) + b))) + (1 * (((((e * e) * e) * ((e * e) * e)) * b) - B))) from ring_id (fun vi_ => vget vi_ [e, X, Y, b, B]) (.sub (.mul (.mul (.mul (.mul (.var 0) (.var 0)) (.var 0)) (.var 2)) (.mul (.mul (.mul (.var 0) (.var 0)) (.var 0)) (.var 2))) (.add (.mul (.mul (.mul (.mul (.var 0) (.var 0)) (.var 1)) (.mul (.mul (.var 0) (.var 0)) (.var 1))) (.mul (.mul (.var 0) (.var 0)) (.var 1))) (.var 4))) (.add (.mul (.mul (.mul (.mul (.var 0) (.var 0)) (.var 0)) (.mul (.mul (.var 0) (.var 0)) (.var 0))) (.sub (.mul (.var 2) (.var 2)) (.add (.mul (.mul (.var 1) (.var 1)) (.var 1)) (.var 3)))) (.mul .one (.sub (.mul (.mul (.mul (.mul (.var 0) (.var 0)) (.var 0)) (.mul (.mul (.var 0) (.var 0)) (.var 0))) (.var 3)) (.var 4)))) (by kernel_rfl)) (lz2 (lz H1) (lz hk))))
theorem turn_on {σ : α → α} {e : α} (h : Turn B σ e) {p : α × α} (hp : On B p) : On B (turnm σ e p) := by
  rcases hp with rfl | hp
  · rw [turn_zero h]; exact .inl rfl
  · exact .inr (turn_aff h hp)
theorem turn_add {σ : α → α} {e : α} (h : Turn B σ e) {p q : α × α} (hp : On B p) (hq : On B q) : turnm σ e (cadd p q) = cadd (turnm σ e p) (turnm σ e q) := by
  rcases hp with rfl | hp
  · rw [turn_zero h, zero_cadd, zero_cadd]
  rcases hq with rfl | hq
  · rw [turn_zero h, cadd_zero, cadd_zero]
  have hp' := turn_aff h hp
  have hq' := turn_aff h hq
  have he3 : e * e * e ≠ 0 := Fld.mul_ne (Fld.mul_ne h.ne h.ne) h.ne
  by_cases hc : p.1 = q.1 ∧ p.2 + q.2 = 0
  · have hc' : (turnm σ e p).1 = (turnm σ e q).1 ∧ (turnm σ e p).2 + (turnm σ e q).2 = 0 := by
      refine ⟨by unfold turnm; rw [hc.1], ?_⟩
      show e * e * e * σ p.2 + e * e * e * σ q.2 = 0
      rw [← mul_add, ← h.sig.add, hc.2, h.sig.zero, mul_zero']
    have e1 : cadd p q = (0, 0) := by unfold cadd; rw [if_neg hp.ne, if_neg hq.ne, if_pos hc]
    have e2 : cadd (turnm σ e p) (turnm σ e q) = (0, 0) := by unfold cadd; rw [if_neg hp'.ne, if_neg hq'.ne, if_pos hc']
    rw [e1, e2, turn_zero h]
  · have hc' : ¬ ((turnm σ e p).1 = (turnm σ e q).1 ∧ (turnm σ e p).2 + (turnm σ e q).2 = 0) := by
      rintro ⟨h1, h2⟩
      have h1 : e * e * σ p.1 = e * e * σ q.1 := h1
      have h2 : e * e * e * σ p.2 + e * e * e * σ q.2 = 0 := h2
      rw [← mul_add, ← h.sig.add] at h2
      refine hc ⟨h.sig.inj _ _ (Fld.cancel (Fld.mul_ne h.ne h.ne) h1), h.sig.inj _ _ (Fld.cancel he3 ?_)⟩
      rw [h2, h.sig.zero, mul_zero']
    have hl := slope_ok hp hq hc
    have e1 : cadd p q = third (slope p q) p q := cadd_line hp hq hc hl
    generalize slope p q = l at *
    have ha := congrArg σ hl.at_
    have ht := congrArg σ hl.tan
    simp only [h.sig.mul, h.sig.add, h.sig.sub] at ha ht
    have hl' : Ln (e * σ l) (turnm σ e p) (turnm σ e q) := by
      refine ⟨?_, ?_⟩
      · show e * e * e * σ q.2 = e * e * e * σ p.2 + e * σ l * (e * e * σ q.1 - e * e * σ p.1)
        exact (eq_of_sub (Eq.trans (show ((((e * e) * e) * (σ q.2)) - ((((e * e) * e) * (σ p.2)) + ((e * (σ l)) * (((e * e) * (σ q.1)) - ((e * e) * (σ p.1)))))) = (((e * e) * e) * ((σ q.2) - ((σ p.2) + ((σ l) * ((σ q.1) - (σ p.1)))))) from ring_id (fun vi_ => vget vi_ [e, σ p.1, σ p.2, σ q.1, σ q.2, σ l]) (.sub (.mul (.mul (.mul (.var 0) (.var 0)) (.var 0)) (.var 4)) (.add (.mul (.mul (.mul (.var 0) (.var 0)) (.var 0)) (.var 2)) (.mul (.mul (.var 0) (.var 5)) (.sub (.mul (.mul (.var 0) (.var 0)) (.var 3)) (.mul (.mul (.var 0) (.var 0)) (.var 1)))))) (.mul (.mul (.mul (.var 0) (.var 0)) (.var 0)) (.sub (.var 4) (.add (.var 2) (.mul (.var 5) (.sub (.var 3) (.var 1)))))) (by kernel_rfl)) (lz ha)))
      · show e * e * σ p.1 * (e * e * σ p.1) + e * e * σ p.1 * (e * e * σ q.1) + e * e * σ q.1 * (e * e * σ q.1) = e * σ l * (e * e * e * σ p.2 + e * e * e * σ p.2 + e * σ l * (e * e * σ q.1 - e * e * σ p.1))
        exact (eq_of_sub (Eq.trans (show ((((((e * e) * (σ p.1)) * ((e * e) * (σ p.1))) + (((e * e) * (σ p.1)) * ((e * e) * (σ q.1)))) + (((e * e) * (σ q.1)) * ((e * e) * (σ q.1)))) - ((e * (σ l)) * (((((e * e) * e) * (σ p.2)) + (((e * e) * e) * (σ p.2))) + ((e * (σ l)) * (((e * e) * (σ q.1)) - ((e * e) * (σ p.1))))))) = (((e * e) * (e * e)) * (((((σ p.1) * (σ p.1)) + ((σ p.1) * (σ q.1))) + ((σ q.1) * (σ q.1))) - ((σ l) * (((σ p.2) + (σ p.2)) + ((σ l) * ((σ q.1) - (σ p.1))))))) from ring_id (fun vi_ => vget vi_ [e, σ p.1, σ p.2, σ q.1, σ l]) (.sub (.add (.add (.mul (.mul (.mul (.var 0) (.var 0)) (.var 1)) (.mul (.mul (.var 0) (.var 0)) (.var 1))) (.mul (.mul (.mul (.var 0) (.var 0)) (.var 1)) (.mul (.mul (.var 0) (.var 0)) (.var 3)))) (.mul (.mul (.mul (.var 0) (.var 0)) (.var 3)) (.mul (.mul (.var 0) (.var 0)) (.var 3)))) (.mul (.mul (.var 0) (.var 4)) (.add (.add (.mul (.mul (.mul (.var 0) (.var 0)) (.var 0)) (.var 2)) (.mul (.mul (.mul (.var 0) (.var 0)) (.var 0)) (.var 2))) (.mul (.mul (.var 0) (.var 4)) (.sub (.mul (.mul (.var 0) (.var 0)) (.var 3)) (.mul (.mul (.var 0) (.var 0)) (.var 1))))))) (.mul (.mul (.mul (.var 0) (.var 0)) (.mul (.var 0) (.var 0))) (.sub (.add (.add (.mul (.var 1) (.var 1)) (.mul (.var 1) (.var 3))) (.mul (.var 3) (.var 3))) (.mul (.var 4) (.add (.add (.var 2) (.var 2)) (.mul (.var 4) (.sub (.var 3) (.var 1))))))) (by kernel_rfl)) (lz ht)))
    rw [e1, cadd_line hp' hq' hc' hl']
    unfold turnm third
    simp only [h.sig.mul, h.sig.add, h.sig.sub]
    refine Prod.ext ?_ ?_
    · exact (show ((e * e) * ((((σ l) * (σ l)) - (σ p.1)) - (σ q.1))) = ((((e * (σ l)) * (e * (σ l))) - ((e * e) * (σ p.1))) - ((e * e) * (σ q.1))) from ring_id (fun vi_ => vget vi_ [e, σ p.1, σ q.1, σ l]) (.mul (.mul (.var 0) (.var 0)) (.sub (.sub (.mul (.var 3) (.var 3)) (.var 1)) (.var 2))) (.sub (.sub (.mul (.mul (.var 0) (.var 3)) (.mul (.var 0) (.var 3))) (.mul (.mul (.var 0) (.var 0)) (.var 1))) (.mul (.mul (.var 0) (.var 0)) (.var 2))) (by kernel_rfl))
    · exact (show (((e * e) * e) * (((σ l) * ((σ p.1) - ((((σ l) * (σ l)) - (σ p.1)) - (σ q.1)))) - (σ p.2))) = (((e * (σ l)) * (((e * e) * (σ p.1)) - ((((e * (σ l)) * (e * (σ l))) - ((e * e) * (σ p.1))) - ((e * e) * (σ q.1))))) - (((e * e) * e) * (σ p.2))) from ring_id (fun vi_ => vget vi_ [e, σ p.1, σ p.2, σ q.1, σ l]) (.mul (.mul (.mul (.var 0) (.var 0)) (.var 0)) (.sub (.mul (.var 4) (.sub (.var 1) (.sub (.sub (.mul (.var 4) (.var 4)) (.var 1)) (.var 3)))) (.var 2))) (.sub (.mul (.mul (.var 0) (.var 4)) (.sub (.mul (.mul (.var 0) (.var 0)) (.var 1)) (.sub (.sub (.mul (.mul (.var 0) (.var 4)) (.mul (.var 0) (.var 4))) (.mul (.mul (.var 0) (.var 0)) (.var 1))) (.mul (.mul (.var 0) (.var 0)) (.var 3))))) (.mul (.mul (.mul (.var 0) (.var 0)) (.var 0)) (.var 2))) (by kernel_rfl))
/-- The turn, as a map of the curve's group. -/
def turnG {σ : α → α} {e : α} (h : Turn B σ e) (p : Gp B) : Gp B := ⟨turnm σ e p.1, turn_on h p.2⟩
theorem turnG_add {σ : α → α} {e : α} (h : Turn B σ e) (p q : Gp B) : turnG h (p + q) = turnG h p + turnG h q := Gp.ext (turn_add h p.2 q.2)
theorem turnG_zero {σ : α → α} {e : α} (h : Turn B σ e) : turnG h (0 : Gp B) = 0 := Gp.ext (turn_zero h)
theorem turnG_nmul {σ : α → α} {e : α} (h : Turn B σ e) (p : Gp B) : ∀ n, turnG h (nmul n p) = nmul n (turnG h p)
  | 0 => turnG_zero h
  | n + 1 => by rw [nmul, turnG_add, turnG_nmul h p n, nmul]
theorem turnG_neg {σ : α → α} {e : α} (h : Turn B σ e) (p : Gp B) : turnG h (-p) = -turnG h p := a_neg_eq (by rw [← turnG_add, a_neg, turnG_zero])
end
end Go.Ec
