/-
  Part 9 of the joined texts of the curves' laws: Three points on a line, and maps of the curve onto itself, over any field.
  Conditions: those that each theorem states.
-/
import Derived.Test.YtbchpfmfiokbgaaDoorQ3
import Derived.Test.YtbchpfmfiokbgaaDoorQ6
/- Three points on a line, and maps of the curve onto itself, over any field. -/
namespace Go.Ec
open Go.Cu
set_option linter.unusedVariables false
set_option linter.unusedSimpArgs false
set_option linter.unusedSectionVars false
open CR
section
variable {α : Type} [Fld α] [DecidableEq α] {B : α} [hG : Gd B]
theorem line_r {p q : α × α} (hp : Aff B p) (hq : Aff B q) (h : ¬ (p.1 = q.1 ∧ p.2 + q.2 = 0)) :
    ∃ l, Ln l p q ∧ cneg (cadd p q) = (l * l - p.1 - q.1, p.2 + l * (l * l - p.1 - q.1 - p.1)) := by
  have hl := slope_ok hp hq h
  refine ⟨slope p q, hl, ?_⟩
  have e : cadd p q = third (slope p q) p q := by unfold cadd; rw [if_neg hp.ne, if_neg hq.ne, if_neg h]
  rw [e]
  unfold cneg
  rw [if_neg (third_aff hp hl).ne]
  generalize slope p q = l
  exact Prod.ext rfl (show (0 - ((l * (p.1 - (((l * l) - p.1) - q.1))) - p.2)) = (p.2 + (l * ((((l * l) - p.1) - q.1) - p.1))) from ring_id (fun vi_ => vget vi_ [l, p.1, p.2, q.1]) (.sub .zero (.sub (.mul (.var 0) (.sub (.var 1) (.sub (.sub (.mul (.var 0) (.var 0)) (.var 1)) (.var 3)))) (.var 2))) (.add (.var 2) (.mul (.var 0) (.sub (.sub (.sub (.mul (.var 0) (.var 0)) (.var 1)) (.var 3)) (.var 1)))) (by kernel_rfl))
/-- The tangent. -/
theorem tan_r {p : α × α} (hp : Aff B p) (hy : p.2 + p.2 ≠ 0) (r : α × α) (hr : r = cneg (cadd p p)) :
    ((p.2 + p.2) * (r.2 - p.2) = (p.1 * p.1 + p.1 * p.1 + p.1 * p.1) * (r.1 - p.1)) ∧
    (r.1 = p.1 → r = p ∧ (let s := p.1 * p.1 * (p.1 * p.1); let u := p.1 * (p.2 * p.2); let n := s + s + s; let v := u + u + u; n + n + n = (v + v) + (v + v))) := by
  obtain ⟨l, hl, he⟩ := line_r hp hp (fun h => hy h.2)
  have hT := hl.tan
  have hT : p.1 * p.1 + p.1 * p.1 + p.1 * p.1 = l * (p.2 + p.2 + l * (p.1 - p.1)) := hT
  rw [he] at hr
  subst hr
  obtain ⟨x, y⟩ := p
  have hT : x * x + x * x + x * x = l * (y + y + l * (x - x)) := hT
  refine ⟨?_, fun hx => ?_⟩
  · show (y + y) * (y + l * (l * l - x - x - x) - y) = (x * x + x * x + x * x) * (l * l - x - x - x)
    exact (eq_of_sub (Eq.trans (show (((y + y) * ((y + (l * ((((l * l) - x) - x) - x))) - y)) - ((((x * x) + (x * x)) + (x * x)) * ((((l * l) - x) - x) - x))) = ((-((((l * l) - x) - x) - x)) * ((((x * x) + (x * x)) + (x * x)) - (l * ((y + y) + (l * (x - x)))))) from ring_id (fun vi_ => vget vi_ [x, y, l]) (.sub (.mul (.add (.var 1) (.var 1)) (.sub (.add (.var 1) (.mul (.var 2) (.sub (.sub (.sub (.mul (.var 2) (.var 2)) (.var 0)) (.var 0)) (.var 0)))) (.var 1))) (.mul (.add (.add (.mul (.var 0) (.var 0)) (.mul (.var 0) (.var 0))) (.mul (.var 0) (.var 0))) (.sub (.sub (.sub (.mul (.var 2) (.var 2)) (.var 0)) (.var 0)) (.var 0)))) (.mul (.neg (.sub (.sub (.sub (.mul (.var 2) (.var 2)) (.var 0)) (.var 0)) (.var 0))) (.sub (.add (.add (.mul (.var 0) (.var 0)) (.mul (.var 0) (.var 0))) (.mul (.var 0) (.var 0))) (.mul (.var 2) (.add (.add (.var 1) (.var 1)) (.mul (.var 2) (.sub (.var 0) (.var 0))))))) (by kernel_rfl)) (lz hT)))
  · have hx : l * l - x - x = x := hx
    refine ⟨Prod.ext hx ?_, ?_⟩
    · show y + l * (l * l - x - x - x) = y
      exact (eq_of_sub (Eq.trans (show ((y + (l * ((((l * l) - x) - x) - x))) - y) = (l * ((((l * l) - x) - x) - x)) from ring_id (fun vi_ => vget vi_ [x, y, l]) (.sub (.add (.var 1) (.mul (.var 2) (.sub (.sub (.sub (.mul (.var 2) (.var 2)) (.var 0)) (.var 0)) (.var 0)))) (.var 1)) (.mul (.var 2) (.sub (.sub (.sub (.mul (.var 2) (.var 2)) (.var 0)) (.var 0)) (.var 0))) (by kernel_rfl)) (lz hx)))
    · show x * x * (x * x) + x * x * (x * x) + x * x * (x * x) + (x * x * (x * x) + x * x * (x * x) + x * x * (x * x)) + (x * x * (x * x) + x * x * (x * x) + x * x * (x * x)) = x * (y * y) + x * (y * y) + x * (y * y) + (x * (y * y) + x * (y * y) + x * (y * y)) + (x * (y * y) + x * (y * y) + x * (y * y) + (x * (y * y) + x * (y * y) + x * (y * y)))
      exact (eq_of_sub (Eq.trans (show (((((((x * x) * (x * x)) + ((x * x) * (x * x))) + ((x * x) * (x * x))) + ((((x * x) * (x * x)) + ((x * x) * (x * x))) + ((x * x) * (x * x)))) + ((((x * x) * (x * x)) + ((x * x) * (x * x))) + ((x * x) * (x * x)))) - (((((x * (y * y)) + (x * (y * y))) + (x * (y * y))) + (((x * (y * y)) + (x * (y * y))) + (x * (y * y)))) + ((((x * (y * y)) + (x * (y * y))) + (x * (y * y))) + (((x * (y * y)) + (x * (y * y))) + (x * (y * y)))))) = ((((((x * x) + (x * x)) + (x * x)) + (l * (y + y))) * ((((x * x) + (x * x)) + (x * x)) - (l * ((y + y) + (l * (x - x)))))) + (((y + y) * (y + y)) * ((((l * l) - x) - x) - x))) from ring_id (fun vi_ => vget vi_ [x, y, l]) (.sub (.add (.add (.add (.add (.mul (.mul (.var 0) (.var 0)) (.mul (.var 0) (.var 0))) (.mul (.mul (.var 0) (.var 0)) (.mul (.var 0) (.var 0)))) (.mul (.mul (.var 0) (.var 0)) (.mul (.var 0) (.var 0)))) (.add (.add (.mul (.mul (.var 0) (.var 0)) (.mul (.var 0) (.var 0))) (.mul (.mul (.var 0) (.var 0)) (.mul (.var 0) (.var 0)))) (.mul (.mul (.var 0) (.var 0)) (.mul (.var 0) (.var 0))))) (.add (.add (.mul (.mul (.var 0) (.var 0)) (.mul (.var 0) (.var 0))) (.mul (.mul (.var 0) (.var 0)) (.mul (.var 0) (.var 0)))) (.mul (.mul (.var 0) (.var 0)) (.mul (.var 0) (.var 0))))) (.add (.add (.add (.add (.mul (.var 0) (.mul (.var 1) (.var 1))) (.mul (.var 0) (.mul (.var 1) (.var 1)))) (.mul (.var 0) (.mul (.var 1) (.var 1)))) (.add (.add (.mul (.var 0) (.mul (.var 1) (.var 1))) (.mul (.var 0) (.mul (.var 1) (.var 1)))) (.mul (.var 0) (.mul (.var 1) (.var 1))))) (.add (.add (.add (.mul (.var 0) (.mul (.var 1) (.var 1))) (.mul (.var 0) (.mul (.var 1) (.var 1)))) (.mul (.var 0) (.mul (.var 1) (.var 1)))) (.add (.add (.mul (.var 0) (.mul (.var 1) (.var 1))) (.mul (.var 0) (.mul (.var 1) (.var 1)))) (.mul (.var 0) (.mul (.var 1) (.var 1))))))) (.add (.mul (.add (.add (.add (.mul (.var 0) (.var 0)) (.mul (.var 0) (.var 0))) (.mul (.var 0) (.var 0))) (.mul (.var 2) (.add (.var 1) (.var 1)))) (.sub (.add (.add (.mul (.var 0) (.var 0)) (.mul (.var 0) (.var 0))) (.mul (.var 0) (.var 0))) (.mul (.var 2) (.add (.add (.var 1) (.var 1)) (.mul (.var 2) (.sub (.var 0) (.var 0))))))) (.mul (.mul (.add (.var 1) (.var 1)) (.add (.var 1) (.var 1))) (.sub (.sub (.sub (.mul (.var 2) (.var 2)) (.var 0)) (.var 0)) (.var 0)))) (by kernel_rfl)) (lz2 (lz hT) (lz hx))))
/-- The chord. -/
theorem chord_r {p q : α × α} (hp : Aff B p) (hq : Aff B q) (hx : p.1 ≠ q.1) (r : α × α) (hr : r = cneg (cadd p q)) :
    ((q.1 - p.1) * (r.2 - p.2) = (r.1 - p.1) * (q.2 - p.2)) ∧ (p.1 + q.1 + r.1) * ((q.1 - p.1) * (q.1 - p.1)) = (q.2 - p.2) * (q.2 - p.2) := by
  obtain ⟨l, hl, he⟩ := line_r hp hq (fun h => hx h.1)
  rw [he] at hr
  subst hr
  have ha := hl.at_
  obtain ⟨x1, y1⟩ := p
  obtain ⟨x2, y2⟩ := q
  have ha : y2 = y1 + l * (x2 - x1) := ha
  subst ha
  refine ⟨?_, ?_⟩
  · exact (show ((x2 - x1) * ((y1 + (l * ((((l * l) - x1) - x2) - x1))) - y1)) = (((((l * l) - x1) - x2) - x1) * ((y1 + (l * (x2 - x1))) - y1)) from ring_id (fun vi_ => vget vi_ [x1, y1, x2, l]) (.mul (.sub (.var 2) (.var 0)) (.sub (.add (.var 1) (.mul (.var 3) (.sub (.sub (.sub (.mul (.var 3) (.var 3)) (.var 0)) (.var 2)) (.var 0)))) (.var 1))) (.mul (.sub (.sub (.sub (.mul (.var 3) (.var 3)) (.var 0)) (.var 2)) (.var 0)) (.sub (.add (.var 1) (.mul (.var 3) (.sub (.var 2) (.var 0)))) (.var 1))) (by kernel_rfl))
  · exact (show (((x1 + x2) + (((l * l) - x1) - x2)) * ((x2 - x1) * (x2 - x1))) = (((y1 + (l * (x2 - x1))) - y1) * ((y1 + (l * (x2 - x1))) - y1)) from ring_id (fun vi_ => vget vi_ [x1, y1, x2, l]) (.mul (.add (.add (.var 0) (.var 2)) (.sub (.sub (.mul (.var 3) (.var 3)) (.var 0)) (.var 2))) (.mul (.sub (.var 2) (.var 0)) (.sub (.var 2) (.var 0)))) (.mul (.sub (.add (.var 1) (.mul (.var 3) (.sub (.var 2) (.var 0)))) (.var 1)) (.sub (.add (.var 1) (.mul (.var 3) (.sub (.var 2) (.var 0)))) (.var 1))) (by kernel_rfl))
/-- Two points of the curve over one number are the same, or each other's negatives. -/
theorem same_x {p q : α × α} (hp : Aff B p) (hq : Aff B q) (hx : p.1 = q.1) : p = q ∨ p = cneg q := by
  by_cases hs : p.2 + q.2 = 0
  · right
    unfold cneg
    rw [if_neg hq.ne]
    exact Prod.ext hx (eq_of_sub (Eq.trans (show (p.2 - (0 - q.2)) = (1 * ((p.2 + q.2) - 0)) from ring_id (fun vi_ => vget vi_ [p.2, q.2]) (.sub (.var 0) (.sub .zero (.var 1))) (.mul .one (.sub (.add (.var 0) (.var 1)) .zero)) (by kernel_rfl)) (lz hs)))
  · left
    refine Prod.ext hx ?_
    apply Classical.byContradiction
    intro hne
    refine Fld.mul_ne (sub_ne hne) hs ?_
    have H1 : p.2 * p.2 = p.1 * p.1 * p.1 + B := hp
    have H2 : q.2 * q.2 = q.1 * q.1 * q.1 + B := hq
    rw [← hx] at H2
    exact (eq_of_sub (Eq.trans (show (((q.2 - p.2) * (p.2 + q.2)) - 0) = ((1 * ((q.2 * q.2) - (((p.1 * p.1) * p.1) + B))) + ((-1) * ((p.2 * p.2) - (((p.1 * p.1) * p.1) + B)))) from ring_id (fun vi_ => vget vi_ [p.2, q.2, p.1, B]) (.sub (.mul (.sub (.var 1) (.var 0)) (.add (.var 0) (.var 1))) .zero) (.add (.mul .one (.sub (.mul (.var 1) (.var 1)) (.add (.mul (.mul (.var 2) (.var 2)) (.var 2)) (.var 3)))) (.mul (.neg .one) (.sub (.mul (.var 0) (.var 0)) (.add (.mul (.mul (.var 2) (.var 2)) (.var 2)) (.var 3))))) (by kernel_rfl)) (lz2 (lz H2) (lz H1))))
/-- A line's slope is what the points say. -/
theorem Ln.unique {l l' : α} {p q : α × α} (hp : Aff B p) (hq : Aff B q) (h : ¬ (p.1 = q.1 ∧ p.2 + q.2 = 0)) (h1 : Ln l p q) (h2 : Ln l' p q) : l = l' := by
  by_cases hx : p.1 = q.1
  · have hy : p.2 + p.2 ≠ 0 := by
      intro e
      rcases same_x hp hq hx with e2 | e2
      · exact h ⟨hx, by rw [← e2]; exact e⟩
      · refine h ⟨hx, ?_⟩
        rw [e2]
        unfold cneg
        rw [if_neg hq.ne]
        exact (show ((0 - q.2) + q.2) = 0 from ring_id (fun vi_ => vget vi_ [q.2]) (.add (.sub .zero (.var 0)) (.var 0)) .zero (by kernel_rfl))
    have t1 := h1.tan
    have t2 := h2.tan
    refine Fld.cancel hy ?_
    rw [← hx] at t1 t2
    exact (eq_of_sub (Eq.trans (show (((p.2 + p.2) * l) - ((p.2 + p.2) * l')) = (((-1) * ((((p.1 * p.1) + (p.1 * p.1)) + (p.1 * p.1)) - (l * ((p.2 + p.2) + (l * (p.1 - p.1)))))) + (1 * ((((p.1 * p.1) + (p.1 * p.1)) + (p.1 * p.1)) - (l' * ((p.2 + p.2) + (l' * (p.1 - p.1))))))) from ring_id (fun vi_ => vget vi_ [p.2, p.1, l, l']) (.sub (.mul (.add (.var 0) (.var 0)) (.var 2)) (.mul (.add (.var 0) (.var 0)) (.var 3))) (.add (.mul (.neg .one) (.sub (.add (.add (.mul (.var 1) (.var 1)) (.mul (.var 1) (.var 1))) (.mul (.var 1) (.var 1))) (.mul (.var 2) (.add (.add (.var 0) (.var 0)) (.mul (.var 2) (.sub (.var 1) (.var 1))))))) (.mul .one (.sub (.add (.add (.mul (.var 1) (.var 1)) (.mul (.var 1) (.var 1))) (.mul (.var 1) (.var 1))) (.mul (.var 3) (.add (.add (.var 0) (.var 0)) (.mul (.var 3) (.sub (.var 1) (.var 1)))))))) (by kernel_rfl)) (lz2 (lz t1) (lz t2))))
  · refine Fld.cancel (sub_ne hx) ?_
    have a1 := h1.at_
    have a2 := h2.at_
    exact (eq_of_sub (Eq.trans (show (((q.1 - p.1) * l) - ((q.1 - p.1) * l')) = (((-1) * (q.2 - (p.2 + (l * (q.1 - p.1))))) + (1 * (q.2 - (p.2 + (l' * (q.1 - p.1)))))) from ring_id (fun vi_ => vget vi_ [p.1, p.2, q.1, q.2, l, l']) (.sub (.mul (.sub (.var 2) (.var 0)) (.var 4)) (.mul (.sub (.var 2) (.var 0)) (.var 5))) (.add (.mul (.neg .one) (.sub (.var 3) (.add (.var 1) (.mul (.var 4) (.sub (.var 2) (.var 0)))))) (.mul .one (.sub (.var 3) (.add (.var 1) (.mul (.var 5) (.sub (.var 2) (.var 0))))))) (by kernel_rfl)) (lz2 (lz a1) (lz a2))))
theorem cadd_line {l : α} {p q : α × α} (hp : Aff B p) (hq : Aff B q) (h : ¬ (p.1 = q.1 ∧ p.2 + q.2 = 0)) (h1 : Ln l p q) : cadd p q = third l p q := by
  unfold cadd
  rw [if_neg hp.ne, if_neg hq.ne, if_neg h, Ln.unique hp hq h (slope_ok hp hq h) h1]

/-- A map of the field onto itself that keeps sums and products. -/
structure Sig (σ : α → α) : Prop where
  add : ∀ a b, σ (a + b) = σ a + σ b
  mul : ∀ a b, σ (a * b) = σ a * σ b
  inj : ∀ a b, σ a = σ b → a = b
theorem Sig.zero {σ : α → α} (h : Sig σ) : σ 0 = 0 := by
  have h1 : σ 0 + σ 0 = σ 0 + 0 := by rw [← h.add, zero_add, add_zero']
  exact add_left_cancel' h1
theorem Sig.neg {σ : α → α} (h : Sig σ) (a : α) : σ (-a) = -σ a := by
  have h1 : σ a + σ (-a) = σ a + -σ a := by rw [← h.add, add_neg, h.zero, add_neg]
  exact add_left_cancel' h1
theorem Sig.sub {σ : α → α} (h : Sig σ) (a b : α) : σ (a - b) = σ a - σ b := by rw [sub_eq, h.add, h.neg, ← sub_eq]
/-- The curve's turn by e: x goes to e^2 σ(x), y to e^3 σ(y). -/
def turnm (σ : α → α) (e : α) (p : α × α) : α × α := (e * e * σ p.1, e * e * e * σ p.2)
structure Turn (B : α) (σ : α → α) (e : α) : Prop where
  sig : Sig σ
  ne : e ≠ 0
  keep : e * e * e * (e * e * e) * σ B = B
theorem turn_zero {σ : α → α} {e : α} (h : Turn B σ e) : turnm σ e (0, 0) = (0, 0) := by
  unfold turnm
  rw [h.sig.zero, mul_zero', mul_zero']
theorem turn_aff {σ : α → α} {e : α} (h : Turn B σ e) {p : α × α} (hp : Aff B p) : Aff B (turnm σ e p) := by
  have H1 := congrArg σ hp
  rw [h.sig.mul, h.sig.add, h.sig.mul, h.sig.mul] at H1
  have hk := h.keep
  generalize hX : σ p.1 = X at *
  generalize hY : σ p.2 = Y at *
  generalize hb : σ B = b at *
  show e * e * e * σ p.2 * (e * e * e * σ p.2) = e * e * σ p.1 * (e * e * σ p.1) * (e * e * σ p.1) + B
  rw [hX, hY]
  exact (eq_of_sub (Eq.trans (show (((((e * e) * e) * Y) * (((e * e) * e) * Y)) - (((((e * e) * X) * ((e * e) * X)) * ((e * e) * X)) + B)) = (((((e * e) * e) * ((e * e) * e)) * ((Y * Y) - (((X * X) * X) + b))) + (1 * (((((e * e) * e) * ((e * e) * e)) * b) - B))) from ring_id (fun vi_ => vget vi_ [e, X, Y, b, B]) (.sub (.mul (.mul (.mul (.mul (.var 0) (.var 0)) (.var 0)) (.var 2)) (.mul (.mul (.mul (.var 0) (.var 0)) (.var 0)) (.var 2))) (.add (.mul (.mul (.mul (.mul (.var 0) (.var 0)) (.var 1)) (.mul (.mul (.var 0) (.var 0)) (.var 1))) (.mul (.mul (.var 0) (.var 0)) (.var 1))) (.var 4))) (.add (.mul (.mul (.mul (.mul (.var 0) (.var 0)) (.var 0)) (.mul (.mul (.var 0) (.var 0)) (.var 0))) (.sub (.mul (.var 2) (.var 2)) (.add (.mul (.mul (.var 1) (.var 1)) (.var 1)) (.var 3)))) (.mul .one (.sub (.mul (.mul (.mul (.mul (.var 0) (.var 0)) (.var 0)) (.mul (.mul (.var 0) (.var 0)) (.var 0))) (.var 3)) (.var 4)))) (by kernel_rfl)) (lz2 (lz H1) (lz hk))))
theorem turn_on {σ : α → α} {e : α} (h : Turn B σ e) {p : α × α} (hp : On B p) : On B (turnm σ e p) := by
  rcases hp with rfl | hp
  · rw [turn_zero h]; exact .inl rfl
  · exact .inr (turn_aff h hp)
theorem turn_add {σ : α → α} {e : α} (h : Turn B σ e) {p q : α × α} (hp : On B p) (hq : On B q) : turnm σ e (cadd p q) = cadd (turnm σ e p) (turnm σ e q) := by
  rcases hp with rfl | hp
  · rw [turn_zero h, zero_cadd, zero_cadd]
  rcases hq with rfl | hq
  · rw [turn_zero h, cadd_zero, cadd_zero]
  have hp' := turn_aff h hp
  have hq' := turn_aff h hq
  have he3 : e * e * e ≠ 0 := Fld.mul_ne (Fld.mul_ne h.ne h.ne) h.ne
  by_cases hc : p.1 = q.1 ∧ p.2 + q.2 = 0
  · have hc' : (turnm σ e p).1 = (turnm σ e q).1 ∧ (turnm σ e p).2 + (turnm σ e q).2 = 0 := by
      refine ⟨by unfold turnm; rw [hc.1], ?_⟩
      show e * e * e * σ p.2 + e * e * e * σ q.2 = 0
      rw [← mul_add, ← h.sig.add, hc.2, h.sig.zero, mul_zero']
    have e1 : cadd p q = (0, 0) := by unfold cadd; rw [if_neg hp.ne, if_neg hq.ne, if_pos hc]
    have e2 : cadd (turnm σ e p) (turnm σ e q) = (0, 0) := by unfold cadd; rw [if_neg hp'.ne, if_neg hq'.ne, if_pos hc']
    rw [e1, e2, turn_zero h]
  · have hc' : ¬ ((turnm σ e p).1 = (turnm σ e q).1 ∧ (turnm σ e p).2 + (turnm σ e q).2 = 0) := by
      rintro ⟨h1, h2⟩
      have h1 : e * e * σ p.1 = e * e * σ q.1 := h1
      have h2 : e * e * e * σ p.2 + e * e * e * σ q.2 = 0 := h2
      rw [← mul_add, ← h.sig.add] at h2
      refine hc ⟨h.sig.inj _ _ (Fld.cancel (Fld.mul_ne h.ne h.ne) h1), h.sig.inj _ _ (Fld.cancel he3 ?_)⟩
      rw [h2, h.sig.zero, mul_zero']
    have hl := slope_ok hp hq hc
    have e1 : cadd p q = third (slope p q) p q := cadd_line hp hq hc hl
    generalize slope p q = l at *
    have ha := congrArg σ hl.at_
    have ht := congrArg σ hl.tan
    simp only [h.sig.mul, h.sig.add, h.sig.sub] at ha ht
    have hl' : Ln (e * σ l) (turnm σ e p) (turnm σ e q) := by
      refine ⟨?_, ?_⟩
      · show e * e * e * σ q.2 = e * e * e * σ p.2 + e * σ l * (e * e * σ q.1 - e * e * σ p.1)
        exact (eq_of_sub (Eq.trans (show ((((e * e) * e) * (σ q.2)) - ((((e * e) * e) * (σ p.2)) + ((e * (σ l)) * (((e * e) * (σ q.1)) - ((e * e) * (σ p.1)))))) = (((e * e) * e) * ((σ q.2) - ((σ p.2) + ((σ l) * ((σ q.1) - (σ p.1)))))) from ring_id (fun vi_ => vget vi_ [e, σ p.1, σ p.2, σ q.1, σ q.2, σ l]) (.sub (.mul (.mul (.mul (.var 0) (.var 0)) (.var 0)) (.var 4)) (.add (.mul (.mul (.mul (.var 0) (.var 0)) (.var 0)) (.var 2)) (.mul (.mul (.var 0) (.var 5)) (.sub (.mul (.mul (.var 0) (.var 0)) (.var 3)) (.mul (.mul (.var 0) (.var 0)) (.var 1)))))) (.mul (.mul (.mul (.var 0) (.var 0)) (.var 0)) (.sub (.var 4) (.add (.var 2) (.mul (.var 5) (.sub (.var 3) (.var 1)))))) (by kernel_rfl)) (lz ha)))
      · show e * e * σ p.1 * (e * e * σ p.1) + e * e * σ p.1 * (e * e * σ q.1) + e * e * σ q.1 * (e * e * σ q.1) = e * σ l * (e * e * e * σ p.2 + e * e * e * σ p.2 + e * σ l * (e * e * σ q.1 - e * e * σ p.1))
        exact (eq_of_sub (Eq.trans (show ((((((e * e) * (σ p.1)) * ((e * e) * (σ p.1))) + (((e * e) * (σ p.1)) * ((e * e) * (σ q.1)))) + (((e * e) * (σ q.1)) * ((e * e) * (σ q.1)))) - ((e * (σ l)) * (((((e * e) * e) * (σ p.2)) + (((e * e) * e) * (σ p.2))) + ((e * (σ l)) * (((e * e) * (σ q.1)) - ((e * e) * (σ p.1))))))) = (((e * e) * (e * e)) * (((((σ p.1) * (σ p.1)) + ((σ p.1) * (σ q.1))) + ((σ q.1) * (σ q.1))) - ((σ l) * (((σ p.2) + (σ p.2)) + ((σ l) * ((σ q.1) - (σ p.1))))))) from ring_id (fun vi_ => vget vi_ [e, σ p.1, σ p.2, σ q.1, σ l]) (.sub (.add (.add (.mul (.mul (.mul (.var 0) (.var 0)) (.var 1)) (.mul (.mul (.var 0) (.var 0)) (.var 1))) (.mul (.mul (.mul (.var 0) (.var 0)) (.var 1)) (.mul (.mul (.var 0) (.var 0)) (.var 3)))) (.mul (.mul (.mul (.var 0) (.var 0)) (.var 3)) (.mul (.mul (.var 0) (.var 0)) (.var 3)))) (.mul (.mul (.var 0) (.var 4)) (.add (.add (.mul (.mul (.mul (.var 0) (.var 0)) (.var 0)) (.var 2)) (.mul (.mul (.mul (.var 0) (.var 0)) (.var 0)) (.var 2))) (.mul (.mul (.var 0) (.var 4)) (.sub (.mul (.mul (.var 0) (.var 0)) (.var 3)) (.mul (.mul (.var 0) (.var 0)) (.var 1))))))) (.mul (.mul (.mul (.var 0) (.var 0)) (.mul (.var 0) (.var 0))) (.sub (.add (.add (.mul (.var 1) (.var 1)) (.mul (.var 1) (.var 3))) (.mul (.var 3) (.var 3))) (.mul (.var 4) (.add (.add (.var 2) (.var 2)) (.mul (.var 4) (.sub (.var 3) (.var 1))))))) (by kernel_rfl)) (lz ht)))
    rw [e1, cadd_line hp' hq' hc' hl']
    unfold turnm third
    simp only [h.sig.mul, h.sig.add, h.sig.sub]
    refine Prod.ext ?_ ?_
    · exact (show ((e * e) * ((((σ l) * (σ l)) - (σ p.1)) - (σ q.1))) = ((((e * (σ l)) * (e * (σ l))) - ((e * e) * (σ p.1))) - ((e * e) * (σ q.1))) from ring_id (fun vi_ => vget vi_ [e, σ p.1, σ q.1, σ l]) (.mul (.mul (.var 0) (.var 0)) (.sub (.sub (.mul (.var 3) (.var 3)) (.var 1)) (.var 2))) (.sub (.sub (.mul (.mul (.var 0) (.var 3)) (.mul (.var 0) (.var 3))) (.mul (.mul (.var 0) (.var 0)) (.var 1))) (.mul (.mul (.var 0) (.var 0)) (.var 2))) (by kernel_rfl))
    · exact (show (((e * e) * e) * (((σ l) * ((σ p.1) - ((((σ l) * (σ l)) - (σ p.1)) - (σ q.1)))) - (σ p.2))) = (((e * (σ l)) * (((e * e) * (σ p.1)) - ((((e * (σ l)) * (e * (σ l))) - ((e * e) * (σ p.1))) - ((e * e) * (σ q.1))))) - (((e * e) * e) * (σ p.2))) from ring_id (fun vi_ => vget vi_ [e, σ p.1, σ p.2, σ q.1, σ l]) (.mul (.mul (.mul (.var 0) (.var 0)) (.var 0)) (.sub (.mul (.var 4) (.sub (.var 1) (.sub (.sub (.mul (.var 4) (.var 4)) (.var 1)) (.var 3)))) (.var 2))) (.sub (.mul (.mul (.var 0) (.var 4)) (.sub (.mul (.mul (.var 0) (.var 0)) (.var 1)) (.sub (.sub (.mul (.mul (.var 0) (.var 4)) (.mul (.var 0) (.var 4))) (.mul (.mul (.var 0) (.var 0)) (.var 1))) (.mul (.mul (.var 0) (.var 0)) (.var 3))))) (.mul (.mul (.mul (.var 0) (.var 0)) (.var 0)) (.var 2))) (by kernel_rfl))
/-- The turn, as a map of the curve's group. -/
def turnG {σ : α → α} {e : α} (h : Turn B σ e) (p : Gp B) : Gp B := ⟨turnm σ e p.1, turn_on h p.2⟩
theorem turnG_add {σ : α → α} {e : α} (h : Turn B σ e) (p q : Gp B) : turnG h (p + q) = turnG h p + turnG h q := Gp.ext (turn_add h p.2 q.2)
theorem turnG_zero {σ : α → α} {e : α} (h : Turn B σ e) : turnG h (0 : Gp B) = 0 := Gp.ext (turn_zero h)
theorem turnG_nmul {σ : α → α} {e : α} (h : Turn B σ e) (p : Gp B) : ∀ n, turnG h (nmul n p) = nmul n (turnG h p)
  | 0 => turnG_zero h
  | n + 1 => by rw [nmul, turnG_add, turnG_nmul h p n, nmul]
theorem turnG_neg {σ : α → α} {e : α} (h : Turn B σ e) (p : Gp B) : turnG h (-p) = -turnG h p := a_neg_eq (by rw [← turnG_add, a_neg, turnG_zero])
end
end Go.Ec

/- The first group's laws: which points lie on a line, and points that are not of the group: the walks. Conditions: of the points, as each says. -/
namespace Go.Cu
open Go Go.Vm Go.RowKit Go.Proofs 
attribute [local irreducible] W OpsW Det Fresh New Writes Vm.Pure Makes Changes ExternTo BuildTo ZeroTo FieldTo IndexTo BinTo SliceTo Vm.Enters
set_option linter.unusedVariables false
set_option linter.unusedSimpArgs false
variable {T : Nat → TypeId × Nat × Nat}

theorem nf {p : Prop} [Decidable p] (h : ¬ p) : decide p = false := decide_eq_false h
theorem ny {p : Prop} [Decidable p] (h : ¬ p) : (!decide p) = true := by rw [decide_eq_false h]; rfl

/-- What stands under the root at k. -/
def wcube (k : Nat) : Fq := Zp.of k * Zp.of k * Zp.of k + Zp.of 4
/-- The first of f numbers from k on that has a point of the curve. -/
def wfrom : Nat → Nat → Pt
  | 0, _ => (0, 0)
  | f + 1, k => if (sqrtF (wcube k)).2 = true ∧ (sqrtF (wcube k)).1 ≠ 0 then (Zp.of k, (sqrtF (wcube k)).1) else wfrom f (k + 1)
def wild (n : Nat) : Pt := wfrom 200 n
theorem wild_hit {n k : Nat} (hk : k < n + 200) (hw : wild n = wfrom (n + 200 - k) k) (h1 : (sqrtF (wcube k)).2 = true) (h2 : (!decide ((sqrtF (wcube k)).1 = 0)) = true) : (Zp.of k, (sqrtF (wcube k)).1) = wild n := by
  rw [hw, show n + 200 - k = (n + 200 - (k + 1)) + 1 by omega, wfrom, if_pos ⟨h1, by simpa using h2⟩]
theorem wild_no {n k : Nat} (hk : k < n + 200) (hw : wild n = wfrom (n + 200 - k) k) (h1 : (sqrtF (wcube k)).2 = false) : wild n = wfrom (n + 200 - (k + 1)) (k + 1) := by
  rw [hw, show n + 200 - k = (n + 200 - (k + 1)) + 1 by omega, wfrom, if_neg (by rw [h1]; simp)]
theorem wild_zero {n k : Nat} (hk : k < n + 200) (hw : wild n = wfrom (n + 200 - k) k) (h2 : (!decide ((sqrtF (wcube k)).1 = 0)) = false) : wild n = wfrom (n + 200 - (k + 1)) (k + 1) := by
  rw [hw, show n + 200 - k = (n + 200 - (k + 1)) + 1 by omega, wfrom, if_neg (by
    have h2 : (sqrtF (wcube k)).1 = 0 := by simpa using h2
    rw [h2]; simp)]
theorem wild_end {n k : Nat} (hk : ¬ k < n + 200) (hk2 : k ≤ n + 200) (hw : wild n = wfrom (n + 200 - k) k) : (0, 0) = wild n := by
  rw [hw, show n + 200 - k = 0 by omega, wfrom]

theorem en68 : Vm.Enters Tryd.prog 68 := Vm.Enters.of fun _ _ => by kernel_rfl
theorem en69 : Vm.Enters Tryd.prog 69 := Vm.Enters.of fun _ _ => by kernel_rfl
theorem u39 : Tryd.prog.underlying 39 = some (.int .u16) := by kernel_rfl
set_option maxHeartbeats 2000000 in
theorem sidesA_ok {p q r : Pt} (h1 : p = (0, 0)) (h2 : q = pneg r) {w : World} (hG : Blocks (GH T) w)  : Vm.Pure Tryd.prog 29 #[encP p, encP q, encP r] w (.bool true) := by
  refine pure_of_W (n := 140) (args := [encP p, encP q, encP r]) Tryd.func29 rfl Tryd.ntmps29 (Nat.le_of_ble_eq_true rfl) hG ?_
  refine sStart ?_
  refine sSeq ?_
  refine W.region ?_
  refine OpsW.fresh (fr_box rfl rfl) rfl fun b3 => ?_
  refine OpsW.fresh (fr_box rfl rfl) rfl fun b4 => ?_
  refine OpsW.fresh (fr_box rfl rfl) rfl fun b5 => ?_
  refine OpsW.det (det_assign rfl) rfl ?_
  refine sNext ?_
  refine W.keep (F' := [(5, _), (4, _), (3, _)]) ⟨rfl, rfl, rfl, trivial⟩ ?_
  refine sSeq ?_
  refine W.region ?_
  refine OpsW.det (det_zero bz30) rfl ?_
  refine OpsW.fresh (fr_alloc z30) rfl fun b7 => ?_
  refine OpsW.store sz30 rfl rfl rfl rfl rfl (Upd.here) rfl ?_
  refine sNext ?_
  refine W.keep (F' := [(7, _), (5, _), (4, _), (3, _)]) ⟨rfl, rfl, rfl, rfl, trivial⟩ ?_
  refine sSeq ?_
  refine sSeq ?_
  refine W.region ?_
  refine OpsW.det (det_loadA ty30 rfl (List.Mem.tail _ (List.Mem.tail _ (List.Mem.tail _ (List.Mem.head _)))) rfl) rfl ?_
  refine OpsW.det (det_loadA ty30 rfl (List.Mem.head _) rfl) rfl ?_
  refine OpsW.det (Det.to (det_eql30 rfl rfl) (congrArg Value.bool (yb h1))) rfl ?_
  refine OpsW.det (det_move rfl) rfl ?_
  refine OpsW.guard_no rfl rfl rfl ?_
  refine OpsW.guard_no rfl rfl rfl ?_
  refine OpsW.guard_no rfl rfl rfl ?_
  refine OpsW.det (det_pick rfl rfl) rfl ?_
  refine OpsW.det (det_move rfl) rfl ?_
  refine OpsW.guard_no rfl rfl rfl ?_
  refine OpsW.guard_no rfl rfl rfl ?_
  refine OpsW.guard_no rfl rfl rfl ?_
  refine OpsW.det (det_pick rfl rfl) rfl ?_
  refine sNext ?_
  refine W.keep (F' := [(22, _), (7, _), (5, _), (4, _), (3, _)]) ⟨rfl, rfl, rfl, rfl, rfl, trivial⟩ ?_
  refine W.cond_true rfl ?_
  refine sSeq ?_
  refine W.draw mixed 32 [[], [], [0, 1], [0, 1, 2], [0, 1, 2, 3], [0, 1, 2, 3], [0, 1, 2, 3, 5], [0, 1, 2, 3, 4, 5, 6], [0, 1, 2, 3, 4, 5, 6, 7], [0, 1, 2, 3, 4, 5, 6, 7, 8], [0, 1, 2, 3, 4, 5, 6, 7, 8, 9], [0, 1, 2, 3, 4, 5, 6, 7, 8, 9], [0, 1, 2, 3, 4, 5, 6, 7, 8, 9, 10, 11], [0, 1, 2, 3, 4, 5, 6, 7, 8, 9, 10, 11, 12], [0, 1, 2, 3, 4, 5, 6, 7, 8, 9, 10, 11, 12, 13], [0, 1, 2, 3, 4, 5, 6, 7, 8, 9, 10, 11, 12, 13], [0, 1, 2, 3, 4, 5, 6, 7, 8, 9, 10, 11, 12, 13, 15], [0, 1, 2, 3, 4, 5, 6, 7, 8, 9, 10, 11, 12, 13, 14, 15, 16], [0, 1, 2, 3, 4, 5, 6, 7, 8, 9, 10, 11, 12, 13, 14, 15, 16, 17], [0, 1, 2, 3, 4, 5, 6, 7, 8, 9, 10, 11, 12, 13, 14, 15, 16, 17, 18], [0, 1, 2, 3, 4, 5, 6, 7, 8, 9, 10, 11, 12, 13, 14, 15, 16, 17, 18, 19], [0, 1, 2, 3, 4, 5, 6, 7, 8, 9, 10, 11, 12, 13, 14, 15, 16, 17, 18, 19, 20], [0, 1, 2, 3, 4, 5, 6, 7, 8, 9, 10, 11, 12, 13, 14, 15, 16, 17, 18, 19, 20], [0, 1, 2, 3, 4, 5, 6, 7, 8, 9, 10, 11, 12, 13, 14, 15, 16, 17, 18, 19, 20, 21, 22], [0, 1, 2, 3, 4, 5, 6, 7, 8, 9, 10, 11, 12, 13, 14, 15, 16, 17, 18, 19, 20, 21, 22, 23], [0, 1, 2, 3, 4, 5, 6, 7, 8, 9, 10, 11, 12, 13, 14, 15, 16, 17, 18, 19, 20, 21, 22, 23, 24], [0, 1, 2, 3, 4, 5, 6, 7, 8, 9, 10, 11, 12, 13, 14, 15, 16, 17, 18, 19, 20, 21, 22, 23, 24], [0, 1, 2, 3, 4, 5, 6, 7, 8, 9, 10, 11, 12, 13, 14, 15, 16, 17, 18, 19, 20, 21, 22, 23, 24, 26], [0, 1, 2, 3, 4, 5, 6, 7, 8, 9, 10, 11, 12, 13, 14, 15, 16, 17, 18, 19, 20, 21, 22, 23, 24, 25, 26, 27], [0, 1, 2, 3, 4, 5, 6, 7, 8, 9, 10, 11, 12, 13, 14, 15, 16, 17, 18, 19, 20, 21, 22, 23, 24, 25, 26, 27, 28], [0, 1, 2, 3, 4, 5, 6, 7, 8, 9, 10, 11, 12, 13, 14, 15, 16, 17, 18, 19, 20, 21, 22, 23, 24, 25, 26, 27, 28, 29], [0, 1, 2, 3, 4, 5, 6, 7, 8, 9, 10, 11, 12, 13, 14, 15, 16, 17, 18, 19, 20, 21, 22, 23, 24, 25, 26, 27, 28, 29, 30]] (cl_lt (by decide)) ?_
  refine HeadR.start (cl_lt (by decide)) ?_
  refine HeadR.det rfl (fun β hβ => (det_loadA ty30 rfl (List.Mem.tail _ (List.Mem.tail _ (List.Mem.tail _ (List.Mem.head _)))) rfl)) ?_
  refine HeadR.det rfl (fun β hβ => (det_loadA ty30 rfl (List.Mem.head _) rfl)) ?_
  refine HeadR.det rfl (fun β hβ => (Det.to (det_eql30 rfl rfl) (congrArg Value.bool (yb h1)))) ?_
  refine HeadR.det rfl (fun β hβ => (det_move rfl)) ?_
  refine HeadR.yes rfl rfl (fun _ _ => rfl) (fun β hβ => (det_loadA ty30 rfl (List.Mem.tail _ (List.Mem.tail _ (List.Mem.head _))) rfl)) ?_
  refine HeadR.yes rfl rfl (fun _ _ => rfl) (fun β hβ => (det_loadA ty30 rfl (List.Mem.tail _ (List.Mem.head _)) rfl)) ?_
  refine HeadR.yes rfl rfl (fun _ _ => rfl) (fun β hβ => (det_call en22 rfl (fun w hb ho => PNeg_ok ho.blocks))) ?_
  refine HeadR.yes rfl rfl (fun _ _ => rfl) (fun β hβ => (Det.to (det_eql30 rfl rfl) (congrArg Value.bool (yb h2)))) ?_
  refine HeadR.det rfl (fun β hβ => (det_pick rfl rfl)) ?_
  refine HeadR.det rfl (fun β hβ => (det_move rfl)) ?_
  refine HeadR.no rfl rfl (fun _ _ => rfl) ?_
  refine HeadR.no rfl rfl (fun _ _ => rfl) ?_
  refine HeadR.no rfl rfl (fun _ _ => rfl) ?_
  refine HeadR.no rfl rfl (fun _ _ => rfl) ?_
  refine HeadR.un rfl rfl (fun _ _ => rfl) ?_
  refine HeadR.un rfl rfl (fun _ _ => rfl) ?_
  refine HeadR.un rfl rfl (fun _ _ => rfl) ?_
  refine HeadR.un rfl rfl (fun _ _ => rfl) ?_
  refine HeadR.no rfl rfl (fun _ _ => rfl) ?_
  refine HeadR.det rfl (fun β hβ => (det_pick rfl rfl)) ?_
  refine HeadR.det rfl (fun β hβ => (det_move rfl)) ?_
  refine HeadR.no rfl rfl (fun _ _ => rfl) ?_
  refine HeadR.no rfl rfl (fun _ _ => rfl) ?_
  refine HeadR.no rfl rfl (fun _ _ => rfl) ?_
  refine HeadR.no rfl rfl (fun _ _ => rfl) ?_
  refine HeadR.un rfl rfl (fun _ _ => rfl) ?_
  refine HeadR.un rfl rfl (fun _ _ => rfl) ?_
  refine HeadR.un rfl rfl (fun _ _ => rfl) ?_
  refine HeadR.un rfl rfl (fun _ _ => rfl) ?_
  refine HeadR.no rfl rfl (fun _ _ => rfl) ?_
  refine HeadR.det rfl (fun β hβ => (det_pick rfl rfl)) ?_
  refine HeadR.det rfl (fun β hβ => (det_assign rfl)) ?_
  refine HeadR.done ⟨by kernel_rfl, fun β hβ => ?_⟩
  refine OpsW.norm (F' := ((23, _) :: (24, _) :: (25, _) :: (26, _) :: (27, _) :: (28, _) :: (29, _) :: (30, _) :: (31, _) :: (32, _) :: (33, _) :: (34, _) :: (35, _) :: (36, _) :: (37, _) :: (38, _) :: (39, _) :: (40, _) :: (41, _) :: (42, _) :: (43, _) :: (44, _) :: (45, _) :: (46, _) :: (47, _) :: (48, _) :: (49, _) :: (50, _) :: (51, _) :: (52, _) :: (53, _) :: (6, _) :: (22, _) :: (7, _) :: (5, _) :: (4, _) :: (3, _) :: [])) (H' := [(_, _), (_, _), (_, _), (_, _)]) rfl rfl ?_
  refine sNext ?_
  refine W.keep (F' := [(6, _)]) ⟨rfl, trivial⟩ ?_
  refine sRet ?_
  exact done1 Tryd.results29 (rv_tmp rfl) rfl
set_option maxHeartbeats 2000000 in
theorem sidesB_ok {p q r : Pt} (h0 : p ≠ (0, 0)) (h1 : q = (0, 0)) (h2 : p = pneg r) {w : World} (hG : Blocks (GH T) w)  : Vm.Pure Tryd.prog 29 #[encP p, encP q, encP r] w (.bool true) := by
  refine pure_of_W (n := 140) (args := [encP p, encP q, encP r]) Tryd.func29 rfl Tryd.ntmps29 (Nat.le_of_ble_eq_true rfl) hG ?_
  refine sStart ?_
  refine sSeq ?_
  refine W.region ?_
  refine OpsW.fresh (fr_box rfl rfl) rfl fun b3 => ?_
  refine OpsW.fresh (fr_box rfl rfl) rfl fun b4 => ?_
  refine OpsW.fresh (fr_box rfl rfl) rfl fun b5 => ?_
  refine OpsW.det (det_assign rfl) rfl ?_
  refine sNext ?_
  refine W.keep (F' := [(5, _), (4, _), (3, _)]) ⟨rfl, rfl, rfl, trivial⟩ ?_
  refine sSeq ?_
  refine W.region ?_
  refine OpsW.det (det_zero bz30) rfl ?_
  refine OpsW.fresh (fr_alloc z30) rfl fun b7 => ?_
  refine OpsW.store sz30 rfl rfl rfl rfl rfl (Upd.here) rfl ?_
  refine sNext ?_
  refine W.keep (F' := [(7, _), (5, _), (4, _), (3, _)]) ⟨rfl, rfl, rfl, rfl, trivial⟩ ?_
  refine sSeq ?_
  refine sSeq ?_
  refine W.region ?_
  refine OpsW.det (det_loadA ty30 rfl (List.Mem.tail _ (List.Mem.tail _ (List.Mem.tail _ (List.Mem.head _)))) rfl) rfl ?_
  refine OpsW.det (det_loadA ty30 rfl (List.Mem.head _) rfl) rfl ?_
  refine OpsW.det (Det.to (det_eql30 rfl rfl) (congrArg Value.bool (nf h0))) rfl ?_
  refine OpsW.det (det_move rfl) rfl ?_
  refine OpsW.guard_yes rfl rfl ?_
  refine OpsW.det (det_loadA ty30 rfl (List.Mem.tail _ (List.Mem.tail _ (List.Mem.head _))) rfl) rfl ?_
  refine OpsW.guard_yes rfl rfl ?_
  refine OpsW.det (det_loadA ty30 rfl (List.Mem.head _) rfl) rfl ?_
  refine OpsW.guard_yes rfl rfl ?_
  refine OpsW.det (Det.to (det_eql30 rfl rfl) (congrArg Value.bool (yb h1))) rfl ?_
  refine OpsW.det (det_pick rfl rfl) rfl ?_
  refine OpsW.det (det_move rfl) rfl ?_
  refine OpsW.guard_no rfl rfl rfl ?_
  refine OpsW.guard_no rfl rfl rfl ?_
  refine OpsW.guard_no rfl rfl rfl ?_
  refine OpsW.det (det_pick rfl rfl) rfl ?_
  refine sNext ?_
  refine W.keep (F' := [(22, _), (7, _), (5, _), (4, _), (3, _)]) ⟨rfl, rfl, rfl, rfl, rfl, trivial⟩ ?_
  refine W.cond_true rfl ?_
  refine sSeq ?_
  refine W.draw mixed 32 [[], [], [0, 1], [0, 1, 2], [0, 1, 2, 3], [0, 1, 2, 3], [0, 1, 2, 3, 5], [0, 1, 2, 3, 4, 5, 6], [0, 1, 2, 3, 4, 5, 6, 7], [0, 1, 2, 3, 4, 5, 6, 7, 8], [0, 1, 2, 3, 4, 5, 6, 7, 8, 9], [0, 1, 2, 3, 4, 5, 6, 7, 8, 9], [0, 1, 2, 3, 4, 5, 6, 7, 8, 9, 10, 11], [0, 1, 2, 3, 4, 5, 6, 7, 8, 9, 10, 11, 12], [0, 1, 2, 3, 4, 5, 6, 7, 8, 9, 10, 11, 12, 13], [0, 1, 2, 3, 4, 5, 6, 7, 8, 9, 10, 11, 12, 13], [0, 1, 2, 3, 4, 5, 6, 7, 8, 9, 10, 11, 12, 13, 15], [0, 1, 2, 3, 4, 5, 6, 7, 8, 9, 10, 11, 12, 13, 14, 15, 16], [0, 1, 2, 3, 4, 5, 6, 7, 8, 9, 10, 11, 12, 13, 14, 15, 16, 17], [0, 1, 2, 3, 4, 5, 6, 7, 8, 9, 10, 11, 12, 13, 14, 15, 16, 17, 18], [0, 1, 2, 3, 4, 5, 6, 7, 8, 9, 10, 11, 12, 13, 14, 15, 16, 17, 18, 19], [0, 1, 2, 3, 4, 5, 6, 7, 8, 9, 10, 11, 12, 13, 14, 15, 16, 17, 18, 19, 20], [0, 1, 2, 3, 4, 5, 6, 7, 8, 9, 10, 11, 12, 13, 14, 15, 16, 17, 18, 19, 20], [0, 1, 2, 3, 4, 5, 6, 7, 8, 9, 10, 11, 12, 13, 14, 15, 16, 17, 18, 19, 20, 21, 22], [0, 1, 2, 3, 4, 5, 6, 7, 8, 9, 10, 11, 12, 13, 14, 15, 16, 17, 18, 19, 20, 21, 22, 23], [0, 1, 2, 3, 4, 5, 6, 7, 8, 9, 10, 11, 12, 13, 14, 15, 16, 17, 18, 19, 20, 21, 22, 23, 24], [0, 1, 2, 3, 4, 5, 6, 7, 8, 9, 10, 11, 12, 13, 14, 15, 16, 17, 18, 19, 20, 21, 22, 23, 24], [0, 1, 2, 3, 4, 5, 6, 7, 8, 9, 10, 11, 12, 13, 14, 15, 16, 17, 18, 19, 20, 21, 22, 23, 24, 26], [0, 1, 2, 3, 4, 5, 6, 7, 8, 9, 10, 11, 12, 13, 14, 15, 16, 17, 18, 19, 20, 21, 22, 23, 24, 25, 26, 27], [0, 1, 2, 3, 4, 5, 6, 7, 8, 9, 10, 11, 12, 13, 14, 15, 16, 17, 18, 19, 20, 21, 22, 23, 24, 25, 26, 27, 28], [0, 1, 2, 3, 4, 5, 6, 7, 8, 9, 10, 11, 12, 13, 14, 15, 16, 17, 18, 19, 20, 21, 22, 23, 24, 25, 26, 27, 28, 29], [0, 1, 2, 3, 4, 5, 6, 7, 8, 9, 10, 11, 12, 13, 14, 15, 16, 17, 18, 19, 20, 21, 22, 23, 24, 25, 26, 27, 28, 29, 30]] (cl_lt (by decide)) ?_
  refine HeadR.start (cl_lt (by decide)) ?_
  refine HeadR.det rfl (fun β hβ => (det_loadA ty30 rfl (List.Mem.tail _ (List.Mem.tail _ (List.Mem.tail _ (List.Mem.head _)))) rfl)) ?_
  refine HeadR.det rfl (fun β hβ => (det_loadA ty30 rfl (List.Mem.head _) rfl)) ?_
  refine HeadR.det rfl (fun β hβ => (Det.to (det_eql30 rfl rfl) (congrArg Value.bool (nf h0)))) ?_
  refine HeadR.det rfl (fun β hβ => (det_move rfl)) ?_
  refine HeadR.no rfl rfl (fun _ _ => rfl) ?_
  refine HeadR.no rfl rfl (fun _ _ => rfl) ?_
  refine HeadR.no rfl rfl (fun _ _ => rfl) ?_
  refine HeadR.no rfl rfl (fun _ _ => rfl) ?_
  refine HeadR.det rfl (fun β hβ => (det_pick rfl rfl)) ?_
  refine HeadR.det rfl (fun β hβ => (det_move rfl)) ?_
  refine HeadR.yes rfl rfl (fun _ _ => rfl) (fun β hβ => (det_loadA ty30 rfl (List.Mem.tail _ (List.Mem.tail _ (List.Mem.head _))) rfl)) ?_
  refine HeadR.yes rfl rfl (fun _ _ => rfl) (fun β hβ => (det_loadA ty30 rfl (List.Mem.head _) rfl)) ?_
  refine HeadR.yes rfl rfl (fun _ _ => rfl) (fun β hβ => (Det.to (det_eql30 rfl rfl) (congrArg Value.bool (yb h1)))) ?_
  refine HeadR.yes rfl rfl (fun _ _ => rfl) (fun β hβ => (det_move rfl)) ?_
  refine HeadR.yes rfl rfl (fun _ _ => rfl) (fun β hβ => (det_loadA ty30 rfl (List.Mem.tail _ (List.Mem.tail _ (List.Mem.tail _ (List.Mem.head _)))) rfl)) ?_
  refine HeadR.yes rfl rfl (fun _ _ => rfl) (fun β hβ => (det_loadA ty30 rfl (List.Mem.tail _ (List.Mem.head _)) rfl)) ?_
  refine HeadR.yes rfl rfl (fun _ _ => rfl) (fun β hβ => (det_call en22 rfl (fun w hb ho => PNeg_ok ho.blocks))) ?_
  refine HeadR.yes rfl rfl (fun _ _ => rfl) (fun β hβ => (Det.to (det_eql30 rfl rfl) (congrArg Value.bool (yb h2)))) ?_
  refine HeadR.yes rfl rfl (fun _ _ => rfl) (fun β hβ => (det_pick rfl rfl)) ?_
  refine HeadR.det rfl (fun β hβ => (det_pick rfl rfl)) ?_
  refine HeadR.det rfl (fun β hβ => (det_move rfl)) ?_
  refine HeadR.no rfl rfl (fun _ _ => rfl) ?_
  refine HeadR.no rfl rfl (fun _ _ => rfl) ?_
  refine HeadR.no rfl rfl (fun _ _ => rfl) ?_
  refine HeadR.no rfl rfl (fun _ _ => rfl) ?_
  refine HeadR.un rfl rfl (fun _ _ => rfl) ?_
  refine HeadR.un rfl rfl (fun _ _ => rfl) ?_
  refine HeadR.un rfl rfl (fun _ _ => rfl) ?_
  refine HeadR.un rfl rfl (fun _ _ => rfl) ?_
  refine HeadR.no rfl rfl (fun _ _ => rfl) ?_
  refine HeadR.det rfl (fun β hβ => (det_pick rfl rfl)) ?_
  refine HeadR.det rfl (fun β hβ => (det_assign rfl)) ?_
  refine HeadR.done ⟨by kernel_rfl, fun β hβ => ?_⟩
  refine OpsW.norm (F' := ((23, _) :: (24, _) :: (25, _) :: (26, _) :: (27, _) :: (28, _) :: (29, _) :: (30, _) :: (31, _) :: (32, _) :: (33, _) :: (34, _) :: (35, _) :: (36, _) :: (37, _) :: (38, _) :: (39, _) :: (40, _) :: (41, _) :: (42, _) :: (43, _) :: (44, _) :: (45, _) :: (46, _) :: (47, _) :: (48, _) :: (49, _) :: (50, _) :: (51, _) :: (52, _) :: (53, _) :: (6, _) :: (22, _) :: (7, _) :: (5, _) :: (4, _) :: (3, _) :: [])) (H' := [(_, _), (_, _), (_, _), (_, _)]) rfl rfl ?_
  refine sNext ?_
  refine W.keep (F' := [(6, _)]) ⟨rfl, trivial⟩ ?_
  refine sRet ?_
  exact done1 Tryd.results29 (rv_tmp rfl) rfl
set_option maxHeartbeats 2000000 in
theorem sidesC_ok {p q r : Pt} (h0 : p ≠ (0, 0)) (h0' : q ≠ (0, 0)) (h1 : r = (0, 0)) (h2 : p = pneg q) {w : World} (hG : Blocks (GH T) w)  : Vm.Pure Tryd.prog 29 #[encP p, encP q, encP r] w (.bool true) := by
  refine pure_of_W (n := 140) (args := [encP p, encP q, encP r]) Tryd.func29 rfl Tryd.ntmps29 (Nat.le_of_ble_eq_true rfl) hG ?_
  refine sStart ?_
  refine sSeq ?_
  refine W.region ?_
  refine OpsW.fresh (fr_box rfl rfl) rfl fun b3 => ?_
  refine OpsW.fresh (fr_box rfl rfl) rfl fun b4 => ?_
  refine OpsW.fresh (fr_box rfl rfl) rfl fun b5 => ?_
  refine OpsW.det (det_assign rfl) rfl ?_
  refine sNext ?_
  refine W.keep (F' := [(5, _), (4, _), (3, _)]) ⟨rfl, rfl, rfl, trivial⟩ ?_
  refine sSeq ?_
  refine W.region ?_
  refine OpsW.det (det_zero bz30) rfl ?_
  refine OpsW.fresh (fr_alloc z30) rfl fun b7 => ?_
  refine OpsW.store sz30 rfl rfl rfl rfl rfl (Upd.here) rfl ?_
  refine sNext ?_
  refine W.keep (F' := [(7, _), (5, _), (4, _), (3, _)]) ⟨rfl, rfl, rfl, rfl, trivial⟩ ?_
  refine sSeq ?_
  refine sSeq ?_
  refine W.region ?_
  refine OpsW.det (det_loadA ty30 rfl (List.Mem.tail _ (List.Mem.tail _ (List.Mem.tail _ (List.Mem.head _)))) rfl) rfl ?_
  refine OpsW.det (det_loadA ty30 rfl (List.Mem.head _) rfl) rfl ?_
  refine OpsW.det (Det.to (det_eql30 rfl rfl) (congrArg Value.bool (nf h0))) rfl ?_
  refine OpsW.det (det_move rfl) rfl ?_
  refine OpsW.guard_yes rfl rfl ?_
  refine OpsW.det (det_loadA ty30 rfl (List.Mem.tail _ (List.Mem.tail _ (List.Mem.head _))) rfl) rfl ?_
  refine OpsW.guard_yes rfl rfl ?_
  refine OpsW.det (det_loadA ty30 rfl (List.Mem.head _) rfl) rfl ?_
  refine OpsW.guard_yes rfl rfl ?_
  refine OpsW.det (Det.to (det_eql30 rfl rfl) (congrArg Value.bool (nf h0'))) rfl ?_
  refine OpsW.det (det_pick rfl rfl) rfl ?_
  refine OpsW.det (det_move rfl) rfl ?_
  refine OpsW.guard_yes rfl rfl ?_
  refine OpsW.det (det_loadA ty30 rfl (List.Mem.tail _ (List.Mem.head _)) rfl) rfl ?_
  refine OpsW.guard_yes rfl rfl ?_
  refine OpsW.det (det_loadA ty30 rfl (List.Mem.head _) rfl) rfl ?_
  refine OpsW.guard_yes rfl rfl ?_
  refine OpsW.det (Det.to (det_eql30 rfl rfl) (congrArg Value.bool (yb h1))) rfl ?_
  refine OpsW.det (det_pick rfl rfl) rfl ?_
  refine sNext ?_
  refine W.keep (F' := [(22, _), (7, _), (5, _), (4, _), (3, _)]) ⟨rfl, rfl, rfl, rfl, rfl, trivial⟩ ?_
  refine W.cond_true rfl ?_
  refine sSeq ?_
  refine W.draw mixed 32 [[], [], [0, 1], [0, 1, 2], [0, 1, 2, 3], [0, 1, 2, 3], [0, 1, 2, 3, 5], [0, 1, 2, 3, 4, 5, 6], [0, 1, 2, 3, 4, 5, 6, 7], [0, 1, 2, 3, 4, 5, 6, 7, 8], [0, 1, 2, 3, 4, 5, 6, 7, 8, 9], [0, 1, 2, 3, 4, 5, 6, 7, 8, 9], [0, 1, 2, 3, 4, 5, 6, 7, 8, 9, 10, 11], [0, 1, 2, 3, 4, 5, 6, 7, 8, 9, 10, 11, 12], [0, 1, 2, 3, 4, 5, 6, 7, 8, 9, 10, 11, 12, 13], [0, 1, 2, 3, 4, 5, 6, 7, 8, 9, 10, 11, 12, 13], [0, 1, 2, 3, 4, 5, 6, 7, 8, 9, 10, 11, 12, 13, 15], [0, 1, 2, 3, 4, 5, 6, 7, 8, 9, 10, 11, 12, 13, 14, 15, 16], [0, 1, 2, 3, 4, 5, 6, 7, 8, 9, 10, 11, 12, 13, 14, 15, 16, 17], [0, 1, 2, 3, 4, 5, 6, 7, 8, 9, 10, 11, 12, 13, 14, 15, 16, 17, 18], [0, 1, 2, 3, 4, 5, 6, 7, 8, 9, 10, 11, 12, 13, 14, 15, 16, 17, 18, 19], [0, 1, 2, 3, 4, 5, 6, 7, 8, 9, 10, 11, 12, 13, 14, 15, 16, 17, 18, 19, 20], [0, 1, 2, 3, 4, 5, 6, 7, 8, 9, 10, 11, 12, 13, 14, 15, 16, 17, 18, 19, 20], [0, 1, 2, 3, 4, 5, 6, 7, 8, 9, 10, 11, 12, 13, 14, 15, 16, 17, 18, 19, 20, 21, 22], [0, 1, 2, 3, 4, 5, 6, 7, 8, 9, 10, 11, 12, 13, 14, 15, 16, 17, 18, 19, 20, 21, 22, 23], [0, 1, 2, 3, 4, 5, 6, 7, 8, 9, 10, 11, 12, 13, 14, 15, 16, 17, 18, 19, 20, 21, 22, 23, 24], [0, 1, 2, 3, 4, 5, 6, 7, 8, 9, 10, 11, 12, 13, 14, 15, 16, 17, 18, 19, 20, 21, 22, 23, 24], [0, 1, 2, 3, 4, 5, 6, 7, 8, 9, 10, 11, 12, 13, 14, 15, 16, 17, 18, 19, 20, 21, 22, 23, 24, 26], [0, 1, 2, 3, 4, 5, 6, 7, 8, 9, 10, 11, 12, 13, 14, 15, 16, 17, 18, 19, 20, 21, 22, 23, 24, 25, 26, 27], [0, 1, 2, 3, 4, 5, 6, 7, 8, 9, 10, 11, 12, 13, 14, 15, 16, 17, 18, 19, 20, 21, 22, 23, 24, 25, 26, 27, 28], [0, 1, 2, 3, 4, 5, 6, 7, 8, 9, 10, 11, 12, 13, 14, 15, 16, 17, 18, 19, 20, 21, 22, 23, 24, 25, 26, 27, 28, 29], [0, 1, 2, 3, 4, 5, 6, 7, 8, 9, 10, 11, 12, 13, 14, 15, 16, 17, 18, 19, 20, 21, 22, 23, 24, 25, 26, 27, 28, 29, 30]] (cl_lt (by decide)) ?_
  refine HeadR.start (cl_lt (by decide)) ?_
  refine HeadR.det rfl (fun β hβ => (det_loadA ty30 rfl (List.Mem.tail _ (List.Mem.tail _ (List.Mem.tail _ (List.Mem.head _)))) rfl)) ?_
  refine HeadR.det rfl (fun β hβ => (det_loadA ty30 rfl (List.Mem.head _) rfl)) ?_
  refine HeadR.det rfl (fun β hβ => (Det.to (det_eql30 rfl rfl) (congrArg Value.bool (nf h0)))) ?_
  refine HeadR.det rfl (fun β hβ => (det_move rfl)) ?_
  refine HeadR.no rfl rfl (fun _ _ => rfl) ?_
  refine HeadR.no rfl rfl (fun _ _ => rfl) ?_
  refine HeadR.no rfl rfl (fun _ _ => rfl) ?_
  refine HeadR.no rfl rfl (fun _ _ => rfl) ?_
  refine HeadR.det rfl (fun β hβ => (det_pick rfl rfl)) ?_
  refine HeadR.det rfl (fun β hβ => (det_move rfl)) ?_
  refine HeadR.yes rfl rfl (fun _ _ => rfl) (fun β hβ => (det_loadA ty30 rfl (List.Mem.tail _ (List.Mem.tail _ (List.Mem.head _))) rfl)) ?_
  refine HeadR.yes rfl rfl (fun _ _ => rfl) (fun β hβ => (det_loadA ty30 rfl (List.Mem.head _) rfl)) ?_
  refine HeadR.yes rfl rfl (fun _ _ => rfl) (fun β hβ => (Det.to (det_eql30 rfl rfl) (congrArg Value.bool (nf h0')))) ?_
  refine HeadR.yes rfl rfl (fun _ _ => rfl) (fun β hβ => (det_move rfl)) ?_
  refine HeadR.no rfl rfl (fun _ _ => rfl) ?_
  refine HeadR.no rfl rfl (fun _ _ => rfl) ?_
  refine HeadR.no rfl rfl (fun _ _ => rfl) ?_
  refine HeadR.no rfl rfl (fun _ _ => rfl) ?_
  refine HeadR.yes rfl rfl (fun _ _ => rfl) (fun β hβ => (det_pick rfl rfl)) ?_
  refine HeadR.det rfl (fun β hβ => (det_pick rfl rfl)) ?_
  refine HeadR.det rfl (fun β hβ => (det_move rfl)) ?_
  refine HeadR.yes rfl rfl (fun _ _ => rfl) (fun β hβ => (det_loadA ty30 rfl (List.Mem.tail _ (List.Mem.head _)) rfl)) ?_
  refine HeadR.yes rfl rfl (fun _ _ => rfl) (fun β hβ => (det_loadA ty30 rfl (List.Mem.head _) rfl)) ?_
  refine HeadR.yes rfl rfl (fun _ _ => rfl) (fun β hβ => (Det.to (det_eql30 rfl rfl) (congrArg Value.bool (yb h1)))) ?_
  refine HeadR.yes rfl rfl (fun _ _ => rfl) (fun β hβ => (det_move rfl)) ?_
  refine HeadR.yes rfl rfl (fun _ _ => rfl) (fun β hβ => (det_loadA ty30 rfl (List.Mem.tail _ (List.Mem.tail _ (List.Mem.tail _ (List.Mem.head _)))) rfl)) ?_
  refine HeadR.yes rfl rfl (fun _ _ => rfl) (fun β hβ => (det_loadA ty30 rfl (List.Mem.tail _ (List.Mem.tail _ (List.Mem.head _))) rfl)) ?_
  refine HeadR.yes rfl rfl (fun _ _ => rfl) (fun β hβ => (det_call en22 rfl (fun w hb ho => PNeg_ok ho.blocks))) ?_
  refine HeadR.yes rfl rfl (fun _ _ => rfl) (fun β hβ => (Det.to (det_eql30 rfl rfl) (congrArg Value.bool (yb h2)))) ?_
  refine HeadR.yes rfl rfl (fun _ _ => rfl) (fun β hβ => (det_pick rfl rfl)) ?_
  refine HeadR.det rfl (fun β hβ => (det_pick rfl rfl)) ?_
  refine HeadR.det rfl (fun β hβ => (det_assign rfl)) ?_
  refine HeadR.done ⟨by kernel_rfl, fun β hβ => ?_⟩
  refine OpsW.norm (F' := ((23, _) :: (24, _) :: (25, _) :: (26, _) :: (27, _) :: (28, _) :: (29, _) :: (30, _) :: (31, _) :: (32, _) :: (33, _) :: (34, _) :: (35, _) :: (36, _) :: (37, _) :: (38, _) :: (39, _) :: (40, _) :: (41, _) :: (42, _) :: (43, _) :: (44, _) :: (45, _) :: (46, _) :: (47, _) :: (48, _) :: (49, _) :: (50, _) :: (51, _) :: (52, _) :: (53, _) :: (6, _) :: (22, _) :: (7, _) :: (5, _) :: (4, _) :: (3, _) :: [])) (H' := [(_, _), (_, _), (_, _), (_, _)]) rfl rfl ?_
  refine sNext ?_
  refine W.keep (F' := [(6, _)]) ⟨rfl, trivial⟩ ?_
  refine sRet ?_
  exact done1 Tryd.results29 (rv_tmp rfl) rfl
set_option maxHeartbeats 2000000 in
theorem sidesD_ok {p q r : Pt} (h0 : p ≠ (0, 0)) (h0' : q ≠ (0, 0)) (h0'' : r ≠ (0, 0)) (h1 : p = q) (h2 : r.1 ≠ p.1) (h3 : (p.2 + p.2) * (r.2 - p.2) = (p.1 * p.1 + p.1 * p.1 + p.1 * p.1) * (r.1 - p.1)) {w : World} (hG : Blocks (GH T) w)  : Vm.Pure Tryd.prog 29 #[encP p, encP q, encP r] w (.bool true) := by
  refine pure_of_W (n := 140) (args := [encP p, encP q, encP r]) Tryd.func29 rfl Tryd.ntmps29 (Nat.le_of_ble_eq_true rfl) hG ?_
  refine sStart ?_
  refine sSeq ?_
  refine W.region ?_
  refine OpsW.fresh (fr_box rfl rfl) rfl fun b3 => ?_
  refine OpsW.fresh (fr_box rfl rfl) rfl fun b4 => ?_
  refine OpsW.fresh (fr_box rfl rfl) rfl fun b5 => ?_
  refine OpsW.det (det_assign rfl) rfl ?_
  refine sNext ?_
  refine W.keep (F' := [(5, _), (4, _), (3, _)]) ⟨rfl, rfl, rfl, trivial⟩ ?_
  refine sSeq ?_
  refine W.region ?_
  refine OpsW.det (det_zero bz30) rfl ?_
  refine OpsW.fresh (fr_alloc z30) rfl fun b7 => ?_
  refine OpsW.store sz30 rfl rfl rfl rfl rfl (Upd.here) rfl ?_
  refine sNext ?_
  refine W.keep (F' := [(7, _), (5, _), (4, _), (3, _)]) ⟨rfl, rfl, rfl, rfl, trivial⟩ ?_
  refine sSeq ?_
  refine sSeq ?_
  refine W.region ?_
  refine OpsW.det (det_loadA ty30 rfl (List.Mem.tail _ (List.Mem.tail _ (List.Mem.tail _ (List.Mem.head _)))) rfl) rfl ?_
  refine OpsW.det (det_loadA ty30 rfl (List.Mem.head _) rfl) rfl ?_
  refine OpsW.det (Det.to (det_eql30 rfl rfl) (congrArg Value.bool (nf h0))) rfl ?_
  refine OpsW.det (det_move rfl) rfl ?_
  refine OpsW.guard_yes rfl rfl ?_
  refine OpsW.det (det_loadA ty30 rfl (List.Mem.tail _ (List.Mem.tail _ (List.Mem.head _))) rfl) rfl ?_
  refine OpsW.guard_yes rfl rfl ?_
  refine OpsW.det (det_loadA ty30 rfl (List.Mem.head _) rfl) rfl ?_
  refine OpsW.guard_yes rfl rfl ?_
  refine OpsW.det (Det.to (det_eql30 rfl rfl) (congrArg Value.bool (nf h0'))) rfl ?_
  refine OpsW.det (det_pick rfl rfl) rfl ?_
  refine OpsW.det (det_move rfl) rfl ?_
  refine OpsW.guard_yes rfl rfl ?_
  refine OpsW.det (det_loadA ty30 rfl (List.Mem.tail _ (List.Mem.head _)) rfl) rfl ?_
  refine OpsW.guard_yes rfl rfl ?_
  refine OpsW.det (det_loadA ty30 rfl (List.Mem.head _) rfl) rfl ?_
  refine OpsW.guard_yes rfl rfl ?_
  refine OpsW.det (Det.to (det_eql30 rfl rfl) (congrArg Value.bool (nf h0''))) rfl ?_
  refine OpsW.det (det_pick rfl rfl) rfl ?_
  refine sNext ?_
  refine W.keep (F' := [(22, _), (7, _), (5, _), (4, _), (3, _)]) ⟨rfl, rfl, rfl, rfl, rfl, trivial⟩ ?_
  refine W.cond_false rfl ?_
  refine sSkip ?_
  refine sSeq ?_
  refine sSeq ?_
  refine W.region ?_
  refine OpsW.det (det_loadA ty30 rfl (List.Mem.tail _ (List.Mem.tail _ (List.Mem.tail _ (List.Mem.head _)))) rfl) rfl ?_
  refine OpsW.det (det_loadA ty30 rfl (List.Mem.tail _ (List.Mem.tail _ (List.Mem.head _))) rfl) rfl ?_
  refine OpsW.det (Det.to (det_eql30 rfl rfl) (congrArg Value.bool (yb h1))) rfl ?_
  refine sNext ?_
  refine W.keep (F' := [(56, _), (5, _), (4, _), (3, _)]) ⟨rfl, rfl, rfl, rfl, trivial⟩ ?_
  refine W.cond_true rfl ?_
  refine sSeq ?_
  refine W.region ?_
  refine OpsW.det (det_fieldAddr fl30_0 rfl) rfl ?_
  refine OpsW.det (det_loadA ty28 rfl (List.Mem.tail _ (List.Mem.tail _ (List.Mem.tail _ (List.Mem.head _)))) rfl) rfl ?_
  refine OpsW.det (det_call en56 rfl (fun w hb ho => Cu.Square_ok ho.blocks)) rfl ?_
  refine OpsW.fresh (fr_alloc z28) rfl fun b8 => ?_
  refine OpsW.store sz28 rfl rfl rfl rfl rfl (Upd.here) rfl ?_
  refine sNext ?_
  refine W.keep (F' := [(8, _), (5, _), (3, _)]) ⟨rfl, rfl, rfl, trivial⟩ ?_
  refine sSeq ?_
  refine W.draw mixed 47 [[], [0], [], [2], [0, 1, 2, 3], [0, 1, 2, 3, 4], [0, 1, 2, 3, 4, 5], [0, 1, 2, 3, 4, 5, 6], [0, 1, 2, 3, 4, 5], [0, 1, 2, 3, 4, 5, 8], [0, 1, 2, 3, 4, 5, 6, 7, 8, 9], [0, 1, 2, 3, 4, 5], [0, 1, 2, 3, 4, 5, 11], [0, 1, 2, 3, 4, 5], [0, 1, 2, 3, 4, 5, 13], [0, 1, 2, 3, 4, 5, 6, 7, 8, 9, 10, 11, 12, 13, 14], [0, 1, 2, 3, 4, 5, 6, 7, 8, 9, 10, 11, 12, 13, 14, 15], [0, 1, 2, 3, 4, 5], [0, 1, 2, 3, 4, 5], [0, 1, 2, 3, 4, 5, 6, 7, 8, 9, 10, 11, 12, 13, 14, 15, 16, 17, 18], [0, 1, 2, 3, 4, 5], [0, 1, 2, 3, 4, 5, 6, 7, 8, 9, 10, 11, 12, 13, 14, 15, 16, 17, 18, 19, 20], [0, 1, 2, 3, 4, 5], [0, 1, 2, 3, 4, 5, 22], [0, 1, 2, 3, 4, 5], [0, 1, 2, 3, 4, 5, 24], [0, 1, 2, 3, 4, 5, 6, 7, 8, 9, 10, 11, 12, 13, 14, 15, 16, 17, 18, 19, 20, 21, 22, 23, 24, 25], [0, 1, 2, 3, 4, 5, 6, 7, 8, 9, 10, 11, 12, 13, 14, 15, 16, 17, 18, 19, 20, 21, 22, 23, 24, 25, 26], [0, 1, 2, 3, 4, 5, 6, 7, 8, 9, 10, 11, 12, 13, 14, 15, 16, 17, 18, 19, 20, 21, 22, 23, 24, 25, 26, 27], [0, 1, 2, 3, 4, 5, 6, 7, 8, 9, 10, 11, 12, 13, 14, 15, 16, 17, 18, 19, 20, 21, 22, 23, 24, 25, 26, 27, 28], [0, 1, 2, 3, 4, 5, 6, 7, 8, 9, 10, 11, 12, 13, 14, 15, 16, 17, 18, 19, 20, 21, 22, 23, 24, 25, 26, 27, 28, 29], [0, 1, 2, 3, 4, 5, 6, 7, 8, 9, 10, 11, 12, 13, 14, 15, 16, 17, 18, 19, 20, 21, 22, 23, 24, 25, 26, 27, 28, 29, 30], [0, 1, 2, 3, 4, 5, 6, 7, 8, 9, 10, 11, 12, 13, 14, 15, 16, 17, 18, 19, 20, 21, 22, 23, 24, 25, 26, 27, 28, 29, 30, 31], [0, 1, 2, 3, 4, 5, 6, 7, 8, 9, 10, 11, 12, 13, 14, 15, 16, 17, 18, 19, 20, 21, 22, 23, 24, 25, 26, 27, 28, 29, 30], [0, 1, 2, 3, 4, 5, 6, 7, 8, 9, 10, 11, 12, 13, 14, 15, 16, 17, 18, 19, 20, 21, 22, 23, 24, 25, 26, 27, 28, 29, 30, 33], [0, 1, 2, 3, 4, 5, 6, 7, 8, 9, 10, 11, 12, 13, 14, 15, 16, 17, 18, 19, 20, 21, 22, 23, 24, 25, 26, 27, 28, 29, 30, 31, 32, 33, 34], [0, 1, 2, 3, 4, 5, 6, 7, 8, 9, 10, 11, 12, 13, 14, 15, 16, 17, 18, 19, 20, 21, 22, 23, 24, 25, 26, 27, 28, 29, 30, 31, 32, 33, 34, 35], [0, 1, 2, 3, 4, 5, 6, 7, 8, 9, 10, 11, 12, 13, 14, 15, 16, 17, 18, 19, 20, 21, 22, 23, 24, 25, 26, 27, 28, 29, 30, 31, 32, 33, 34, 35, 36], [0, 1, 2, 3, 4, 5, 6, 7, 8, 9, 10, 11, 12, 13, 14, 15, 16, 17, 18, 19, 20, 21, 22, 23, 24, 25, 26, 27, 28, 29, 30, 31, 32, 33, 34, 35, 36], [0, 1, 2, 3, 4, 5, 6, 7, 8, 9, 10, 11, 12, 13, 14, 15, 16, 17, 18, 19, 20, 21, 22, 23, 24, 25, 26, 27, 28, 29, 30, 31, 32, 33, 34, 35, 36, 37, 38], [0, 1, 2, 3, 4, 5, 6, 7, 8, 9, 10, 11, 12, 13, 14, 15, 16, 17, 18, 19, 20, 21, 22, 23, 24, 25, 26, 27, 28, 29, 30, 31, 32, 33, 34, 35, 36, 37, 38, 39], [0, 1, 2, 3, 4, 5, 6, 7, 8, 9, 10, 11, 12, 13, 14, 15, 16, 17, 18, 19, 20, 21, 22, 23, 24, 25, 26, 27, 28, 29, 30, 31, 32, 33, 34, 35, 36, 37, 38, 39, 40], [0, 1, 2, 3, 4, 5, 6, 7, 8, 9, 10, 11, 12, 13, 14, 15, 16, 17, 18, 19, 20, 21, 22, 23, 24, 25, 26, 27, 28, 29, 30, 31, 32, 33, 34, 35, 36, 37, 38, 39, 40, 41], [0, 1, 2, 3, 4, 5, 6, 7, 8, 9, 10, 11, 12, 13, 14, 15, 16, 17, 18, 19, 20, 21, 22, 23, 24, 25, 26, 27, 28, 29, 30, 31, 32, 33, 34, 35, 36, 37, 38, 39, 40, 41, 42], [0, 1, 2, 3, 4, 5, 6, 7, 8, 9, 10, 11, 12, 13, 14, 15, 16, 17, 18, 19, 20, 21, 22, 23, 24, 25, 26, 27, 28, 29, 30, 31, 32, 33, 34, 35, 36, 37, 38, 39, 40, 41, 42, 43], [0, 1, 2, 3, 4, 5, 6, 7, 8, 9, 10, 11, 12, 13, 14, 15, 16, 17, 18, 19, 20, 21, 22, 23, 24, 25, 26, 27, 28, 29, 30, 31, 32, 33, 34, 35, 36, 37, 38, 39, 40, 41, 42, 43, 44], [0, 1, 2, 3, 4, 5, 6, 7, 8, 9, 10, 11, 12, 13, 14, 15, 16, 17, 18, 19, 20, 21, 22, 23, 24, 25, 26, 27, 28, 29, 30, 31, 32, 33, 34, 35, 36, 37, 38, 39, 40, 41, 42, 43, 44, 45]] (cl_lt (by decide)) ?_
  refine HeadR.start (cl_lt (by decide)) ?_
  refine HeadR.det rfl (fun β hβ => (det_fieldAddr fl30_0 rfl)) ?_
  refine HeadR.det rfl (fun β hβ => (det_loadA ty28 rfl (List.Mem.tail _ (List.Mem.tail _ (List.Mem.head _))) rfl)) ?_
  refine HeadR.det rfl (fun β hβ => (det_fieldAddr fl30_0 rfl)) ?_
  refine HeadR.det rfl (fun β hβ => (det_loadA ty28 rfl (List.Mem.tail _ (List.Mem.tail _ (List.Mem.tail _ (List.Mem.tail _ (List.Mem.head _))))) rfl)) ?_
  refine HeadR.det rfl (fun β hβ => (Det.to (det_neq28 rfl rfl) (congrArg Value.bool (ny h2)))) ?_
  refine HeadR.det rfl (fun β hβ => (det_move rfl)) ?_
  refine HeadR.yes rfl rfl (fun _ _ => rfl) (fun β hβ => (det_fieldAddr fl30_1 rfl)) ?_
  refine HeadR.yes rfl rfl (fun _ _ => rfl) (fun β hβ => (det_loadA ty28 rfl (List.Mem.tail _ (List.Mem.tail _ (List.Mem.tail _ (List.Mem.tail _ (List.Mem.head _))))) rfl)) ?_
  refine HeadR.yes rfl rfl (fun _ _ => rfl) (fun β hβ => (det_fieldAddr fl30_1 rfl)) ?_
  refine HeadR.yes rfl rfl (fun _ _ => rfl) (fun β hβ => (det_loadA ty28 rfl (List.Mem.tail _ (List.Mem.tail _ (List.Mem.tail _ (List.Mem.tail _ (List.Mem.head _))))) rfl)) ?_
  refine HeadR.yes rfl rfl (fun _ _ => rfl) (fun β hβ => (det_call en33 rfl (fun w hb ho => Cu.Add_ok ho.blocks))) ?_
  refine HeadR.yes rfl rfl (fun _ _ => rfl) (fun β hβ => (det_fieldAddr fl30_1 rfl)) ?_
  refine HeadR.yes rfl rfl (fun _ _ => rfl) (fun β hβ => (det_loadA ty28 rfl (List.Mem.tail _ (List.Mem.tail _ (List.Mem.head _))) rfl)) ?_
  refine HeadR.yes rfl rfl (fun _ _ => rfl) (fun β hβ => (det_fieldAddr fl30_1 rfl)) ?_
  refine HeadR.yes rfl rfl (fun _ _ => rfl) (fun β hβ => (det_loadA ty28 rfl (List.Mem.tail _ (List.Mem.tail _ (List.Mem.tail _ (List.Mem.tail _ (List.Mem.head _))))) rfl)) ?_
  refine HeadR.yes rfl rfl (fun _ _ => rfl) (fun β hβ => (det_call en67 rfl (fun w hb ho => Cu.Sub_ok ho.blocks))) ?_
  refine HeadR.yes rfl rfl (fun _ _ => rfl) (fun β hβ => (det_call en57 rfl (fun w hb ho => Cu.Mul_ok ho.blocks))) ?_
  refine HeadR.yes rfl rfl (fun _ _ => rfl) (fun β hβ => (det_loadA ty28 rfl (List.Mem.head _) rfl)) ?_
  refine HeadR.yes rfl rfl (fun _ _ => rfl) (fun β hβ => (det_loadA ty28 rfl (List.Mem.head _) rfl)) ?_
  refine HeadR.yes rfl rfl (fun _ _ => rfl) (fun β hβ => (det_call en33 rfl (fun w hb ho => Cu.Add_ok ho.blocks))) ?_
  refine HeadR.yes rfl rfl (fun _ _ => rfl) (fun β hβ => (det_loadA ty28 rfl (List.Mem.head _) rfl)) ?_
  refine HeadR.yes rfl rfl (fun _ _ => rfl) (fun β hβ => (det_call en33 rfl (fun w hb ho => Cu.Add_ok ho.blocks))) ?_
  refine HeadR.yes rfl rfl (fun _ _ => rfl) (fun β hβ => (det_fieldAddr fl30_0 rfl)) ?_
  refine HeadR.yes rfl rfl (fun _ _ => rfl) (fun β hβ => (det_loadA ty28 rfl (List.Mem.tail _ (List.Mem.tail _ (List.Mem.head _))) rfl)) ?_
  refine HeadR.yes rfl rfl (fun _ _ => rfl) (fun β hβ => (det_fieldAddr fl30_0 rfl)) ?_
  refine HeadR.yes rfl rfl (fun _ _ => rfl) (fun β hβ => (det_loadA ty28 rfl (List.Mem.tail _ (List.Mem.tail _ (List.Mem.tail _ (List.Mem.tail _ (List.Mem.head _))))) rfl)) ?_
  refine HeadR.yes rfl rfl (fun _ _ => rfl) (fun β hβ => (det_call en67 rfl (fun w hb ho => Cu.Sub_ok ho.blocks))) ?_
  refine HeadR.yes rfl rfl (fun _ _ => rfl) (fun β hβ => (det_call en57 rfl (fun w hb ho => Cu.Mul_ok ho.blocks))) ?_
  refine HeadR.yes rfl rfl (fun _ _ => rfl) (fun β hβ => (Det.to (det_eql28 rfl rfl) (congrArg Value.bool (yb h3)))) ?_
  refine HeadR.det rfl (fun β hβ => (det_pick rfl rfl)) ?_
  refine HeadR.det rfl (fun β hβ => (det_move rfl)) ?_
  refine HeadR.no rfl rfl (fun _ _ => rfl) ?_
  refine HeadR.no rfl rfl (fun _ _ => rfl) ?_
  refine HeadR.no rfl rfl (fun _ _ => rfl) ?_
  refine HeadR.no rfl rfl (fun _ _ => rfl) ?_
  refine HeadR.no rfl rfl (fun _ _ => rfl) ?_
  refine HeadR.no rfl rfl (fun _ _ => rfl) ?_
  refine HeadR.un rfl rfl (fun _ _ => rfl) ?_
  refine HeadR.un rfl rfl (fun _ _ => rfl) ?_
  refine HeadR.un rfl rfl (fun _ _ => rfl) ?_
  refine HeadR.no rfl rfl (fun _ _ => rfl) ?_
  refine HeadR.no rfl rfl (fun _ _ => rfl) ?_
  refine HeadR.un rfl rfl (fun _ _ => rfl) ?_
  refine HeadR.un rfl rfl (fun _ _ => rfl) ?_
  refine HeadR.no rfl rfl (fun _ _ => rfl) ?_
  refine HeadR.det rfl (fun β hβ => (det_pick rfl rfl)) ?_
  refine HeadR.det rfl (fun β hβ => (det_assign rfl)) ?_
  refine HeadR.done ⟨by kernel_rfl, fun β hβ => ?_⟩
  refine OpsW.norm (F' := ((60, _) :: (61, _) :: (62, _) :: (63, _) :: (64, _) :: (65, _) :: (66, _) :: (67, _) :: (68, _) :: (69, _) :: (70, _) :: (71, _) :: (72, _) :: (73, _) :: (74, _) :: (75, _) :: (76, _) :: (77, _) :: (78, _) :: (79, _) :: (80, _) :: (81, _) :: (82, _) :: (83, _) :: (84, _) :: (85, _) :: (86, _) :: (87, _) :: (88, _) :: (89, _) :: (90, _) :: (91, _) :: (92, _) :: (93, _) :: (94, _) :: (95, _) :: (96, _) :: (97, _) :: (98, _) :: (99, _) :: (100, _) :: (101, _) :: (102, _) :: (103, _) :: (104, _) :: (105, _) :: (6, _) :: (8, _) :: (5, _) :: (3, _) :: [])) (H' := [(_, _), (_, _), (_, _), (_, _), (_, _)]) rfl rfl ?_
  refine sNext ?_
  refine W.keep (F' := [(6, _)]) ⟨rfl, trivial⟩ ?_
  refine sRet ?_
  exact done1 Tryd.results29 (rv_tmp rfl) rfl
set_option maxHeartbeats 2000000 in
theorem sidesE_ok {p q r : Pt} (h0 : p ≠ (0, 0)) (h0' : q ≠ (0, 0)) (h0'' : r ≠ (0, 0)) (h1 : p = q) (h2 : r.1 = p.1) (h3 : r = p) (h4 : threeB p = true) {w : World} (hG : Blocks (GH T) w)  : Vm.Pure Tryd.prog 29 #[encP p, encP q, encP r] w (.bool true) := by
  refine pure_of_W (n := 140) (args := [encP p, encP q, encP r]) Tryd.func29 rfl Tryd.ntmps29 (Nat.le_of_ble_eq_true rfl) hG ?_
  refine sStart ?_
  refine sSeq ?_
  refine W.region ?_
  refine OpsW.fresh (fr_box rfl rfl) rfl fun b3 => ?_
  refine OpsW.fresh (fr_box rfl rfl) rfl fun b4 => ?_
  refine OpsW.fresh (fr_box rfl rfl) rfl fun b5 => ?_
  refine OpsW.det (det_assign rfl) rfl ?_
  refine sNext ?_
  refine W.keep (F' := [(5, _), (4, _), (3, _)]) ⟨rfl, rfl, rfl, trivial⟩ ?_
  refine sSeq ?_
  refine W.region ?_
  refine OpsW.det (det_zero bz30) rfl ?_
  refine OpsW.fresh (fr_alloc z30) rfl fun b7 => ?_
  refine OpsW.store sz30 rfl rfl rfl rfl rfl (Upd.here) rfl ?_
  refine sNext ?_
  refine W.keep (F' := [(7, _), (5, _), (4, _), (3, _)]) ⟨rfl, rfl, rfl, rfl, trivial⟩ ?_
  refine sSeq ?_
  refine sSeq ?_
  refine W.region ?_
  refine OpsW.det (det_loadA ty30 rfl (List.Mem.tail _ (List.Mem.tail _ (List.Mem.tail _ (List.Mem.head _)))) rfl) rfl ?_
  refine OpsW.det (det_loadA ty30 rfl (List.Mem.head _) rfl) rfl ?_
  refine OpsW.det (Det.to (det_eql30 rfl rfl) (congrArg Value.bool (nf h0))) rfl ?_
  refine OpsW.det (det_move rfl) rfl ?_
  refine OpsW.guard_yes rfl rfl ?_
  refine OpsW.det (det_loadA ty30 rfl (List.Mem.tail _ (List.Mem.tail _ (List.Mem.head _))) rfl) rfl ?_
  refine OpsW.guard_yes rfl rfl ?_
  refine OpsW.det (det_loadA ty30 rfl (List.Mem.head _) rfl) rfl ?_
  refine OpsW.guard_yes rfl rfl ?_
  refine OpsW.det (Det.to (det_eql30 rfl rfl) (congrArg Value.bool (nf h0'))) rfl ?_
  refine OpsW.det (det_pick rfl rfl) rfl ?_
  refine OpsW.det (det_move rfl) rfl ?_
  refine OpsW.guard_yes rfl rfl ?_
  refine OpsW.det (det_loadA ty30 rfl (List.Mem.tail _ (List.Mem.head _)) rfl) rfl ?_
  refine OpsW.guard_yes rfl rfl ?_
  refine OpsW.det (det_loadA ty30 rfl (List.Mem.head _) rfl) rfl ?_
  refine OpsW.guard_yes rfl rfl ?_
  refine OpsW.det (Det.to (det_eql30 rfl rfl) (congrArg Value.bool (nf h0''))) rfl ?_
  refine OpsW.det (det_pick rfl rfl) rfl ?_
  refine sNext ?_
  refine W.keep (F' := [(22, _), (7, _), (5, _), (4, _), (3, _)]) ⟨rfl, rfl, rfl, rfl, rfl, trivial⟩ ?_
  refine W.cond_false rfl ?_
  refine sSkip ?_
  refine sSeq ?_
  refine sSeq ?_
  refine W.region ?_
  refine OpsW.det (det_loadA ty30 rfl (List.Mem.tail _ (List.Mem.tail _ (List.Mem.tail _ (List.Mem.head _)))) rfl) rfl ?_
  refine OpsW.det (det_loadA ty30 rfl (List.Mem.tail _ (List.Mem.tail _ (List.Mem.head _))) rfl) rfl ?_
  refine OpsW.det (Det.to (det_eql30 rfl rfl) (congrArg Value.bool (yb h1))) rfl ?_
  refine sNext ?_
  refine W.keep (F' := [(56, _), (5, _), (4, _), (3, _)]) ⟨rfl, rfl, rfl, rfl, trivial⟩ ?_
  refine W.cond_true rfl ?_
  refine sSeq ?_
  refine W.region ?_
  refine OpsW.det (det_fieldAddr fl30_0 rfl) rfl ?_
  refine OpsW.det (det_loadA ty28 rfl (List.Mem.tail _ (List.Mem.tail _ (List.Mem.tail _ (List.Mem.head _)))) rfl) rfl ?_
  refine OpsW.det (det_call en56 rfl (fun w hb ho => Cu.Square_ok ho.blocks)) rfl ?_
  refine OpsW.fresh (fr_alloc z28) rfl fun b8 => ?_
  refine OpsW.store sz28 rfl rfl rfl rfl rfl (Upd.here) rfl ?_
  refine sNext ?_
  refine W.keep (F' := [(8, _), (5, _), (3, _)]) ⟨rfl, rfl, rfl, trivial⟩ ?_
  refine sSeq ?_
  refine W.draw mixed 47 [[], [0], [], [2], [0, 1, 2, 3], [0, 1, 2, 3, 4], [0, 1, 2, 3, 4, 5], [0, 1, 2, 3, 4, 5, 6], [0, 1, 2, 3, 4, 5], [0, 1, 2, 3, 4, 5, 8], [0, 1, 2, 3, 4, 5, 6, 7, 8, 9], [0, 1, 2, 3, 4, 5], [0, 1, 2, 3, 4, 5, 11], [0, 1, 2, 3, 4, 5], [0, 1, 2, 3, 4, 5, 13], [0, 1, 2, 3, 4, 5, 6, 7, 8, 9, 10, 11, 12, 13, 14], [0, 1, 2, 3, 4, 5, 6, 7, 8, 9, 10, 11, 12, 13, 14, 15], [0, 1, 2, 3, 4, 5], [0, 1, 2, 3, 4, 5], [0, 1, 2, 3, 4, 5, 6, 7, 8, 9, 10, 11, 12, 13, 14, 15, 16, 17, 18], [0, 1, 2, 3, 4, 5], [0, 1, 2, 3, 4, 5, 6, 7, 8, 9, 10, 11, 12, 13, 14, 15, 16, 17, 18, 19, 20], [0, 1, 2, 3, 4, 5], [0, 1, 2, 3, 4, 5, 22], [0, 1, 2, 3, 4, 5], [0, 1, 2, 3, 4, 5, 24], [0, 1, 2, 3, 4, 5, 6, 7, 8, 9, 10, 11, 12, 13, 14, 15, 16, 17, 18, 19, 20, 21, 22, 23, 24, 25], [0, 1, 2, 3, 4, 5, 6, 7, 8, 9, 10, 11, 12, 13, 14, 15, 16, 17, 18, 19, 20, 21, 22, 23, 24, 25, 26], [0, 1, 2, 3, 4, 5, 6, 7, 8, 9, 10, 11, 12, 13, 14, 15, 16, 17, 18, 19, 20, 21, 22, 23, 24, 25, 26, 27], [0, 1, 2, 3, 4, 5, 6, 7, 8, 9, 10, 11, 12, 13, 14, 15, 16, 17, 18, 19, 20, 21, 22, 23, 24, 25, 26, 27, 28], [0, 1, 2, 3, 4, 5, 6, 7, 8, 9, 10, 11, 12, 13, 14, 15, 16, 17, 18, 19, 20, 21, 22, 23, 24, 25, 26, 27, 28, 29], [0, 1, 2, 3, 4, 5, 6, 7, 8, 9, 10, 11, 12, 13, 14, 15, 16, 17, 18, 19, 20, 21, 22, 23, 24, 25, 26, 27, 28, 29, 30], [0, 1, 2, 3, 4, 5, 6, 7, 8, 9, 10, 11, 12, 13, 14, 15, 16, 17, 18, 19, 20, 21, 22, 23, 24, 25, 26, 27, 28, 29, 30, 31], [0, 1, 2, 3, 4, 5, 6, 7, 8, 9, 10, 11, 12, 13, 14, 15, 16, 17, 18, 19, 20, 21, 22, 23, 24, 25, 26, 27, 28, 29, 30], [0, 1, 2, 3, 4, 5, 6, 7, 8, 9, 10, 11, 12, 13, 14, 15, 16, 17, 18, 19, 20, 21, 22, 23, 24, 25, 26, 27, 28, 29, 30, 33], [0, 1, 2, 3, 4, 5, 6, 7, 8, 9, 10, 11, 12, 13, 14, 15, 16, 17, 18, 19, 20, 21, 22, 23, 24, 25, 26, 27, 28, 29, 30, 31, 32, 33, 34], [0, 1, 2, 3, 4, 5, 6, 7, 8, 9, 10, 11, 12, 13, 14, 15, 16, 17, 18, 19, 20, 21, 22, 23, 24, 25, 26, 27, 28, 29, 30, 31, 32, 33, 34, 35], [0, 1, 2, 3, 4, 5, 6, 7, 8, 9, 10, 11, 12, 13, 14, 15, 16, 17, 18, 19, 20, 21, 22, 23, 24, 25, 26, 27, 28, 29, 30, 31, 32, 33, 34, 35, 36], [0, 1, 2, 3, 4, 5, 6, 7, 8, 9, 10, 11, 12, 13, 14, 15, 16, 17, 18, 19, 20, 21, 22, 23, 24, 25, 26, 27, 28, 29, 30, 31, 32, 33, 34, 35, 36], [0, 1, 2, 3, 4, 5, 6, 7, 8, 9, 10, 11, 12, 13, 14, 15, 16, 17, 18, 19, 20, 21, 22, 23, 24, 25, 26, 27, 28, 29, 30, 31, 32, 33, 34, 35, 36, 37, 38], [0, 1, 2, 3, 4, 5, 6, 7, 8, 9, 10, 11, 12, 13, 14, 15, 16, 17, 18, 19, 20, 21, 22, 23, 24, 25, 26, 27, 28, 29, 30, 31, 32, 33, 34, 35, 36, 37, 38, 39], [0, 1, 2, 3, 4, 5, 6, 7, 8, 9, 10, 11, 12, 13, 14, 15, 16, 17, 18, 19, 20, 21, 22, 23, 24, 25, 26, 27, 28, 29, 30, 31, 32, 33, 34, 35, 36, 37, 38, 39, 40], [0, 1, 2, 3, 4, 5, 6, 7, 8, 9, 10, 11, 12, 13, 14, 15, 16, 17, 18, 19, 20, 21, 22, 23, 24, 25, 26, 27, 28, 29, 30, 31, 32, 33, 34, 35, 36, 37, 38, 39, 40, 41], [0, 1, 2, 3, 4, 5, 6, 7, 8, 9, 10, 11, 12, 13, 14, 15, 16, 17, 18, 19, 20, 21, 22, 23, 24, 25, 26, 27, 28, 29, 30, 31, 32, 33, 34, 35, 36, 37, 38, 39, 40, 41, 42], [0, 1, 2, 3, 4, 5, 6, 7, 8, 9, 10, 11, 12, 13, 14, 15, 16, 17, 18, 19, 20, 21, 22, 23, 24, 25, 26, 27, 28, 29, 30, 31, 32, 33, 34, 35, 36, 37, 38, 39, 40, 41, 42, 43], [0, 1, 2, 3, 4, 5, 6, 7, 8, 9, 10, 11, 12, 13, 14, 15, 16, 17, 18, 19, 20, 21, 22, 23, 24, 25, 26, 27, 28, 29, 30, 31, 32, 33, 34, 35, 36, 37, 38, 39, 40, 41, 42, 43, 44], [0, 1, 2, 3, 4, 5, 6, 7, 8, 9, 10, 11, 12, 13, 14, 15, 16, 17, 18, 19, 20, 21, 22, 23, 24, 25, 26, 27, 28, 29, 30, 31, 32, 33, 34, 35, 36, 37, 38, 39, 40, 41, 42, 43, 44, 45]] (cl_lt (by decide)) ?_
  refine HeadR.start (cl_lt (by decide)) ?_
  refine HeadR.det rfl (fun β hβ => (det_fieldAddr fl30_0 rfl)) ?_
  refine HeadR.det rfl (fun β hβ => (det_loadA ty28 rfl (List.Mem.tail _ (List.Mem.tail _ (List.Mem.head _))) rfl)) ?_
  refine HeadR.det rfl (fun β hβ => (det_fieldAddr fl30_0 rfl)) ?_
  refine HeadR.det rfl (fun β hβ => (det_loadA ty28 rfl (List.Mem.tail _ (List.Mem.tail _ (List.Mem.tail _ (List.Mem.tail _ (List.Mem.head _))))) rfl)) ?_
  refine HeadR.det rfl (fun β hβ => (Det.to (det_neq28 rfl rfl) (congrArg Value.bool (nb h2)))) ?_
  refine HeadR.det rfl (fun β hβ => (det_move rfl)) ?_
  refine HeadR.no rfl rfl (fun _ _ => rfl) ?_
  refine HeadR.no rfl rfl (fun _ _ => rfl) ?_
  refine HeadR.no rfl rfl (fun _ _ => rfl) ?_
  refine HeadR.no rfl rfl (fun _ _ => rfl) ?_
  refine HeadR.no rfl rfl (fun _ _ => rfl) ?_
  refine HeadR.no rfl rfl (fun _ _ => rfl) ?_
  refine HeadR.no rfl rfl (fun _ _ => rfl) ?_
  refine HeadR.no rfl rfl (fun _ _ => rfl) ?_
  refine HeadR.no rfl rfl (fun _ _ => rfl) ?_
  refine HeadR.no rfl rfl (fun _ _ => rfl) ?_
  refine HeadR.no rfl rfl (fun _ _ => rfl) ?_
  refine HeadR.no rfl rfl (fun _ _ => rfl) ?_
  refine HeadR.no rfl rfl (fun _ _ => rfl) ?_
  refine HeadR.no rfl rfl (fun _ _ => rfl) ?_
  refine HeadR.no rfl rfl (fun _ _ => rfl) ?_
  refine HeadR.no rfl rfl (fun _ _ => rfl) ?_
  refine HeadR.no rfl rfl (fun _ _ => rfl) ?_
  refine HeadR.no rfl rfl (fun _ _ => rfl) ?_
  refine HeadR.no rfl rfl (fun _ _ => rfl) ?_
  refine HeadR.no rfl rfl (fun _ _ => rfl) ?_
  refine HeadR.no rfl rfl (fun _ _ => rfl) ?_
  refine HeadR.no rfl rfl (fun _ _ => rfl) ?_
  refine HeadR.no rfl rfl (fun _ _ => rfl) ?_
  refine HeadR.det rfl (fun β hβ => (det_pick rfl rfl)) ?_
  refine HeadR.det rfl (fun β hβ => (det_move rfl)) ?_
  refine HeadR.yes rfl rfl (fun _ _ => rfl) (fun β hβ => (det_fieldAddr fl30_0 rfl)) ?_
  refine HeadR.yes rfl rfl (fun _ _ => rfl) (fun β hβ => (det_loadA ty28 rfl (List.Mem.tail _ (List.Mem.tail _ (List.Mem.head _))) rfl)) ?_
  refine HeadR.yes rfl rfl (fun _ _ => rfl) (fun β hβ => (det_fieldAddr fl30_0 rfl)) ?_
  refine HeadR.yes rfl rfl (fun _ _ => rfl) (fun β hβ => (det_loadA ty28 rfl (List.Mem.tail _ (List.Mem.tail _ (List.Mem.tail _ (List.Mem.tail _ (List.Mem.head _))))) rfl)) ?_
  refine HeadR.yes rfl rfl (fun _ _ => rfl) (fun β hβ => (Det.to (det_eql28 rfl rfl) (congrArg Value.bool (yb h2)))) ?_
  refine HeadR.yes rfl rfl (fun _ _ => rfl) (fun β hβ => (det_move rfl)) ?_
  refine HeadR.yes rfl rfl (fun _ _ => rfl) (fun β hβ => (det_loadA ty30 rfl (List.Mem.tail _ (List.Mem.tail _ (List.Mem.head _))) rfl)) ?_
  refine HeadR.yes rfl rfl (fun _ _ => rfl) (fun β hβ => (det_loadA ty30 rfl (List.Mem.tail _ (List.Mem.tail _ (List.Mem.tail _ (List.Mem.tail _ (List.Mem.head _))))) rfl)) ?_
  refine HeadR.yes rfl rfl (fun _ _ => rfl) (fun β hβ => (Det.to (det_eql30 rfl rfl) (congrArg Value.bool (yb h3)))) ?_
  refine HeadR.yes rfl rfl (fun _ _ => rfl) (fun β hβ => (det_pick rfl rfl)) ?_
  refine HeadR.yes rfl rfl (fun _ _ => rfl) (fun β hβ => (det_move rfl)) ?_
  refine HeadR.yes rfl rfl (fun _ _ => rfl) (fun β hβ => (det_loadA ty30 rfl (List.Mem.tail _ (List.Mem.tail _ (List.Mem.tail _ (List.Mem.tail _ (List.Mem.head _))))) rfl)) ?_
  refine HeadR.yes rfl rfl (fun _ _ => rfl) (fun β hβ => (Det.to (det_call en68 rfl (fun w hb ho => three_ok ho.blocks)) (congrArg Value.bool (h4)))) ?_
  refine HeadR.yes rfl rfl (fun _ _ => rfl) (fun β hβ => (det_pick rfl rfl)) ?_
  refine HeadR.det rfl (fun β hβ => (det_pick rfl rfl)) ?_
  refine HeadR.det rfl (fun β hβ => (det_assign rfl)) ?_
  refine HeadR.done ⟨by kernel_rfl, fun β hβ => ?_⟩
  refine OpsW.norm (F' := ((60, _) :: (61, _) :: (62, _) :: (63, _) :: (64, _) :: (65, _) :: (66, _) :: (67, _) :: (68, _) :: (69, _) :: (70, _) :: (71, _) :: (72, _) :: (73, _) :: (74, _) :: (75, _) :: (76, _) :: (77, _) :: (78, _) :: (79, _) :: (80, _) :: (81, _) :: (82, _) :: (83, _) :: (84, _) :: (85, _) :: (86, _) :: (87, _) :: (88, _) :: (89, _) :: (90, _) :: (91, _) :: (92, _) :: (93, _) :: (94, _) :: (95, _) :: (96, _) :: (97, _) :: (98, _) :: (99, _) :: (100, _) :: (101, _) :: (102, _) :: (103, _) :: (104, _) :: (105, _) :: (6, _) :: (8, _) :: (5, _) :: (3, _) :: [])) (H' := [(_, _), (_, _), (_, _), (_, _), (_, _)]) rfl rfl ?_
  refine sNext ?_
  refine W.keep (F' := [(6, _)]) ⟨rfl, trivial⟩ ?_
  refine sRet ?_
  exact done1 Tryd.results29 (rv_tmp rfl) rfl
set_option maxHeartbeats 2000000 in
theorem sidesF_ok {p q r : Pt} (h0 : p ≠ (0, 0)) (h0' : q ≠ (0, 0)) (h0'' : r ≠ (0, 0)) (h1 : p ≠ q) (h2 : p.1 ≠ q.1) (h3 : (q.1 - p.1) * (r.2 - p.2) = (r.1 - p.1) * (q.2 - p.2)) (h4 : lambdaB p q r = true) {w : World} (hG : Blocks (GH T) w)  : Vm.Pure Tryd.prog 29 #[encP p, encP q, encP r] w (.bool true) := by
  refine pure_of_W (n := 140) (args := [encP p, encP q, encP r]) Tryd.func29 rfl Tryd.ntmps29 (Nat.le_of_ble_eq_true rfl) hG ?_
  refine sStart ?_
  refine sSeq ?_
  refine W.region ?_
  refine OpsW.fresh (fr_box rfl rfl) rfl fun b3 => ?_
  refine OpsW.fresh (fr_box rfl rfl) rfl fun b4 => ?_
  refine OpsW.fresh (fr_box rfl rfl) rfl fun b5 => ?_
  refine OpsW.det (det_assign rfl) rfl ?_
  refine sNext ?_
  refine W.keep (F' := [(5, _), (4, _), (3, _)]) ⟨rfl, rfl, rfl, trivial⟩ ?_
  refine sSeq ?_
  refine W.region ?_
  refine OpsW.det (det_zero bz30) rfl ?_
  refine OpsW.fresh (fr_alloc z30) rfl fun b7 => ?_
  refine OpsW.store sz30 rfl rfl rfl rfl rfl (Upd.here) rfl ?_
  refine sNext ?_
  refine W.keep (F' := [(7, _), (5, _), (4, _), (3, _)]) ⟨rfl, rfl, rfl, rfl, trivial⟩ ?_
  refine sSeq ?_
  refine sSeq ?_
  refine W.region ?_
  refine OpsW.det (det_loadA ty30 rfl (List.Mem.tail _ (List.Mem.tail _ (List.Mem.tail _ (List.Mem.head _)))) rfl) rfl ?_
  refine OpsW.det (det_loadA ty30 rfl (List.Mem.head _) rfl) rfl ?_
  refine OpsW.det (Det.to (det_eql30 rfl rfl) (congrArg Value.bool (nf h0))) rfl ?_
  refine OpsW.det (det_move rfl) rfl ?_
  refine OpsW.guard_yes rfl rfl ?_
  refine OpsW.det (det_loadA ty30 rfl (List.Mem.tail _ (List.Mem.tail _ (List.Mem.head _))) rfl) rfl ?_
  refine OpsW.guard_yes rfl rfl ?_
  refine OpsW.det (det_loadA ty30 rfl (List.Mem.head _) rfl) rfl ?_
  refine OpsW.guard_yes rfl rfl ?_
  refine OpsW.det (Det.to (det_eql30 rfl rfl) (congrArg Value.bool (nf h0'))) rfl ?_
  refine OpsW.det (det_pick rfl rfl) rfl ?_
  refine OpsW.det (det_move rfl) rfl ?_
  refine OpsW.guard_yes rfl rfl ?_
  refine OpsW.det (det_loadA ty30 rfl (List.Mem.tail _ (List.Mem.head _)) rfl) rfl ?_
  refine OpsW.guard_yes rfl rfl ?_
  refine OpsW.det (det_loadA ty30 rfl (List.Mem.head _) rfl) rfl ?_
  refine OpsW.guard_yes rfl rfl ?_
  refine OpsW.det (Det.to (det_eql30 rfl rfl) (congrArg Value.bool (nf h0''))) rfl ?_
  refine OpsW.det (det_pick rfl rfl) rfl ?_
  refine sNext ?_
  refine W.keep (F' := [(22, _), (7, _), (5, _), (4, _), (3, _)]) ⟨rfl, rfl, rfl, rfl, rfl, trivial⟩ ?_
  refine W.cond_false rfl ?_
  refine sSkip ?_
  refine sSeq ?_
  refine sSeq ?_
  refine W.region ?_
  refine OpsW.det (det_loadA ty30 rfl (List.Mem.tail _ (List.Mem.tail _ (List.Mem.tail _ (List.Mem.head _)))) rfl) rfl ?_
  refine OpsW.det (det_loadA ty30 rfl (List.Mem.tail _ (List.Mem.tail _ (List.Mem.head _))) rfl) rfl ?_
  refine OpsW.det (Det.to (det_eql30 rfl rfl) (congrArg Value.bool (nf h1))) rfl ?_
  refine sNext ?_
  refine W.keep (F' := [(56, _), (5, _), (4, _), (3, _)]) ⟨rfl, rfl, rfl, rfl, trivial⟩ ?_
  refine W.cond_false rfl ?_
  refine sSkip ?_
  refine sSeq ?_
  refine sSeq ?_
  refine W.region ?_
  refine OpsW.det (det_fieldAddr fl30_0 rfl) rfl ?_
  refine OpsW.det (det_loadA ty28 rfl (List.Mem.tail _ (List.Mem.tail _ (List.Mem.tail _ (List.Mem.head _)))) rfl) rfl ?_
  refine OpsW.det (det_fieldAddr fl30_0 rfl) rfl ?_
  refine OpsW.det (det_loadA ty28 rfl (List.Mem.tail _ (List.Mem.tail _ (List.Mem.head _))) rfl) rfl ?_
  refine OpsW.det (Det.to (det_eql28 rfl rfl) (congrArg Value.bool (nf h2))) rfl ?_
  refine sNext ?_
  refine W.keep (F' := [(110, _), (5, _), (4, _), (3, _)]) ⟨rfl, rfl, rfl, rfl, trivial⟩ ?_
  refine W.cond_false rfl ?_
  refine sSkip ?_
  refine sSeq ?_
  refine W.draw mixed 30 [[], [0], [], [2], [0, 1, 2, 3], [], [5], [], [7], [0, 1, 2, 3, 4, 5, 6, 7, 8], [0, 1, 2, 3, 4, 5, 6, 7, 8, 9], [], [11], [], [13], [0, 1, 2, 3, 4, 5, 6, 7, 8, 9, 10, 11, 12, 13, 14], [], [16], [], [18], [0, 1, 2, 3, 4, 5, 6, 7, 8, 9, 10, 11, 12, 13, 14, 15, 16, 17, 18, 19], [0, 1, 2, 3, 4, 5, 6, 7, 8, 9, 10, 11, 12, 13, 14, 15, 16, 17, 18, 19, 20], [0, 1, 2, 3, 4, 5, 6, 7, 8, 9, 10, 11, 12, 13, 14, 15, 16, 17, 18, 19, 20, 21], [0, 1, 2, 3, 4, 5, 6, 7, 8, 9, 10, 11, 12, 13, 14, 15, 16, 17, 18, 19, 20, 21, 22], [0, 1, 2, 3, 4, 5, 6, 7, 8, 9, 10, 11, 12, 13, 14, 15, 16, 17, 18, 19, 20, 21, 22, 23], [0, 1, 2, 3, 4, 5, 6, 7, 8, 9, 10, 11, 12, 13, 14, 15, 16, 17, 18, 19, 20, 21, 22, 23], [0, 1, 2, 3, 4, 5, 6, 7, 8, 9, 10, 11, 12, 13, 14, 15, 16, 17, 18, 19, 20, 21, 22, 23], [0, 1, 2, 3, 4, 5, 6, 7, 8, 9, 10, 11, 12, 13, 14, 15, 16, 17, 18, 19, 20, 21, 22, 23, 24, 25, 26], [0, 1, 2, 3, 4, 5, 6, 7, 8, 9, 10, 11, 12, 13, 14, 15, 16, 17, 18, 19, 20, 21, 22, 23, 24, 25, 26, 27], [0, 1, 2, 3, 4, 5, 6, 7, 8, 9, 10, 11, 12, 13, 14, 15, 16, 17, 18, 19, 20, 21, 22, 23, 24, 25, 26, 27, 28]] (cl_lt (by decide)) ?_
  refine HeadR.start (cl_lt (by decide)) ?_
  refine HeadR.det rfl (fun β hβ => (det_fieldAddr fl30_0 rfl)) ?_
  refine HeadR.det rfl (fun β hβ => (det_loadA ty28 rfl (List.Mem.tail _ (List.Mem.tail _ (List.Mem.head _))) rfl)) ?_
  refine HeadR.det rfl (fun β hβ => (det_fieldAddr fl30_0 rfl)) ?_
  refine HeadR.det rfl (fun β hβ => (det_loadA ty28 rfl (List.Mem.tail _ (List.Mem.tail _ (List.Mem.tail _ (List.Mem.head _)))) rfl)) ?_
  refine HeadR.det rfl (fun β hβ => (det_call en67 rfl (fun w hb ho => Cu.Sub_ok ho.blocks))) ?_
  refine HeadR.det rfl (fun β hβ => (det_fieldAddr fl30_1 rfl)) ?_
  refine HeadR.det rfl (fun β hβ => (det_loadA ty28 rfl (List.Mem.tail _ (List.Mem.head _)) rfl)) ?_
  refine HeadR.det rfl (fun β hβ => (det_fieldAddr fl30_1 rfl)) ?_
  refine HeadR.det rfl (fun β hβ => (det_loadA ty28 rfl (List.Mem.tail _ (List.Mem.tail _ (List.Mem.tail _ (List.Mem.head _)))) rfl)) ?_
  refine HeadR.det rfl (fun β hβ => (det_call en67 rfl (fun w hb ho => Cu.Sub_ok ho.blocks))) ?_
  refine HeadR.det rfl (fun β hβ => (det_call en57 rfl (fun w hb ho => Cu.Mul_ok ho.blocks))) ?_
  refine HeadR.det rfl (fun β hβ => (det_fieldAddr fl30_0 rfl)) ?_
  refine HeadR.det rfl (fun β hβ => (det_loadA ty28 rfl (List.Mem.tail _ (List.Mem.head _)) rfl)) ?_
  refine HeadR.det rfl (fun β hβ => (det_fieldAddr fl30_0 rfl)) ?_
  refine HeadR.det rfl (fun β hβ => (det_loadA ty28 rfl (List.Mem.tail _ (List.Mem.tail _ (List.Mem.tail _ (List.Mem.head _)))) rfl)) ?_
  refine HeadR.det rfl (fun β hβ => (det_call en67 rfl (fun w hb ho => Cu.Sub_ok ho.blocks))) ?_
  refine HeadR.det rfl (fun β hβ => (det_fieldAddr fl30_1 rfl)) ?_
  refine HeadR.det rfl (fun β hβ => (det_loadA ty28 rfl (List.Mem.tail _ (List.Mem.tail _ (List.Mem.head _))) rfl)) ?_
  refine HeadR.det rfl (fun β hβ => (det_fieldAddr fl30_1 rfl)) ?_
  refine HeadR.det rfl (fun β hβ => (det_loadA ty28 rfl (List.Mem.tail _ (List.Mem.tail _ (List.Mem.tail _ (List.Mem.head _)))) rfl)) ?_
  refine HeadR.det rfl (fun β hβ => (det_call en67 rfl (fun w hb ho => Cu.Sub_ok ho.blocks))) ?_
  refine HeadR.det rfl (fun β hβ => (det_call en57 rfl (fun w hb ho => Cu.Mul_ok ho.blocks))) ?_
  refine HeadR.det rfl (fun β hβ => (Det.to (det_eql28 rfl rfl) (congrArg Value.bool (yb h3)))) ?_
  refine HeadR.det rfl (fun β hβ => (det_move rfl)) ?_
  refine HeadR.yes rfl rfl (fun _ _ => rfl) (fun β hβ => (det_loadA ty30 rfl (List.Mem.tail _ (List.Mem.tail _ (List.Mem.tail _ (List.Mem.head _)))) rfl)) ?_
  refine HeadR.yes rfl rfl (fun _ _ => rfl) (fun β hβ => (det_loadA ty30 rfl (List.Mem.tail _ (List.Mem.tail _ (List.Mem.head _))) rfl)) ?_
  refine HeadR.yes rfl rfl (fun _ _ => rfl) (fun β hβ => (det_loadA ty30 rfl (List.Mem.tail _ (List.Mem.head _)) rfl)) ?_
  refine HeadR.yes rfl rfl (fun _ _ => rfl) (fun β hβ => (Det.to (det_call en69 rfl (fun w hb ho => lambda_ok ho.blocks)) (congrArg Value.bool (h4)))) ?_
  refine HeadR.det rfl (fun β hβ => (det_pick rfl rfl)) ?_
  refine HeadR.det rfl (fun β hβ => (det_assign rfl)) ?_
  refine HeadR.done ⟨by kernel_rfl, fun β hβ => ?_⟩
  refine OpsW.norm (F' := ((111, _) :: (112, _) :: (113, _) :: (114, _) :: (115, _) :: (116, _) :: (117, _) :: (118, _) :: (119, _) :: (120, _) :: (121, _) :: (122, _) :: (123, _) :: (124, _) :: (125, _) :: (126, _) :: (127, _) :: (128, _) :: (129, _) :: (130, _) :: (131, _) :: (132, _) :: (133, _) :: (134, _) :: (135, _) :: (136, _) :: (137, _) :: (138, _) :: (139, _) :: (6, _) :: (110, _) :: (5, _) :: (4, _) :: (3, _) :: [])) (H' := [(_, _), (_, _), (_, _), (_, _)]) rfl rfl ?_
  refine sNext ?_
  refine W.keep (F' := [(6, _)]) ⟨rfl, trivial⟩ ?_
  refine sRet ?_
  exact done1 Tryd.results29 (rv_tmp rfl) rfl
theorem wild_ok {n : Nat} (hn : n < 65536) {w : World} (hG : Blocks (GH T) w)  : Vm.Pure Tryd.prog 24 #[.int .u16 (n : Nat)] w (encP (wild n)) := by
  refine pure_of_W (n := 38) (args := [.int .u16 (n : Nat)]) Tryd.func24 rfl Tryd.ntmps24 (Nat.le_of_ble_eq_true rfl) hG ?_
  refine sStart ?_
  refine sSeq ?_
  refine W.region ?_
  refine OpsW.fresh (fr_alloc z30r) rfl fun b2 => ?_
  refine sNext ?_
  refine sSeq ?_
  refine sSeq ?_
  refine W.region ?_
  refine OpsW.det (det_move rfl) rfl ?_
  refine OpsW.det ((det_conv u39 u25 rfl).to (v := u64 n) (by rw [wrap_u64 (by omega)]; rfl)) rfl ?_
  refine OpsW.det (det_assign rfl) rfl ?_
  refine sNext ?_
  refine W.keep (F' := [(3, _), (2, _), (0, _)]) ⟨rfl, rfl, rfl, trivial⟩ ?_
  refine sBlock ?_
  refine sLoop (σ := Nat) (fun k => [(3, u64 k), (2, .pointer (some ⟨b2, 0, none⟩)), (0, .int .u16 (n : Nat))]) (fun k => [(b2, blk (cellsP (0, 0)) 30)]) (fun k => n ≤ k ∧ k ≤ n + 200 ∧ wild n = wfrom (n + 200 - k) k) (fun k => n + 200 - k) n ⟨Nat.le_refl _, Nat.le_add_right _ _, by rw [Nat.add_sub_cancel_left]; rfl⟩ ⟨rfl, rfl, rfl, trivial⟩ (List.Sublist.refl _) ?_
  rintro k ⟨hk1, hk2, hw⟩
  refine sSeq ?_
  refine sSeq ?_
  refine W.region ?_
  refine OpsW.det (det_move rfl) rfl ?_
  refine OpsW.det (det_move rfl) rfl ?_
  refine OpsW.det ((det_conv u39 u25 rfl).to (v := u64 n) (by rw [wrap_u64 (by omega)]; rfl)) rfl ?_
  refine OpsW.det ((det_add (a := (n : Int)) (b := 200) rfl rfl).to (v := u64 (n + 200)) (by rw [wrap_u64 (by omega)]; rfl)) rfl ?_
  refine OpsW.det ((det_lss (a := ((k : Nat) : Int)) (b := ((n + 200 : Nat) : Int)) rfl rfl)) rfl ?_
  refine sNext ?_
  refine W.keep (F' := [(13, _), (3, _), (2, _), (0, _)]) ⟨rfl, rfl, rfl, rfl, trivial⟩ ?_
  refine W.cond rfl (fun hc13 => ?_) (fun hc13 => ?_)
  · skip
    have hlt : k < n + 200 := by have h := hc13; simp only [decide_eq_true_eq] at h; omega
    refine sSkip ?_
    refine sSeq ?_
    refine sBlock ?_
    refine sSeq ?_
    refine W.region ?_
    refine OpsW.det (det_move rfl) rfl ?_
    refine OpsW.det (det_call en59 rfl (fun w hb ho => Of_ok (n := k) (by omega) ho.blocks)) rfl ?_
    refine OpsW.fresh (fr_alloc z28) rfl fun b4 => ?_
    refine OpsW.store sz28 rfl rfl rfl rfl rfl (Upd.here) rfl ?_
    refine sNext ?_
    refine W.keep (F' := [(4, _), (3, _), (2, _), (0, _)]) ⟨rfl, rfl, rfl, rfl, trivial⟩ ?_
    refine sSeq ?_
    refine W.draw mixed 11 [[], [0], [], [0, 1, 2], [0, 1, 2, 3], [0, 1, 2, 3, 4], [0, 1, 2, 3, 4, 5], [0, 1, 2, 3, 4, 5, 6], [0, 1, 2, 3, 4, 5, 6, 7], [0, 1, 2, 3, 4, 5, 6, 7], [], [0, 1, 2, 3, 4, 5, 6, 7, 8, 10], [0, 1, 2, 3, 4, 5, 6, 7, 8, 9, 10, 11]] (cl_lt (by decide)) ?_
    refine HeadR.start (cl_lt (by decide)) ?_
    refine HeadR.det rfl (fun β hβ => (det_loadA ty28 rfl (List.Mem.head _) rfl)) ?_
    refine HeadR.det rfl (fun β hβ => (det_call en56 rfl (fun w hb ho => Cu.Square_ok ho.blocks))) ?_
    refine HeadR.det rfl (fun β hβ => (det_loadA ty28 rfl (List.Mem.head _) rfl)) ?_
    refine HeadR.det rfl (fun β hβ => (det_call en57 rfl (fun w hb ho => Cu.Mul_ok ho.blocks))) ?_
    refine HeadR.det rfl (fun β hβ => (det_call en59 rfl (fun w hb ho => Of_ok (n := 4) (by decide) ho.blocks))) ?_
    refine HeadR.det rfl (fun β hβ => (det_call en33 rfl (fun w hb ho => Cu.Add_ok ho.blocks))) ?_
    refine HeadR.det rfl (fun β hβ => (det_call en60 rfl (fun w hb ho => Cu.Sqrt_ok ho.blocks))) ?_
    refine HeadR.det rfl (fun β hβ => (det_move rfl)) ?_
    refine HeadR.det rfl (fun β hβ => (det_extract rfl rfl)) ?_
    refine HeadR.flt rfl (fun _ _ _ _ hs => flt_extract hs rfl rfl) ?_
    refine HeadR.fresh rfl (fun β hβ => (fr_alloc z28).new) ?_
    refine HeadR.done ⟨by kernel_rfl, fun β hβ => ?_⟩
    refine OpsW.norm (F' := [(19, _), (20, _), (21, _), (22, _), (23, _), (24, _), (25, _), (18, _), (26, _), (27, _), (5, .pointer (some ⟨(β 5).1, 0, none⟩)), (4, _), (3, _), (2, _), (0, _)]) (H' := [(_, _), (_, _), (_, _)]) rfl rfl ?_
    generalize (β 5).1 = b5
    refine OpsW.store sz28 rfl rfl rfl rfl rfl (Upd.here) rfl ?_
    refine OpsW.det (det_assign rfl) rfl ?_
    refine sNext ?_
    refine W.keep (F' := [(6, _), (5, _), (4, _), (3, _), (2, _), (0, _)]) ⟨rfl, rfl, rfl, rfl, rfl, rfl, trivial⟩ ?_
    refine sSeq ?_
    rcases hb : (sqrtF (Zp.of k * Zp.of k * Zp.of k + Zp.of 4)).2 with _ | _
    · skip
      replace hb : (sqrtF (wcube k)).2 = false := hb
      refine W.region ?_
      refine OpsW.det (det_move rfl) rfl ?_
      refine OpsW.det (det_move rfl) rfl ?_
      refine OpsW.guard_no rfl rfl rfl ?_
      refine OpsW.guard_no rfl rfl rfl ?_
      refine OpsW.guard_no rfl rfl rfl ?_
      refine OpsW.det (det_pick rfl rfl) rfl ?_
      refine sNext ?_
      refine W.keep (F' := [(33, _), (5, _), (4, _), (3, _), (2, _), (0, _)]) ⟨rfl, rfl, rfl, rfl, rfl, rfl, trivial⟩ ?_
      refine W.cond_false rfl ?_
      refine sSkip0 ?_
      refine bNext ?_
      refine W.keep (F' := [(3, _), (2, _), (0, _)]) ⟨rfl, rfl, rfl, trivial⟩ ?_
      refine W.region ?_
      refine OpsW.det (det_move rfl) rfl ?_
      refine OpsW.det ((det_add (a := (k : Int)) (b := 1) rfl rfl).to (v := u64 (k + 1)) (by rw [wrap_u64 (by omega)]; rfl)) rfl ?_
      refine OpsW.det (det_assign rfl) rfl ?_
      refine sLast ?_
      exact rEnd (k + 1) ⟨by omega, by omega, wild_no hlt hw hb⟩ ⟨rfl, rfl, rfl, trivial⟩ (List.Sublist.cons _ (List.Sublist.cons _ (List.Sublist.refl _))) (by omega)
    · skip
      replace hb : (sqrtF (wcube k)).2 = true := hb
      refine W.region ?_
      refine OpsW.det (det_move rfl) rfl ?_
      refine OpsW.det (det_move rfl) rfl ?_
      refine OpsW.guard_yes rfl rfl ?_
      refine OpsW.det (det_loadA ty28 rfl (List.Mem.head _) rfl) rfl ?_
      refine OpsW.guard_yes rfl rfl ?_
      refine OpsW.det (det_call en61 rfl (fun w hb ho => Cu.Zero_ok ho.blocks)) rfl ?_
      refine OpsW.guard_yes rfl rfl ?_
      refine OpsW.det (det_not rfl) rfl ?_
      refine OpsW.det (det_pick rfl rfl) rfl ?_
      refine sNext ?_
      refine W.keep (F' := [(33, _), (5, _), (4, _), (3, _), (2, _), (0, _)]) ⟨rfl, rfl, rfl, rfl, rfl, rfl, trivial⟩ ?_
      refine W.cond rfl (fun hc33 => ?_) (fun hc33 => ?_)
      · skip
        refine sSeq ?_
        refine W.region ?_
        refine OpsW.det (det_loadA ty28 rfl (List.Mem.tail _ (List.Mem.head _)) rfl) rfl ?_
        refine OpsW.det (det_loadA ty28 rfl (List.Mem.head _) rfl) rfl ?_
        refine OpsW.det (det_build rfl bld30) rfl ?_
        refine OpsW.store sz30 rfl rfl rfl rfl rfl (Upd.there (Upd.there (Upd.here))) rfl ?_
        refine sNext ?_
        refine W.keep (F' := [(2, _)]) ⟨rfl, trivial⟩ ?_
        refine sRet ?_
        refine retBlk ?_
        refine retLoop ?_
        refine retBlk ?_
        exact done1 Tryd.results24 (rv_cellA ty30 rfl (List.Mem.tail _ (List.Mem.tail _ (List.Mem.head _))) rfl) (congrArg encP (wild_hit hlt hw hb hc33))
      · skip
        refine sSkip0 ?_
        refine bNext ?_
        refine W.keep (F' := [(3, _), (2, _), (0, _)]) ⟨rfl, rfl, rfl, trivial⟩ ?_
        refine W.region ?_
        refine OpsW.det (det_move rfl) rfl ?_
        refine OpsW.det ((det_add (a := (k : Int)) (b := 1) rfl rfl).to (v := u64 (k + 1)) (by rw [wrap_u64 (by omega)]; rfl)) rfl ?_
        refine OpsW.det (det_assign rfl) rfl ?_
        refine sLast ?_
        exact rEnd (k + 1) ⟨by omega, by omega, wild_zero hlt hw hc33⟩ ⟨rfl, rfl, rfl, trivial⟩ (List.Sublist.cons _ (List.Sublist.cons _ (List.Sublist.refl _))) (by omega)
  · skip
    have hge : ¬ k < n + 200 := by have h := hc13; simp only [decide_eq_false_iff_not] at h; omega
    refine sExit ?_
    refine xLoop ?_
    refine xHere ?_
    refine W.keep (F' := [(2, _)]) ⟨rfl, trivial⟩ ?_
    refine sSeq ?_
    refine W.region ?_
    refine OpsW.det (det_zero bz30) rfl ?_
    refine OpsW.store sz30 rfl rfl rfl rfl rfl (Upd.here) rfl ?_
    refine sNext ?_
    refine W.keep (F' := [(2, _)]) ⟨rfl, trivial⟩ ?_
    refine sRet ?_
    exact done1 Tryd.results24 (rv_cellA ty30 rfl (List.Mem.head _) rfl) (congrArg encP (wild_end hge hk2 hw))

end Go.Cu

/- The first group's laws: G1Scalars: the walk. Conditions: the rules that the points obey. -/
namespace Go.Cu
open Go Go.Vm Go.RowKit Go.Proofs 
attribute [local irreducible] W OpsW Det Fresh New Writes Vm.Pure Makes Changes ExternTo BuildTo ZeroTo FieldTo IndexTo BinTo SliceTo Vm.Enters
set_option linter.unusedVariables false
set_option linter.unusedSimpArgs false
variable {T : Nat → TypeId × Nat × Nat}

structure ScalarsOk (x y : Fs) (p : Pt) : Prop where
  r1 : padd (pmul p x) (pmul p y) = pmul p (x + y)
  r2 : pmul (pmul p x) y = pmul p (x * y)
  r3 : pneg (pmul p x) = pmul p (0 - x)
  r4 : pmul p (Zp.of 1) = p
  r5 : pmul p 0 = (0, 0)
  r6 : inB p = true
  r7 : onB (pmul p x) = true

theorem en31 : Vm.Enters Tryd.prog 31 := Vm.Enters.of fun _ _ => by kernel_rfl
set_option maxHeartbeats 2000000 in
theorem G1Scalars_ok {G' : Hp} {va vb vc : Value} {la lb lc : List Nat} (ha : Bs G' va la) (hb' : Bs G' vb lb) (hc' : Bs G' vc lc) (hh : HeadOk) (hr : ScalarsOk (wide la) (wide lb) (gp lc)) {w : World} (hG : Blocks (G' ++ GH T) w)  : Vm.Pure Tryd.prog 7 #[va, vb, vc] w (.bool true) := by
  obtain ⟨aa, ca, hva⟩ := ha.shape
  obtain ⟨ab, cb, hvb⟩ := hb'.shape
  obtain ⟨ac, cc, hvc⟩ := hc'.shape
  refine pure_of_W (n := 83) (args := [va, vb, vc]) Tryd.func7 rfl Tryd.ntmps7 (Nat.le_of_ble_eq_true rfl) hG ?_
  refine sStart ?_
  refine sSeq ?_
  subst hva
  subst hvb
  subst hvc
  refine W.region ?_
  refine OpsW.det (det_assign rfl) rfl ?_
  refine sNext ?_
  refine W.keep (F' := [(0, _), (1, _), (2, _)]) ⟨rfl, rfl, rfl, trivial⟩ ?_
  refine sSeq ?_
  refine sSeq ?_
  refine W.region ?_
  refine OpsW.det (det_call en15 rfl (fun w hb ho => head_ok hh (fun p hp => ho.look (List.mem_append_right _ hp)))) rfl ?_
  refine OpsW.det (det_not rfl) rfl ?_
  refine sNext ?_
  refine W.keep (F' := [(11, _), (0, _), (1, _), (2, _)]) ⟨rfl, rfl, rfl, rfl, trivial⟩ ?_
  refine W.cond_false rfl ?_
  refine sSkip ?_
  refine sSeq ?_
  refine sSeq ?_
  refine W.region ?_
  refine OpsW.det (det_move rfl) rfl ?_
  refine OpsW.det (det_move rfl) rfl ?_
  refine OpsW.det (det_move rfl) rfl ?_
  refine OpsW.det (det_call en16 rfl (fun w hb ho => long_ok (fun p hp => ho.look (List.mem_append_right _ hp)))) rfl ?_
  refine sNext ?_
  refine W.keep (F' := [(15, _), (0, _), (1, _), (2, _)]) ⟨rfl, rfl, rfl, rfl, trivial⟩ ?_
  refine W.cond rfl (fun hc15 => ?_) (fun hc15 => ?_)
  · skip
    refine sSeq ?_
    refine W.region ?_
    refine OpsW.det (det_assign rfl) rfl ?_
    refine sNext ?_
    refine W.keep (F' := [(6, _)]) ⟨rfl, trivial⟩ ?_
    refine sRet ?_
    exact done1 Tryd.results7 (rv_tmp rfl) rfl
  · skip
    have hl := not_long hc15
    refine sSkip ?_
    refine sSeq ?_
    refine W.region ?_
    refine OpsW.det (det_move rfl) rfl ?_
    refine OpsW.det (det_call en19 rfl (fun w hb ho => scalar_ok (G' := G') ha (Nat.le_trans hl.1 (by decide)) ho.blocks)) rfl ?_
    refine OpsW.fresh (fr_alloc z35r) rfl fun b7 => ?_
    refine OpsW.store sz35 rfl rfl rfl rfl rfl (Upd.here) rfl ?_
    refine sNext ?_
    refine W.keep (F' := [(7, _), (1, _), (2, _)]) ⟨rfl, rfl, rfl, trivial⟩ ?_
    refine sSeq ?_
    refine W.region ?_
    refine OpsW.det (det_move rfl) rfl ?_
    refine OpsW.det (det_call en19 rfl (fun w hb ho => scalar_ok (G' := G') hb' (Nat.le_trans hl.2.1 (by decide)) ho.blocks)) rfl ?_
    refine OpsW.fresh (fr_alloc z35r) rfl fun b8 => ?_
    refine OpsW.store sz35 rfl rfl rfl rfl rfl (Upd.here) rfl ?_
    refine sNext ?_
    refine W.keep (F' := [(8, _), (7, _), (2, _)]) ⟨rfl, rfl, rfl, trivial⟩ ?_
    refine sSeq ?_
    refine W.region ?_
    refine OpsW.det (det_call en17 rfl (fun w hb ho => Gen_ok (fun p hp => ho.look (List.mem_append_right _ hp)))) rfl ?_
    refine OpsW.det (det_move rfl) rfl ?_
    refine OpsW.det (det_call en19 rfl (fun w hb ho => scalar_ok (G' := G') hc' (Nat.le_trans hl.2.2 (by decide)) ho.blocks)) rfl ?_
    refine OpsW.det (det_call en18 rfl (fun w hb ho => PMul_ok (fun p hp => ho.look (List.mem_append_right _ hp)))) rfl ?_
    refine OpsW.fresh (fr_alloc z30) rfl fun b9 => ?_
    refine OpsW.store sz30 rfl rfl rfl rfl rfl (Upd.here) rfl ?_
    refine sNext ?_
    refine W.keep (F' := [(9, _), (8, _), (7, _)]) ⟨rfl, rfl, rfl, trivial⟩ ?_
    refine sSeq ?_
    refine sSeq ?_
    refine W.draw mixed 37 [[], [], [0, 1], [], [], [0, 1, 2, 3, 4], [0, 1, 2, 3, 4, 5], [], [], [], [0, 1, 2, 3, 4, 5, 6, 8, 9], [0, 1, 2, 3, 4, 5, 6, 7, 8, 9, 10], [0, 1, 2, 3, 4, 5, 6, 7, 8, 9, 10, 11], [0, 1, 2, 3, 4, 5, 6, 7, 8, 9, 10, 11, 12], [0, 1, 2, 3, 4, 5, 6, 7, 8, 9, 10, 11, 12, 13], [0, 1, 2, 3, 4, 5, 6, 7, 8, 9, 10, 11, 12, 13], [0, 1, 2, 3, 4, 5, 6, 7, 8, 9, 10, 11, 12, 13, 14, 15], [0, 1, 2, 3, 4, 5, 6, 7, 8, 9, 10, 11, 12, 13], [0, 1, 2, 3, 4, 5, 6, 7, 8, 9, 10, 11, 12, 13, 14, 15, 16, 17], [0, 1, 2, 3, 4, 5, 6, 7, 8, 9, 10, 11, 12, 13], [0, 1, 2, 3, 4, 5, 6, 7, 8, 9, 10, 11, 12, 13], [0, 1, 2, 3, 4, 5, 6, 7, 8, 9, 10, 11, 12, 13], [0, 1, 2, 3, 4, 5, 6, 7, 8, 9, 10, 11, 12, 13, 14, 15, 16, 17, 18, 20, 21], [0, 1, 2, 3, 4, 5, 6, 7, 8, 9, 10, 11, 12, 13, 14, 15, 16, 17, 18, 19, 20, 21, 22], [0, 1, 2, 3, 4, 5, 6, 7, 8, 9, 10, 11, 12, 13, 14, 15, 16, 17, 18, 19, 20, 21, 22, 23], [0, 1, 2, 3, 4, 5, 6, 7, 8, 9, 10, 11, 12, 13, 14, 15, 16, 17, 18, 19, 20, 21, 22, 23, 24], [0, 1, 2, 3, 4, 5, 6, 7, 8, 9, 10, 11, 12, 13, 14, 15, 16, 17, 18, 19, 20, 21, 22, 23, 24, 25], [0, 1, 2, 3, 4, 5, 6, 7, 8, 9, 10, 11, 12, 13, 14, 15, 16, 17, 18, 19, 20, 21, 22, 23, 24, 25, 26], [0, 1, 2, 3, 4, 5, 6, 7, 8, 9, 10, 11, 12, 13, 14, 15, 16, 17, 18, 19, 20, 21, 22, 23, 24, 25, 26], [0, 1, 2, 3, 4, 5, 6, 7, 8, 9, 10, 11, 12, 13, 14, 15, 16, 17, 18, 19, 20, 21, 22, 23, 24, 25, 26, 27, 28], [0, 1, 2, 3, 4, 5, 6, 7, 8, 9, 10, 11, 12, 13, 14, 15, 16, 17, 18, 19, 20, 21, 22, 23, 24, 25, 26, 27, 28, 29], [0, 1, 2, 3, 4, 5, 6, 7, 8, 9, 10, 11, 12, 13, 14, 15, 16, 17, 18, 19, 20, 21, 22, 23, 24, 25, 26], [0, 1, 2, 3, 4, 5, 6, 7, 8, 9, 10, 11, 12, 13, 14, 15, 16, 17, 18, 19, 20, 21, 22, 23, 24, 25, 26], [0, 1, 2, 3, 4, 5, 6, 7, 8, 9, 10, 11, 12, 13, 14, 15, 16, 17, 18, 19, 20, 21, 22, 23, 24, 25, 26, 27, 28, 29, 30, 32], [0, 1, 2, 3, 4, 5, 6, 7, 8, 9, 10, 11, 12, 13, 14, 15, 16, 17, 18, 19, 20, 21, 22, 23, 24, 25, 26, 27, 28, 29, 30, 31, 32, 33], [0, 1, 2, 3, 4, 5, 6, 7, 8, 9, 10, 11, 12, 13, 14, 15, 16, 17, 18, 19, 20, 21, 22, 23, 24, 25, 26, 27, 28, 29, 30, 31, 32, 33, 34], [0, 1, 2, 3, 4, 5, 6, 7, 8, 9, 10, 11, 12, 13, 14, 15, 16, 17, 18, 19, 20, 21, 22, 23, 24, 25, 26, 27, 28, 29, 30, 31, 32, 33, 34, 35]] (cl_lt (by decide)) ?_
    refine HeadR.start (cl_lt (by decide)) ?_
    refine HeadR.det rfl (fun β hβ => (det_loadA ty30 rfl (List.Mem.head _) rfl)) ?_
    refine HeadR.det rfl (fun β hβ => (det_loadA ty35 rfl (List.Mem.tail _ (List.Mem.tail _ (List.Mem.head _))) rfl)) ?_
    refine HeadR.det rfl (fun β hβ => (det_call en18 rfl (fun w hb ho => PMul_ok (fun p hp => ho.look (List.mem_append_right _ hp))))) ?_
    refine HeadR.det rfl (fun β hβ => (det_loadA ty30 rfl (List.Mem.head _) rfl)) ?_
    refine HeadR.det rfl (fun β hβ => (det_loadA ty35 rfl (List.Mem.tail _ (List.Mem.head _)) rfl)) ?_
    refine HeadR.det rfl (fun β hβ => (det_call en18 rfl (fun w hb ho => PMul_ok (fun p hp => ho.look (List.mem_append_right _ hp))))) ?_
    refine HeadR.det rfl (fun β hβ => (det_call en20 rfl (fun w hb ho => PAdd_ok (fun p hp => ho.look (List.mem_append_right _ hp))))) ?_
    refine HeadR.det rfl (fun β hβ => (det_loadA ty30 rfl (List.Mem.head _) rfl)) ?_
    refine HeadR.det rfl (fun β hβ => (det_loadA ty35 rfl (List.Mem.tail _ (List.Mem.tail _ (List.Mem.head _))) rfl)) ?_
    refine HeadR.det rfl (fun β hβ => (det_loadA ty35 rfl (List.Mem.tail _ (List.Mem.head _)) rfl)) ?_
    refine HeadR.det rfl (fun β hβ => (det_call en28 rfl (fun w hb ho => Cu.RAdd_ok (fun p hp => ho.look (List.mem_append_right _ hp))))) ?_
    refine HeadR.det rfl (fun β hβ => (det_call en18 rfl (fun w hb ho => PMul_ok (fun p hp => ho.look (List.mem_append_right _ hp))))) ?_
    refine HeadR.det rfl (fun β hβ => (Det.to (det_neq30 rfl rfl) (congrArg Value.bool (nb hr.r1)))) ?_
    refine HeadR.det rfl (fun β hβ => (det_move rfl)) ?_
    refine HeadR.yes rfl rfl (fun _ _ => rfl) (fun β hβ => (det_loadA ty30 rfl (List.Mem.head _) rfl)) ?_
    refine HeadR.yes rfl rfl (fun _ _ => rfl) (fun β hβ => (det_loadA ty35 rfl (List.Mem.tail _ (List.Mem.tail _ (List.Mem.head _))) rfl)) ?_
    refine HeadR.yes rfl rfl (fun _ _ => rfl) (fun β hβ => (det_call en18 rfl (fun w hb ho => PMul_ok (fun p hp => ho.look (List.mem_append_right _ hp))))) ?_
    refine HeadR.yes rfl rfl (fun _ _ => rfl) (fun β hβ => (det_loadA ty35 rfl (List.Mem.tail _ (List.Mem.head _)) rfl)) ?_
    refine HeadR.yes rfl rfl (fun _ _ => rfl) (fun β hβ => (det_call en18 rfl (fun w hb ho => PMul_ok (fun p hp => ho.look (List.mem_append_right _ hp))))) ?_
    refine HeadR.yes rfl rfl (fun _ _ => rfl) (fun β hβ => (det_loadA ty30 rfl (List.Mem.head _) rfl)) ?_
    refine HeadR.yes rfl rfl (fun _ _ => rfl) (fun β hβ => (det_loadA ty35 rfl (List.Mem.tail _ (List.Mem.tail _ (List.Mem.head _))) rfl)) ?_
    refine HeadR.yes rfl rfl (fun _ _ => rfl) (fun β hβ => (det_loadA ty35 rfl (List.Mem.tail _ (List.Mem.head _)) rfl)) ?_
    refine HeadR.yes rfl rfl (fun _ _ => rfl) (fun β hβ => (det_call en30 rfl (fun w hb ho => Cu.RMul_ok (fun p hp => ho.look (List.mem_append_right _ hp))))) ?_
    refine HeadR.yes rfl rfl (fun _ _ => rfl) (fun β hβ => (det_call en18 rfl (fun w hb ho => PMul_ok (fun p hp => ho.look (List.mem_append_right _ hp))))) ?_
    refine HeadR.yes rfl rfl (fun _ _ => rfl) (fun β hβ => (Det.to (det_neq30 rfl rfl) (congrArg Value.bool (nb hr.r2)))) ?_
    refine HeadR.det rfl (fun β hβ => (det_pick rfl rfl)) ?_
    refine HeadR.det rfl (fun β hβ => (det_move rfl)) ?_
    refine HeadR.yes rfl rfl (fun _ _ => rfl) (fun β hβ => (det_loadA ty30 rfl (List.Mem.head _) rfl)) ?_
    refine HeadR.yes rfl rfl (fun _ _ => rfl) (fun β hβ => (det_loadA ty35 rfl (List.Mem.tail _ (List.Mem.tail _ (List.Mem.head _))) rfl)) ?_
    refine HeadR.yes rfl rfl (fun _ _ => rfl) (fun β hβ => (det_call en18 rfl (fun w hb ho => PMul_ok (fun p hp => ho.look (List.mem_append_right _ hp))))) ?_
    refine HeadR.yes rfl rfl (fun _ _ => rfl) (fun β hβ => (det_call en22 rfl (fun w hb ho => PNeg_ok (fun p hp => ho.look (List.mem_append_right _ hp))))) ?_
    refine HeadR.yes rfl rfl (fun _ _ => rfl) (fun β hβ => (det_loadA ty30 rfl (List.Mem.head _) rfl)) ?_
    refine HeadR.yes rfl rfl (fun _ _ => rfl) (fun β hβ => (det_loadA ty35 rfl (List.Mem.tail _ (List.Mem.tail _ (List.Mem.head _))) rfl)) ?_
    refine HeadR.yes rfl rfl (fun _ _ => rfl) (fun β hβ => (det_call en27 rfl (fun w hb ho => Cu.RNeg_ok (fun p hp => ho.look (List.mem_append_right _ hp))))) ?_
    refine HeadR.yes rfl rfl (fun _ _ => rfl) (fun β hβ => (det_call en18 rfl (fun w hb ho => PMul_ok (fun p hp => ho.look (List.mem_append_right _ hp))))) ?_
    refine HeadR.yes rfl rfl (fun _ _ => rfl) (fun β hβ => (Det.to (det_neq30 rfl rfl) (congrArg Value.bool (nb hr.r3)))) ?_
    refine HeadR.det rfl (fun β hβ => (det_pick rfl rfl)) ?_
    refine HeadR.done ⟨by kernel_rfl, fun β hβ => ?_⟩
    refine OpsW.norm (F' := ((24, _) :: (25, _) :: (26, _) :: (27, _) :: (28, _) :: (29, _) :: (30, _) :: (31, _) :: (32, _) :: (33, _) :: (34, _) :: (35, _) :: (36, _) :: (37, _) :: (38, _) :: (39, _) :: (40, _) :: (41, _) :: (42, _) :: (43, _) :: (44, _) :: (45, _) :: (46, _) :: (47, _) :: (48, _) :: (49, _) :: (50, _) :: (51, _) :: (52, _) :: (53, _) :: (54, _) :: (55, _) :: (56, _) :: (57, _) :: (58, _) :: (59, _) :: (60, _) :: (9, _) :: (8, _) :: (7, _) :: [])) (H' := [(_, _), (_, _), (_, _)]) rfl rfl ?_
    refine sNext ?_
    refine W.keep (F' := [(60, _), (9, _), (7, _)]) ⟨rfl, rfl, rfl, trivial⟩ ?_
    refine W.cond_false rfl ?_
    refine sSkip ?_
    refine sSeq ?_
    refine W.draw mixed 23 [[], [], [0, 1], [], [0, 1, 2, 3], [0, 1, 2, 3, 4], [0, 1, 2, 3, 4, 5], [0, 1, 2, 3, 4, 5], [0, 1, 2, 3, 4, 5, 6, 7], [0, 1, 2, 3, 4, 5], [0, 1, 2, 3, 4, 5, 6, 7, 8, 9], [0, 1, 2, 3, 4, 5, 6, 7, 8, 9, 10], [0, 1, 2, 3, 4, 5, 6, 7, 8, 9, 10, 11], [0, 1, 2, 3, 4, 5, 6, 7, 8, 9, 10, 11, 12], [0, 1, 2, 3, 4, 5, 6, 7, 8, 9, 10, 11, 12, 13], [0, 1, 2, 3, 4, 5, 6, 7, 8, 9, 10, 11, 12, 13, 14], [0, 1, 2, 3, 4, 5, 6, 7, 8, 9, 10, 11, 12, 13, 14, 15], [0, 1, 2, 3, 4, 5, 6, 7, 8, 9, 10, 11, 12, 13, 14, 15, 16], [0, 1, 2, 3, 4, 5, 6, 7, 8, 9, 10, 11, 12, 13, 14, 15, 16], [0, 1, 2, 3, 4, 5, 6, 7, 8, 9, 10, 11, 12, 13, 14, 15, 16, 17, 18], [0, 1, 2, 3, 4, 5, 6, 7, 8, 9, 10, 11, 12, 13, 14, 15, 16, 17, 18, 19], [0, 1, 2, 3, 4, 5, 6, 7, 8, 9, 10, 11, 12, 13, 14, 15, 16, 17, 18, 19, 20], [0, 1, 2, 3, 4, 5, 6, 7, 8, 9, 10, 11, 12, 13, 14, 15, 16, 17, 18, 19, 20, 21]] (cl_lt (by decide)) ?_
    refine HeadR.start (cl_lt (by decide)) ?_
    refine HeadR.det rfl (fun β hβ => (det_loadA ty30 rfl (List.Mem.head _) rfl)) ?_
    refine HeadR.det rfl (fun β hβ => (det_call en26 rfl (fun w hb ho => ROf_ok (n := 1) (by decide) (fun p hp => ho.look (List.mem_append_right _ hp))))) ?_
    refine HeadR.det rfl (fun β hβ => (det_call en18 rfl (fun w hb ho => PMul_ok (fun p hp => ho.look (List.mem_append_right _ hp))))) ?_
    refine HeadR.det rfl (fun β hβ => (det_loadA ty30 rfl (List.Mem.head _) rfl)) ?_
    refine HeadR.det rfl (fun β hβ => (Det.to (det_eql30 rfl rfl) (congrArg Value.bool (yb hr.r4)))) ?_
    refine HeadR.det rfl (fun β hβ => (det_move rfl)) ?_
    refine HeadR.yes rfl rfl (fun _ _ => rfl) (fun β hβ => (det_loadA ty30 rfl (List.Mem.head _) rfl)) ?_
    refine HeadR.yes rfl rfl (fun _ _ => rfl) (fun β hβ => (det_zero bz35)) ?_
    refine HeadR.yes rfl rfl (fun _ _ => rfl) (fun β hβ => (det_call en18 rfl (fun w hb ho => PMul_ok (p := gp lc) (x := 0) (fun p hp => ho.look (List.mem_append_right _ hp))))) ?_
    refine HeadR.yes rfl rfl (fun _ _ => rfl) (fun β hβ => (det_zero bz30)) ?_
    refine HeadR.yes rfl rfl (fun _ _ => rfl) (fun β hβ => (Det.to (det_eql30 rfl rfl) (congrArg Value.bool (yb hr.r5)))) ?_
    refine HeadR.det rfl (fun β hβ => (det_pick rfl rfl)) ?_
    refine HeadR.det rfl (fun β hβ => (det_move rfl)) ?_
    refine HeadR.yes rfl rfl (fun _ _ => rfl) (fun β hβ => (det_loadA ty30 rfl (List.Mem.head _) rfl)) ?_
    refine HeadR.yes rfl rfl (fun _ _ => rfl) (fun β hβ => (Det.to (det_call en31 rfl (fun w hb ho => PIn_ok (fun p hp => ho.look (List.mem_append_right _ hp)))) (congrArg Value.bool (hr.r6)))) ?_
    refine HeadR.det rfl (fun β hβ => (det_pick rfl rfl)) ?_
    refine HeadR.det rfl (fun β hβ => (det_move rfl)) ?_
    refine HeadR.yes rfl rfl (fun _ _ => rfl) (fun β hβ => (det_loadA ty30 rfl (List.Mem.head _) rfl)) ?_
    refine HeadR.yes rfl rfl (fun _ _ => rfl) (fun β hβ => (det_loadA ty35 rfl (List.Mem.tail _ (List.Mem.tail _ (List.Mem.head _))) rfl)) ?_
    refine HeadR.yes rfl rfl (fun _ _ => rfl) (fun β hβ => (det_call en18 rfl (fun w hb ho => PMul_ok (fun p hp => ho.look (List.mem_append_right _ hp))))) ?_
    refine HeadR.yes rfl rfl (fun _ _ => rfl) (fun β hβ => (Det.to (det_call en23 rfl (fun w hb ho => POn_ok (fun p hp => ho.look (List.mem_append_right _ hp)))) (congrArg Value.bool (hr.r7)))) ?_
    refine HeadR.det rfl (fun β hβ => (det_pick rfl rfl)) ?_
    refine HeadR.det rfl (fun β hβ => (det_assign rfl)) ?_
    refine HeadR.done ⟨by kernel_rfl, fun β hβ => ?_⟩
    refine OpsW.norm (F' := [(61, _), (62, _), (63, _), (64, _), (65, _), (66, _), (67, _), (68, _), (69, _), (70, _), (71, _), (72, _), (73, _), (74, _), (75, _), (76, _), (77, _), (78, _), (79, _), (80, _), (81, _), (82, _), (6, _), (60, _), (9, _), (7, _)]) (H' := [(_, _), (_, _), (_, _)]) rfl rfl ?_
    refine sNext ?_
    refine W.keep (F' := [(6, _)]) ⟨rfl, trivial⟩ ?_
    refine sRet ?_
    exact done1 Tryd.results7 (rv_tmp rfl) rfl

end Go.Cu

/- The first group's laws: G1Counts: the walk. Conditions: the rules that the points obey. -/
namespace Go.Cu
open Go Go.Vm Go.RowKit Go.Proofs 
attribute [local irreducible] W OpsW Det Fresh New Writes Vm.Pure Makes Changes ExternTo BuildTo ZeroTo FieldTo IndexTo BinTo SliceTo Vm.Enters
set_option linter.unusedVariables false
set_option linter.unusedSimpArgs false
variable {T : Nat → TypeId × Nat × Nat}

theorem and31 {a : Nat} (ha : a < 256) : bitsOf .and .u8 a 31 = ((a % 32 : Nat) : Int) := by
  have h1 : (BitVec.ofInt IntKind.u8.bits (a : Int)).toNat = a := by
    show (BitVec.ofInt 8 (a : Int)).toNat = a
    rw [BitVec.toNat_ofInt]; omega
  unfold bitsOf
  simp only [BitVec.toNat_and, h1]
  rw [show (BitVec.ofInt IntKind.u8.bits (31 : Int)).toNat = 2 ^ 5 - 1 by rfl, Nat.and_two_pow_sub_one_eq_mod, wrap_u8]
  omega
def nadd (p : Pt) : Nat → Pt
  | 0 => (0, 0)
  | i + 1 => padd (nadd p i) p
structure CountsOk (k : Nat) (p q : Pt) : Prop where
  c1 : times [k] p = nadd p k
  c2 : times [0, 0, k] p = nadd p k
  c3 : times [k] q = nadd q k
  c4 : times [] q = (0, 0)
  c5 : pmul p (Zp.of k) = nadd p k
theorem one_sl {k : Int} : SliceTo Tryd.prog 22 1 [(0, .int .u8 k)] [.int .u8 k] 5 := SliceTo.of fun _ => by kernel_rfl
theorem three_sl {k : Int} : SliceTo Tryd.prog 22 3 [(0, .int .u8 0), (1, .int .u8 0), (2, .int .u8 k)] [.int .u8 0, .int .u8 0, .int .u8 k] 5 := SliceTo.of fun _ => by kernel_rfl
theorem one_small {k : Nat} (h : k < 256) : ∀ c ∈ [k], c < 256 := by intro c hc; rw [List.mem_singleton.1 hc]; exact h
theorem three_small {k : Nat} (h : k < 256) : ∀ c ∈ [0, 0, k], c < 256 := by
  intro c hc
  simp only [List.mem_cons, List.not_mem_nil, or_false] at hc
  rcases hc with rfl | rfl | rfl <;> omega
theorem nil_Bs : Bs [] (.slice none 0 0) [] := ⟨⟨_, _, rfl⟩, fun c hc => (by cases hc), fun h => absurd h (Nat.lt_irrefl 0)⟩

theorem en24 : Vm.Enters Tryd.prog 24 := Vm.Enters.of fun _ _ => by kernel_rfl
set_option maxHeartbeats 4000000 in
theorem G1Counts_ok {G' : Hp} {va : Value} {la : List Nat} {n m : Nat} (ha : Bs G' va la) (hn : n < 256) (hm : m < 65536) (hh : HeadOk) (hr : CountsOk (n % 32) (gp la) (wild m)) {w : World} (hG : Blocks (G' ++ GH T) w)  : Vm.Pure Tryd.prog 4 #[va, .int .u8 (n : Nat), .int .u16 (m : Nat)] w (.bool true) := by
  obtain ⟨aa, ca, hva⟩ := ha.shape
  refine pure_of_W (n := 80) (args := [va, .int .u8 (n : Nat), .int .u16 (m : Nat)]) Tryd.func4 rfl Tryd.ntmps4 (Nat.le_of_ble_eq_true rfl) hG ?_
  refine sStart ?_
  refine sSeq ?_
  subst hva
  refine W.region ?_
  refine OpsW.det (det_assign rfl) rfl ?_
  refine sNext ?_
  refine W.keep (F' := [(0, _), (1, _), (2, _)]) ⟨rfl, rfl, rfl, trivial⟩ ?_
  refine sSeq ?_
  refine sSeq ?_
  refine W.region ?_
  refine OpsW.det (det_call en15 rfl (fun w hb ho => head_ok hh (fun p hp => ho.look (List.mem_append_right _ hp)))) rfl ?_
  refine OpsW.det (det_not rfl) rfl ?_
  refine sNext ?_
  refine W.keep (F' := [(15, _), (0, _), (1, _), (2, _)]) ⟨rfl, rfl, rfl, rfl, trivial⟩ ?_
  refine W.cond_false rfl ?_
  refine sSkip ?_
  refine sSeq ?_
  refine sSeq ?_
  refine W.region ?_
  refine OpsW.det (det_move rfl) rfl ?_
  refine OpsW.det (det_call en16 rfl (fun w hb ho => long_ok (fun p hp => ho.look (List.mem_append_right _ hp)))) rfl ?_
  refine sNext ?_
  refine W.keep (F' := [(17, _), (0, _), (1, _), (2, _)]) ⟨rfl, rfl, rfl, rfl, trivial⟩ ?_
  refine W.cond rfl (fun hc17 => ?_) (fun hc17 => ?_)
  · skip
    refine sSeq ?_
    refine W.region ?_
    refine OpsW.det (det_assign rfl) rfl ?_
    refine sNext ?_
    refine W.keep (F' := [(6, _)]) ⟨rfl, trivial⟩ ?_
    refine sRet ?_
    exact done1 Tryd.results4 (rv_tmp rfl) rfl
  · skip
    have hl := not_long hc17
    refine sSkip ?_
    refine sSeq ?_
    refine W.region ?_
    refine OpsW.det (det_call en17 rfl (fun w hb ho => Gen_ok (fun p hp => ho.look (List.mem_append_right _ hp)))) rfl ?_
    refine OpsW.det (det_move rfl) rfl ?_
    refine OpsW.det (det_call en19 rfl (fun w hb ho => scalar_ok (G' := G') ha (Nat.le_trans hl.1 (by decide)) ho.blocks)) rfl ?_
    refine OpsW.det (det_call en18 rfl (fun w hb ho => PMul_ok (fun p hp => ho.look (List.mem_append_right _ hp)))) rfl ?_
    refine OpsW.fresh (fr_alloc z30r) rfl fun b7 => ?_
    refine OpsW.store sz30 rfl rfl rfl rfl rfl (Upd.here) rfl ?_
    refine sNext ?_
    refine W.keep (F' := [(7, _), (1, _), (2, _)]) ⟨rfl, rfl, rfl, trivial⟩ ?_
    refine sSeq ?_
    refine W.region ?_
    refine OpsW.det (det_move rfl) rfl ?_
    refine OpsW.det (det_call en24 rfl (fun w hb ho => wild_ok hm (fun p hp => ho.look (List.mem_append_right _ hp)))) rfl ?_
    refine OpsW.fresh (fr_alloc z30r) rfl fun b8 => ?_
    refine OpsW.store sz30 rfl rfl rfl rfl rfl (Upd.here) rfl ?_
    refine sNext ?_
    refine W.keep (F' := [(8, _), (7, _), (1, _)]) ⟨rfl, rfl, rfl, trivial⟩ ?_
    refine sSeq ?_
    refine W.region ?_
    refine OpsW.det (det_zero bz30) rfl ?_
    refine OpsW.fresh (fr_alloc z30r) rfl fun b9 => ?_
    refine OpsW.store sz30 rfl rfl rfl rfl rfl (Upd.here) rfl ?_
    refine sNext ?_
    refine W.keep (F' := [(9, _), (8, _), (7, _), (1, _)]) ⟨rfl, rfl, rfl, rfl, trivial⟩ ?_
    refine sSeq ?_
    refine W.region ?_
    refine OpsW.det (det_zero bz30) rfl ?_
    refine OpsW.fresh (fr_alloc z30r) rfl fun b10 => ?_
    refine OpsW.store sz30 rfl rfl rfl rfl rfl (Upd.here) rfl ?_
    refine sNext ?_
    refine W.keep (F' := [(10, _), (9, _), (8, _), (7, _), (1, _)]) ⟨rfl, rfl, rfl, rfl, rfl, trivial⟩ ?_
    refine sSeq ?_
    refine sSeq ?_
    refine W.region ?_
    refine OpsW.det (det_assign rfl) rfl ?_
    refine sNext ?_
    refine sBlock ?_
    refine sLoop (σ := Nat) (fun i => [(11, .int .i64 (i : Nat)), (10, .pointer (some ⟨b10, 0, none⟩)), (9, .pointer (some ⟨b9, 0, none⟩)), (8, .pointer (some ⟨b8, 0, none⟩)), (7, .pointer (some ⟨b7, 0, none⟩)), (1, .int .u8 (n : Nat))]) (fun i => [(b10, blk (cellsP (nadd (wild m) i)) 30), (b9, blk (cellsP (nadd (gp la) i)) 30), (b8, blk (cellsP (wild m)) 30), (b7, blk (cellsP (gp la)) 30)]) (fun i => i ≤ n % 32) (fun i => n % 32 - i) 0 (Nat.zero_le _) ⟨rfl, rfl, rfl, rfl, rfl, rfl, trivial⟩ (List.Sublist.refl _) ?_
    intro i hi
    refine sSeq ?_
    refine sSeq ?_
    refine W.region ?_
    refine OpsW.det (det_move rfl) rfl ?_
    refine OpsW.det (det_move rfl) rfl ?_
    refine OpsW.det ((det_and (a := (n : Int)) (b := 31) rfl rfl).to (v := .int .u8 ((n % 32 : Nat) : Int)) (by rw [and31 hn])) rfl ?_
    refine OpsW.det ((det_conv u5 u3 rfl).to (v := .int .i64 ((n % 32 : Nat) : Int)) (by rw [wrap_i64 (by omega)])) rfl ?_
    refine OpsW.det (det_lss rfl rfl) rfl ?_
    refine sNext ?_
    refine W.keep (F' := [(30, _), (11, _), (10, _), (9, _), (8, _), (7, _), (1, _)]) ⟨rfl, rfl, rfl, rfl, rfl, rfl, rfl, trivial⟩ ?_
    refine W.cond rfl (fun hc30 => ?_) (fun hc30 => ?_)
    · skip
      have hlt : i < n % 32 := by have h := hc30; simp only [decide_eq_true_eq] at h; omega
      refine sSkip ?_
      refine sSeq ?_
      refine sBlock ?_
      refine sSeq ?_
      refine W.region ?_
      refine OpsW.det (det_loadA ty30 rfl (List.Mem.tail _ (List.Mem.head _)) rfl) rfl ?_
      refine OpsW.det (det_loadA ty30 rfl (List.Mem.tail _ (List.Mem.tail _ (List.Mem.tail _ (List.Mem.head _)))) rfl) rfl ?_
      refine OpsW.det (det_call en20 rfl (fun w hb ho => PAdd_ok (fun p hp => ho.look (List.mem_append_right _ hp)))) rfl ?_
      refine OpsW.store sz30 rfl rfl rfl rfl rfl (Upd.there (Upd.here)) rfl ?_
      refine sNext ?_
      refine W.keep (F' := [(11, _), (10, _), (9, _), (8, _), (7, _), (1, _)]) ⟨rfl, rfl, rfl, rfl, rfl, rfl, trivial⟩ ?_
      refine W.region ?_
      refine OpsW.det (det_loadA ty30 rfl (List.Mem.head _) rfl) rfl ?_
      refine OpsW.det (det_loadA ty30 rfl (List.Mem.tail _ (List.Mem.tail _ (List.Mem.head _))) rfl) rfl ?_
      refine OpsW.det (det_call en20 rfl (fun w hb ho => PAdd_ok (fun p hp => ho.look (List.mem_append_right _ hp)))) rfl ?_
      refine OpsW.store sz30 rfl rfl rfl rfl rfl (Upd.here) rfl ?_
      refine sLast ?_
      refine bNext ?_
      refine W.keep (F' := [(11, _), (10, _), (9, _), (8, _), (7, _), (1, _)]) ⟨rfl, rfl, rfl, rfl, rfl, rfl, trivial⟩ ?_
      refine W.region ?_
      refine OpsW.det (det_move rfl) rfl ?_
      refine OpsW.det (det_addN (b := 1) rfl rfl (by omega)) rfl ?_
      refine OpsW.det (det_assign rfl) rfl ?_
      refine sLast ?_
      exact rEnd (i + 1) hlt ⟨rfl, rfl, rfl, rfl, rfl, rfl, trivial⟩ (List.Sublist.refl _) (step_lt hlt)
    · skip
      have hi32 : i = n % 32 := by have h := hc30; simp only [decide_eq_false_iff_not] at h; omega
      subst hi32
      refine sExit ?_
      refine xLoop ?_
      refine xHere ?_
      refine W.keep (F' := [(10, _), (9, _), (8, _), (7, _), (1, _)]) ⟨rfl, rfl, rfl, rfl, rfl, trivial⟩ ?_
      refine sSeq ?_
      refine W.region ?_
      refine OpsW.det (det_move rfl) rfl ?_
      refine OpsW.det ((det_and (a := (n : Int)) (b := 31) rfl rfl).to (v := .int .u8 ((n % 32 : Nat) : Int)) (by rw [and31 hn])) rfl ?_
      refine OpsW.fresh (fr_buildSlice rfl (one_sl (k := ((n % 32 : Nat) : Int)))) rfl fun b41 => ?_
      refine OpsW.det (det_assign rfl) rfl ?_
      refine sNext ?_
      refine W.keep (F' := [(12, _), (10, _), (9, _), (8, _), (7, _), (1, _)]) ⟨rfl, rfl, rfl, rfl, rfl, rfl, trivial⟩ ?_
      refine sSeq ?_
      refine W.region ?_
      refine OpsW.det (det_move rfl) rfl ?_
      refine OpsW.det ((det_and (a := (n : Int)) (b := 31) rfl rfl).to (v := .int .u8 ((n % 32 : Nat) : Int)) (by rw [and31 hn])) rfl ?_
      refine OpsW.fresh (fr_buildSlice rfl (three_sl (k := ((n % 32 : Nat) : Int)))) rfl fun b44 => ?_
      refine OpsW.det (det_assign rfl) rfl ?_
      refine sNext ?_
      refine W.keep (F' := [(13, _), (12, _), (10, _), (9, _), (8, _), (7, _), (1, _)]) ⟨rfl, rfl, rfl, rfl, rfl, rfl, rfl, trivial⟩ ?_
      refine sSeq ?_
      refine W.draw mixed 36 [[], [], [0, 1], [], [0, 1, 2, 3], [0, 1, 2, 3, 4], [0, 1, 2, 3, 4, 5], [0, 1, 2, 3, 4, 5], [0, 1, 2, 3, 4, 5, 6, 7], [0, 1, 2, 3, 4, 5], [0, 1, 2, 3, 4, 5, 6, 7, 8, 9], [0, 1, 2, 3, 4, 5, 6, 7, 8, 9, 10], [0, 1, 2, 3, 4, 5, 6, 7, 8, 9, 10, 11], [0, 1, 2, 3, 4, 5, 6, 7, 8, 9, 10, 11, 12], [0, 1, 2, 3, 4, 5, 6, 7, 8, 9, 10, 11, 12], [0, 1, 2, 3, 4, 5, 6, 7, 8, 9, 10, 11, 12, 13, 14], [0, 1, 2, 3, 4, 5, 6, 7, 8, 9, 10, 11, 12], [0, 1, 2, 3, 4, 5, 6, 7, 8, 9, 10, 11, 12, 13, 14, 15, 16], [0, 1, 2, 3, 4, 5, 6, 7, 8, 9, 10, 11, 12, 13, 14, 15, 16, 17], [0, 1, 2, 3, 4, 5, 6, 7, 8, 9, 10, 11, 12, 13, 14, 15, 16, 17, 18], [0, 1, 2, 3, 4, 5, 6, 7, 8, 9, 10, 11, 12, 13, 14, 15, 16, 17, 18, 19], [0, 1, 2, 3, 4, 5, 6, 7, 8, 9, 10, 11, 12, 13, 14, 15, 16, 17, 18, 19, 20], [0, 1, 2, 3, 4, 5, 6, 7, 8, 9, 10, 11, 12, 13, 14, 15, 16, 17, 18, 19], [0, 1, 2, 3, 4, 5, 6, 7, 8, 9, 10, 11, 12, 13, 14, 15, 16, 17, 18, 19, 20, 21, 22], [0, 1, 2, 3, 4, 5, 6, 7, 8, 9, 10, 11, 12, 13, 14, 15, 16, 17, 18, 19, 20, 21, 22, 23], [0, 1, 2, 3, 4, 5, 6, 7, 8, 9, 10, 11, 12, 13, 14, 15, 16, 17, 18, 19, 20, 21, 22, 23, 24], [0, 1, 2, 3, 4, 5, 6, 7, 8, 9, 10, 11, 12, 13, 14, 15, 16, 17, 18, 19, 20, 21, 22, 23, 24, 25], [0, 1, 2, 3, 4, 5, 6, 7, 8, 9, 10, 11, 12, 13, 14, 15, 16, 17, 18, 19, 20, 21, 22, 23, 24, 25], [0, 1, 2, 3, 4, 5, 6, 7, 8, 9, 10, 11, 12, 13, 14, 15, 16, 17, 18, 19, 20, 21, 22, 23, 24, 25, 27], [0, 1, 2, 3, 4, 5, 6, 7, 8, 9, 10, 11, 12, 13, 14, 15, 16, 17, 18, 19, 20, 21, 22, 23, 24, 25, 27, 28], [0, 1, 2, 3, 4, 5, 6, 7, 8, 9, 10, 11, 12, 13, 14, 15, 16, 17, 18, 19, 20, 21, 22, 23, 24, 25, 27, 28, 29], [0, 1, 2, 3, 4, 5, 6, 7, 8, 9, 10, 11, 12, 13, 14, 15, 16, 17, 18, 19, 20, 21, 22, 23, 24, 25, 26, 27, 28, 29, 30], [0, 1, 2, 3, 4, 5, 6, 7, 8, 9, 10, 11, 12, 13, 14, 15, 16, 17, 18, 19, 20, 21, 22, 23, 24, 25], [0, 1, 2, 3, 4, 5, 6, 7, 8, 9, 10, 11, 12, 13, 14, 15, 16, 17, 18, 19, 20, 21, 22, 23, 24, 25, 26, 27, 28, 29, 30, 31, 32], [0, 1, 2, 3, 4, 5, 6, 7, 8, 9, 10, 11, 12, 13, 14, 15, 16, 17, 18, 19, 20, 21, 22, 23, 24, 25, 26, 27, 28, 29, 30, 31, 32, 33], [0, 1, 2, 3, 4, 5, 6, 7, 8, 9, 10, 11, 12, 13, 14, 15, 16, 17, 18, 19, 20, 21, 22, 23, 24, 25, 26, 27, 28, 29, 30, 31, 32, 33, 34]] (cl_lt (by decide)) ?_
      refine HeadR.start (cl_lt (by decide)) ?_
      refine HeadR.det rfl (fun β hβ => (det_loadA ty30 rfl (List.Mem.tail _ (List.Mem.tail _ (List.Mem.tail _ (List.Mem.tail _ (List.Mem.tail _ (List.Mem.head _)))))) rfl)) ?_
      refine HeadR.det rfl (fun β hβ => (det_move rfl)) ?_
      refine HeadR.det rfl (fun β hβ => (det_call en25 rfl (fun w hb ho => Times_ok (G' := [(b41, blk (bcells [n % 32] ++ []) 5)]) (l := [n % 32]) (p := gp la) (Bs.of (one_small (by omega)) (Nat.le_refl _)) (Nat.le_of_ble_eq_true rfl) (blocks_cons (hb _ (by repeat (first | exact List.Mem.head _ | apply List.Mem.tail))) (fun p hp => ho.look (List.mem_append_right _ hp)))))) ?_
      refine HeadR.det rfl (fun β hβ => (det_loadA ty30 rfl (List.Mem.tail _ (List.Mem.tail _ (List.Mem.tail _ (List.Mem.head _)))) rfl)) ?_
      refine HeadR.det rfl (fun β hβ => (Det.to (det_eql30 rfl rfl) (congrArg Value.bool (yb hr.c1)))) ?_
      refine HeadR.det rfl (fun β hβ => (det_move rfl)) ?_
      refine HeadR.yes rfl rfl (fun _ _ => rfl) (fun β hβ => (det_loadA ty30 rfl (List.Mem.tail _ (List.Mem.tail _ (List.Mem.tail _ (List.Mem.tail _ (List.Mem.tail _ (List.Mem.head _)))))) rfl)) ?_
      refine HeadR.yes rfl rfl (fun _ _ => rfl) (fun β hβ => (det_move rfl)) ?_
      refine HeadR.yes rfl rfl (fun _ _ => rfl) (fun β hβ => (det_call en25 rfl (fun w hb ho => Times_ok (G' := [(b44, blk (bcells [0, 0, n % 32] ++ []) 5)]) (l := [0, 0, n % 32]) (p := gp la) (Bs.of (three_small (by omega)) (Nat.le_refl _)) (Nat.le_of_ble_eq_true rfl) (blocks_cons (hb _ (by repeat (first | exact List.Mem.head _ | apply List.Mem.tail))) (fun p hp => ho.look (List.mem_append_right _ hp)))))) ?_
      refine HeadR.yes rfl rfl (fun _ _ => rfl) (fun β hβ => (det_loadA ty30 rfl (List.Mem.tail _ (List.Mem.tail _ (List.Mem.tail _ (List.Mem.head _)))) rfl)) ?_
      refine HeadR.yes rfl rfl (fun _ _ => rfl) (fun β hβ => (Det.to (det_eql30 rfl rfl) (congrArg Value.bool (yb hr.c2)))) ?_
      refine HeadR.det rfl (fun β hβ => (det_pick rfl rfl)) ?_
      refine HeadR.det rfl (fun β hβ => (det_move rfl)) ?_
      refine HeadR.yes rfl rfl (fun _ _ => rfl) (fun β hβ => (det_loadA ty30 rfl (List.Mem.tail _ (List.Mem.tail _ (List.Mem.tail _ (List.Mem.tail _ (List.Mem.head _))))) rfl)) ?_
      refine HeadR.yes rfl rfl (fun _ _ => rfl) (fun β hβ => (det_move rfl)) ?_
      refine HeadR.yes rfl rfl (fun _ _ => rfl) (fun β hβ => (det_call en25 rfl (fun w hb ho => Times_ok (G' := [(b41, blk (bcells [n % 32] ++ []) 5)]) (l := [n % 32]) (p := wild m) (Bs.of (one_small (by omega)) (Nat.le_refl _)) (Nat.le_of_ble_eq_true rfl) (blocks_cons (hb _ (by repeat (first | exact List.Mem.head _ | apply List.Mem.tail))) (fun p hp => ho.look (List.mem_append_right _ hp)))))) ?_
      refine HeadR.yes rfl rfl (fun _ _ => rfl) (fun β hβ => (det_loadA ty30 rfl (List.Mem.tail _ (List.Mem.tail _ (List.Mem.head _))) rfl)) ?_
      refine HeadR.yes rfl rfl (fun _ _ => rfl) (fun β hβ => (Det.to (det_eql30 rfl rfl) (congrArg Value.bool (yb hr.c3)))) ?_
      refine HeadR.det rfl (fun β hβ => (det_pick rfl rfl)) ?_
      refine HeadR.det rfl (fun β hβ => (det_move rfl)) ?_
      refine HeadR.yes rfl rfl (fun _ _ => rfl) (fun β hβ => (det_loadA ty30 rfl (List.Mem.tail _ (List.Mem.tail _ (List.Mem.tail _ (List.Mem.tail _ (List.Mem.head _))))) rfl)) ?_
      refine HeadR.yes rfl rfl (fun _ _ => rfl) (fun β hβ => (det_call en25 rfl (fun w hb ho => Times_ok (G' := []) (l := []) (p := wild m) nil_Bs (by decide) (fun p hp => ho.look (List.mem_append_right _ hp))))) ?_
      refine HeadR.yes rfl rfl (fun _ _ => rfl) (fun β hβ => (det_zero bz30)) ?_
      refine HeadR.yes rfl rfl (fun _ _ => rfl) (fun β hβ => (Det.to (det_eql30 rfl rfl) (congrArg Value.bool (yb hr.c4)))) ?_
      refine HeadR.det rfl (fun β hβ => (det_pick rfl rfl)) ?_
      refine HeadR.det rfl (fun β hβ => (det_move rfl)) ?_
      refine HeadR.yes rfl rfl (fun _ _ => rfl) (fun β hβ => (det_loadA ty30 rfl (List.Mem.tail _ (List.Mem.tail _ (List.Mem.tail _ (List.Mem.tail _ (List.Mem.tail _ (List.Mem.head _)))))) rfl)) ?_
      refine HeadR.yes rfl rfl (fun _ _ => rfl) (fun β hβ => (det_move rfl)) ?_
      refine HeadR.yes rfl rfl (fun _ _ => rfl) (fun β hβ => ((det_and (a := (n : Int)) (b := 31) rfl rfl).to (v := .int .u8 ((n % 32 : Nat) : Int)) (by rw [and31 hn]))) ?_
      refine HeadR.yes rfl rfl (fun _ _ => rfl) (fun β hβ => ((det_conv u5 u25 rfl).to (v := u64 (n % 32)) (by rw [wrap_u64 (by omega)]; rfl))) ?_
      refine HeadR.yes rfl rfl (fun _ _ => rfl) (fun β hβ => (det_call en26 rfl (fun w hb ho => ROf_ok (n := n % 32) (by omega) (fun p hp => ho.look (List.mem_append_right _ hp))))) ?_
      refine HeadR.yes rfl rfl (fun _ _ => rfl) (fun β hβ => (det_call en18 rfl (fun w hb ho => PMul_ok (fun p hp => ho.look (List.mem_append_right _ hp))))) ?_
      refine HeadR.yes rfl rfl (fun _ _ => rfl) (fun β hβ => (det_loadA ty30 rfl (List.Mem.tail _ (List.Mem.tail _ (List.Mem.tail _ (List.Mem.head _)))) rfl)) ?_
      refine HeadR.yes rfl rfl (fun _ _ => rfl) (fun β hβ => (Det.to (det_eql30 rfl rfl) (congrArg Value.bool (yb hr.c5)))) ?_
      refine HeadR.det rfl (fun β hβ => (det_pick rfl rfl)) ?_
      refine HeadR.det rfl (fun β hβ => (det_assign rfl)) ?_
      refine HeadR.done ⟨by kernel_rfl, fun β hβ => ?_⟩
      refine OpsW.norm (F' := ((45, _) :: (46, _) :: (47, _) :: (48, _) :: (49, _) :: (50, _) :: (51, _) :: (52, _) :: (53, _) :: (54, _) :: (55, _) :: (56, _) :: (57, _) :: (58, _) :: (59, _) :: (60, _) :: (61, _) :: (62, _) :: (63, _) :: (64, _) :: (65, _) :: (66, _) :: (67, _) :: (68, _) :: (69, _) :: (70, _) :: (71, _) :: (72, _) :: (73, _) :: (74, _) :: (75, _) :: (76, _) :: (77, _) :: (78, _) :: (79, _) :: (6, _) :: (13, _) :: (12, _) :: (10, _) :: (9, _) :: (8, _) :: (7, _) :: (1, _) :: [])) (H' := [(_, _), (_, _), (_, _), (_, _), (_, _), (_, _)]) rfl rfl ?_
      refine sNext ?_
      refine W.keep (F' := [(6, _)]) ⟨rfl, trivial⟩ ?_
      refine sRet ?_
      exact done1 Tryd.results4 (rv_tmp rfl) rfl

end Go.Cu
