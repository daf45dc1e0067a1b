/-
  Abelian groups and multiples; points by three coordinates, and their sums.
  Conditions: neither 2 nor 3 nor b is nought in the field; what is added lies on the curve.
-/
import Derived.Test.YtbchpfmfiokbgaaDoorGrp
namespace Go.Ec
open Go.Cu
open CR
set_option linter.unusedVariables false
set_option linter.unusedSimpArgs false
set_option linter.unusedSectionVars false
set_option linter.constructorNameAsVariable false

class AG (γ : Type) extends Add γ, Neg γ, Zero γ where
  acomm : ∀ a b : γ, a + b = b + a
  aassoc : ∀ a b c : γ, a + b + c = a + (b + c)
  zero_a : ∀ a : γ, 0 + a = a
  neg_a : ∀ a : γ, -a + a = 0
section
variable {γ : Type} [AG γ]
open AG
theorem a_zero (a : γ) : a + 0 = a := by rw [acomm, zero_a]
theorem a_neg (a : γ) : a + -a = 0 := by rw [acomm, neg_a]
theorem a_cancel {a b c : γ} (h : a + b = a + c) : b = c := by
  have := congrArg (-a + ·) h
  simpa only [← aassoc, neg_a, zero_a] using this
theorem a_neg_neg (a : γ) : - -a = a := a_cancel (a := -a) (by rw [a_neg, neg_a])
theorem a_neg_zero : -(0 : γ) = 0 := by have := neg_a (0 : γ); rwa [a_zero] at this
theorem a_neg_eq {a b : γ} (h : a + b = 0) : b = -a := a_cancel (a := a) (by rw [h, a_neg])
theorem a_four (a b c d : γ) : a + b + (c + d) = a + c + (b + d) := by
  rw [aassoc, ← aassoc b, acomm b c, aassoc c, ← aassoc]
theorem a_neg_add (a b : γ) : -(a + b) = -a + -b := (a_neg_eq (by rw [a_four, a_neg, a_neg, zero_a])).symm
def nmul : Nat → γ → γ
  | 0, _ => 0
  | n + 1, x => nmul n x + x
theorem nmul_add (a : Nat) (x : γ) : ∀ b, nmul (a + b) x = nmul a x + nmul b x
  | 0 => by rw [Nat.add_zero, nmul, a_zero]
  | b + 1 => by rw [← Nat.add_assoc, nmul, nmul_add a x b, nmul, aassoc]
theorem nmul_one (x : γ) : nmul 1 x = x := zero_a x
theorem nmul_zero : ∀ n, nmul n (0 : γ) = 0
  | 0 => rfl
  | n + 1 => by rw [nmul, nmul_zero n, zero_a]
theorem nmul_mul (a : Nat) (x : γ) : ∀ b, nmul (a * b) x = nmul b (nmul a x)
  | 0 => rfl
  | b + 1 => by rw [Nat.mul_succ, nmul_add, nmul_mul a x b, nmul]
theorem nmul_dist (x y : γ) : ∀ n, nmul n (x + y) = nmul n x + nmul n y
  | 0 => (zero_a 0).symm
  | n + 1 => by rw [nmul, nmul_dist x y n, nmul, nmul, a_four]
theorem nmul_neg (x : γ) : ∀ n, nmul n (-x) = -nmul n x
  | 0 => a_neg_zero.symm
  | n + 1 => by rw [nmul, nmul_neg x n, nmul, a_neg_add]
theorem nmul_two (x : γ) : nmul 2 x = x + x := by rw [nmul, nmul_one]
theorem nmul_comm (a b : Nat) (x : γ) : nmul a (nmul b x) = nmul b (nmul a x) := by rw [← nmul_mul, ← nmul_mul, Nat.mul_comm]
theorem nmul_mod {r : Nat} {x : γ} (h : nmul r x = 0) (a : Nat) : nmul (a % r) x = nmul a x := by
  conv => rhs; rw [← Nat.div_add_mod a r]
  rw [nmul_add, nmul_mul, h, nmul_zero, zero_a]
end

section
variable {α : Type} [Fld α] [DecidableEq α]
/-- The points of the curve. -/
def Gp (B : α) : Type := { p : α × α // On B p }
theorem Gp.ext {B : α} {p q : Gp B} (h : p.1 = q.1) : p = q := Subtype.ext h
instance {B : α} [Gd B] : AG (Gp B) where
  add p q := ⟨cadd p.1 q.1, p.2.cadd q.2⟩
  neg p := ⟨cneg p.1, p.2.cneg⟩
  zero := ⟨(0, 0), .inl rfl⟩
  acomm p q := Gp.ext (cadd_comm p.2 q.2)
  aassoc p q r := Gp.ext (cadd_assoc p.2 q.2 r.2)
  zero_a p := Gp.ext (zero_cadd p.1)
  neg_a p := Gp.ext ((cadd_comm p.2.cneg p.2).trans (cadd_cneg p.2))

abbrev J3 (α : Type) := α × α × α
def gtoj (p : α × α) : J3 α := if p = (0, 0) then (0, 0, 0) else (p.1, p.2, 1)
def gdbl (p : J3 α) : J3 α :=
  if p.2.2 = 0 then (0, 0, 0) else if p.2.1 = 0 then (0, 0, 0) else
    let a := p.1 * p.1
    let b := p.2.1 * p.2.1
    let c := b * b
    let d0 := (p.1 + b) * (p.1 + b) - a - c
    let d := d0 + d0
    let e := a + a + a
    let f := e * e - d - d
    let c4 := (c + c) + (c + c)
    (f, e * (d - f) - c4 - c4, p.2.1 * p.2.2 + p.2.1 * p.2.2)
def gaddH (p : J3 α) (q : α × α) : α := q.1 * (p.2.2 * p.2.2) - p.1
def gaddR (p : J3 α) (q : α × α) : α := q.2 * p.2.2 * (p.2.2 * p.2.2) - p.2.1
def gaddN (p : J3 α) (q : α × α) : J3 α :=
  let zz := p.2.2 * p.2.2
  let h := gaddH p q
  let r := gaddR p q + gaddR p q
  let hh := h * h
  let i := (hh + hh) + (hh + hh)
  let j := h * i
  let v := p.1 * i
  let x := r * r - j - v - v
  let yj := p.2.1 * j
  (x, r * (v - x) - yj - yj, (p.2.2 + h) * (p.2.2 + h) - zz - hh)
def gadd (p : J3 α) (q : α × α) : J3 α :=
  if q = (0, 0) then p else if p.2.2 = 0 then gtoj q else if gaddH p q = 0 then (if gaddR p q = 0 then gdbl p else (0, 0, 0)) else gaddN p q
def gpt (p : J3 α) : α × α := if p.2.2 = 0 then (0, 0) else
  let i := Fld.finv p.2.2
  let i2 := i * i
  (p.1 * i2, p.2.1 * i2 * i)
/-- The coordinates are those of the one at infinity, or of a point of the curve. -/
def JOk (B : α) (j : J3 α) : Prop := j.2.2 = 0 ∨ Aff B (gpt j)
variable {B : α} [hG : Gd B]
theorem JOk.on {j : J3 α} (h : JOk B j) : On B (gpt j) := by
  rcases h with h | h
  · exact .inl (if_pos h)
  · exact .inr h
theorem finv_one : Fld.finv (1 : α) = 1 := by have := Fld.mul_finv (1 : α) Fld.one_ne; rwa [one_mul] at this
theorem finv_ne {a : α} (h : a ≠ 0) : Fld.finv a ≠ 0 := fun e => Fld.one_ne (α := α) (by rw [← Fld.mul_finv a h, e, mul_zero'])
theorem Fld.cancel {a b c : α} (ha : a ≠ 0) (h : a * b = a * c) : b = c := by
  apply Classical.byContradiction
  intro hne
  refine Fld.mul_ne ha (b := b - c) (fun e => hne (eq_of_sub e)) ?_
  rw [sub_eq, mul_add, mul_comm a (-c), neg_mul', mul_comm c, h, add_neg]
theorem gpt_toj {p : α × α} : gpt (gtoj p) = p := by
  unfold gtoj
  split
  · rename_i h; rw [h]; exact if_pos rfl
  · unfold gpt
    rw [if_neg (Fld.one_ne (α := α))]
    simp only [finv_one, one_mul, mul_one']
theorem JOk.toj {p : α × α} (h : On B p) : JOk B (gtoj p) := by
  rcases h with rfl | h
  · exact .inl (by unfold gtoj; rw [if_pos rfl])
  · exact .inr (by rw [gpt_toj]; exact h)
theorem third_at {l l' : α} {p q : α × α} {u : α × α} (h : l = l') (h2 : third l' p q = u) : third l p q = u := by rw [h, h2]
theorem dbl_pure {x y z i w : α} (hz : z * i = 1) (hw : (y * z + y * z) * w = 1) : i = (y + y) * w :=
  (eq_of_sub (Eq.trans (show (i - ((y + y) * w)) = (((-i) * ((((y * z) + (y * z)) * w) - 1)) + (((y + y) * w) * ((z * i) - 1))) from ring_id (fun vi_ => vget vi_ [y, z, i, w]) (.sub (.var 2) (.mul (.add (.var 0) (.var 0)) (.var 3))) (.add (.mul (.neg (.var 2)) (.sub (.mul (.add (.mul (.var 0) (.var 1)) (.mul (.var 0) (.var 1))) (.var 3)) .one)) (.mul (.mul (.add (.var 0) (.var 0)) (.var 3)) (.sub (.mul (.var 1) (.var 2)) .one))) (by kernel_rfl)) (lz2 (lz hw) (lz hz))))
theorem gdbl_ok {j : J3 α} (hj : JOk B j) : gpt (gdbl j) = cadd (gpt j) (gpt j) ∧ JOk B (gdbl j) := by
  obtain ⟨x, y, z⟩ := j
  by_cases hz : z = 0
  · have e1 : gdbl (x, y, z) = (0, 0, 0) := if_pos hz
    have e2 : gpt (x, y, z) = (0, 0) := if_pos hz
    rw [e1, e2, zero_cadd]
    exact ⟨if_pos rfl, .inl rfl⟩
  have e2 : gpt (x, y, z) = (x * (Fld.finv z * Fld.finv z), y * (Fld.finv z * Fld.finv z) * Fld.finv z) := if_neg hz
  by_cases hy : y = 0
  · have e1 : gdbl (x, y, z) = (0, 0, 0) := (if_neg hz).trans (if_pos hy)
    rw [e1]
    refine ⟨?_, .inl rfl⟩
    rw [show gpt ((0, 0, 0) : J3 α) = (0, 0) from if_pos rfl, e2]
    subst hy
    by_cases h0 : (x * (Fld.finv z * Fld.finv z), (0 : α) * (Fld.finv z * Fld.finv z) * Fld.finv z) = (0, 0)
    · rw [h0, zero_cadd]
    · unfold cadd
      rw [if_neg h0, if_neg h0, if_pos ⟨rfl, (show (((0 * ((Fld.finv z) * (Fld.finv z))) * (Fld.finv z)) + ((0 * ((Fld.finv z) * (Fld.finv z))) * (Fld.finv z))) = 0 from ring_id (fun vi_ => vget vi_ [Fld.finv z]) (.add (.mul (.mul .zero (.mul (.var 0) (.var 0))) (.var 0)) (.mul (.mul .zero (.mul (.var 0) (.var 0))) (.var 0))) .zero (by kernel_rfl))⟩]
  have haff : Aff B (gpt (x, y, z)) := hj.resolve_left hz
  have hi := Fld.mul_finv z hz
  have hyy : y * (Fld.finv z * Fld.finv z) * Fld.finv z ≠ 0 := Fld.mul_ne (Fld.mul_ne hy (Fld.mul_ne (finv_ne hz) (finv_ne hz))) (finv_ne hz)
  have hz3 : y * z + y * z ≠ 0 := half B (Fld.mul_ne hy hz)
  have hw := Fld.mul_finv _ hz3
  rw [e2] at haff
  generalize hie : Fld.finv z = i at *
  have hne := haff.ne
  have hnn : ¬ ((x * (i * i), y * (i * i) * i).1 = (x * (i * i), y * (i * i) * i).1 ∧ (x * (i * i), y * (i * i) * i).2 + (x * (i * i), y * (i * i) * i).2 = 0) := fun h => half B hyy h.2
  have hl := slope_ok haff haff hnn
  have e3 : cadd (x * (i * i), y * (i * i) * i) (x * (i * i), y * (i * i) * i) = third (slope (x * (i * i), y * (i * i) * i) (x * (i * i), y * (i * i) * i)) (x * (i * i), y * (i * i) * i) (x * (i * i), y * (i * i) * i) := by
    unfold cadd; rw [if_neg hne, if_neg hne, if_neg hnn]
  have h3a := third_aff haff hl
  have T := hl.tan
  generalize slope (x * (i * i), y * (i * i) * i) (x * (i * i), y * (i * i) * i) = l at *
  have e1 : gdbl (x, y, z) = ((x * x + x * x + x * x) * (x * x + x * x + x * x) - ((x + y * y) * (x + y * y) - x * x - y * y * (y * y) + ((x + y * y) * (x + y * y) - x * x - y * y * (y * y))) - ((x + y * y) * (x + y * y) - x * x - y * y * (y * y) + ((x + y * y) * (x + y * y) - x * x - y * y * (y * y))),
      (x * x + x * x + x * x) * (((x + y * y) * (x + y * y) - x * x - y * y * (y * y) + ((x + y * y) * (x + y * y) - x * x - y * y * (y * y))) - ((x * x + x * x + x * x) * (x * x + x * x + x * x) - ((x + y * y) * (x + y * y) - x * x - y * y * (y * y) + ((x + y * y) * (x + y * y) - x * x - y * y * (y * y))) - ((x + y * y) * (x + y * y) - x * x - y * y * (y * y) + ((x + y * y) * (x + y * y) - x * x - y * y * (y * y))))) - (y * y * (y * y) + y * y * (y * y) + (y * y * (y * y) + y * y * (y * y))) - (y * y * (y * y) + y * y * (y * y) + (y * y * (y * y) + y * y * (y * y))),
      y * z + y * z) := (if_neg hz).trans (if_neg hy)
  have e4 := dbl_pure (x := x) hi hw
  have hle : l = (x * x + x * x + x * x) * Fld.finv (y * z + y * z) := by
    have hyy' := half B hyy
    refine Fld.cancel hyy' ?_
    have T : x * (i * i) * (x * (i * i)) + x * (i * i) * (x * (i * i)) + x * (i * i) * (x * (i * i)) = l * (y * (i * i) * i + y * (i * i) * i + l * (x * (i * i) - x * (i * i))) := T
    generalize Fld.finv (y * z + y * z) = w at *
    exact (eq_of_sub (Eq.trans (show (((((y * (i * i)) * i) + ((y * (i * i)) * i)) * l) - ((((y * (i * i)) * i) + ((y * (i * i)) * i)) * ((((x * x) + (x * x)) + (x * x)) * w))) = (((-1) * (((((x * (i * i)) * (x * (i * i))) + ((x * (i * i)) * (x * (i * i)))) + ((x * (i * i)) * (x * (i * i)))) - (l * ((((y * (i * i)) * i) + ((y * (i * i)) * i)) + (l * ((x * (i * i)) - (x * (i * i)))))))) + (((((((x * x) + (x * x)) + (x * x)) * i) * i) * i) * (i - ((y + y) * w)))) from ring_id (fun vi_ => vget vi_ [x, y, i, w, l]) (.sub (.mul (.add (.mul (.mul (.var 1) (.mul (.var 2) (.var 2))) (.var 2)) (.mul (.mul (.var 1) (.mul (.var 2) (.var 2))) (.var 2))) (.var 4)) (.mul (.add (.mul (.mul (.var 1) (.mul (.var 2) (.var 2))) (.var 2)) (.mul (.mul (.var 1) (.mul (.var 2) (.var 2))) (.var 2))) (.mul (.add (.add (.mul (.var 0) (.var 0)) (.mul (.var 0) (.var 0))) (.mul (.var 0) (.var 0))) (.var 3)))) (.add (.mul (.neg .one) (.sub (.add (.add (.mul (.mul (.var 0) (.mul (.var 2) (.var 2))) (.mul (.var 0) (.mul (.var 2) (.var 2)))) (.mul (.mul (.var 0) (.mul (.var 2) (.var 2))) (.mul (.var 0) (.mul (.var 2) (.var 2))))) (.mul (.mul (.var 0) (.mul (.var 2) (.var 2))) (.mul (.var 0) (.mul (.var 2) (.var 2))))) (.mul (.var 4) (.add (.add (.mul (.mul (.var 1) (.mul (.var 2) (.var 2))) (.var 2)) (.mul (.mul (.var 1) (.mul (.var 2) (.var 2))) (.var 2))) (.mul (.var 4) (.sub (.mul (.var 0) (.mul (.var 2) (.var 2))) (.mul (.var 0) (.mul (.var 2) (.var 2))))))))) (.mul (.mul (.mul (.mul (.add (.add (.mul (.var 0) (.var 0)) (.mul (.var 0) (.var 0))) (.mul (.var 0) (.var 0))) (.var 2)) (.var 2)) (.var 2)) (.sub (.var 2) (.mul (.add (.var 1) (.var 1)) (.var 3))))) (by kernel_rfl)) (lz2 (lz T) (lz e4))))
  have e5 : gpt (gdbl (x, y, z)) = third l (x * (i * i), y * (i * i) * i) (x * (i * i), y * (i * i) * i) := by
    rw [e1]
    unfold gpt third
    rw [if_neg hz3]
    generalize Fld.finv (y * z + y * z) = w at *
    rw [hle, e4]
    refine Prod.ext ?_ ?_
    · exact (show (((((((x * x) + (x * x)) + (x * x)) * (((x * x) + (x * x)) + (x * x))) - (((((x + (y * y)) * (x + (y * y))) - (x * x)) - ((y * y) * (y * y))) + ((((x + (y * y)) * (x + (y * y))) - (x * x)) - ((y * y) * (y * y))))) - (((((x + (y * y)) * (x + (y * y))) - (x * x)) - ((y * y) * (y * y))) + ((((x + (y * y)) * (x + (y * y))) - (x * x)) - ((y * y) * (y * y))))) * (w * w)) = (((((((x * x) + (x * x)) + (x * x)) * w) * ((((x * x) + (x * x)) + (x * x)) * w)) - (x * (((y + y) * w) * ((y + y) * w)))) - (x * (((y + y) * w) * ((y + y) * w)))) from ring_id (fun vi_ => vget vi_ [x, y, w]) (.mul (.sub (.sub (.mul (.add (.add (.mul (.var 0) (.var 0)) (.mul (.var 0) (.var 0))) (.mul (.var 0) (.var 0))) (.add (.add (.mul (.var 0) (.var 0)) (.mul (.var 0) (.var 0))) (.mul (.var 0) (.var 0)))) (.add (.sub (.sub (.mul (.add (.var 0) (.mul (.var 1) (.var 1))) (.add (.var 0) (.mul (.var 1) (.var 1)))) (.mul (.var 0) (.var 0))) (.mul (.mul (.var 1) (.var 1)) (.mul (.var 1) (.var 1)))) (.sub (.sub (.mul (.add (.var 0) (.mul (.var 1) (.var 1))) (.add (.var 0) (.mul (.var 1) (.var 1)))) (.mul (.var 0) (.var 0))) (.mul (.mul (.var 1) (.var 1)) (.mul (.var 1) (.var 1)))))) (.add (.sub (.sub (.mul (.add (.var 0) (.mul (.var 1) (.var 1))) (.add (.var 0) (.mul (.var 1) (.var 1)))) (.mul (.var 0) (.var 0))) (.mul (.mul (.var 1) (.var 1)) (.mul (.var 1) (.var 1)))) (.sub (.sub (.mul (.add (.var 0) (.mul (.var 1) (.var 1))) (.add (.var 0) (.mul (.var 1) (.var 1)))) (.mul (.var 0) (.var 0))) (.mul (.mul (.var 1) (.var 1)) (.mul (.var 1) (.var 1)))))) (.mul (.var 2) (.var 2))) (.sub (.sub (.mul (.mul (.add (.add (.mul (.var 0) (.var 0)) (.mul (.var 0) (.var 0))) (.mul (.var 0) (.var 0))) (.var 2)) (.mul (.add (.add (.mul (.var 0) (.var 0)) (.mul (.var 0) (.var 0))) (.mul (.var 0) (.var 0))) (.var 2))) (.mul (.var 0) (.mul (.mul (.add (.var 1) (.var 1)) (.var 2)) (.mul (.add (.var 1) (.var 1)) (.var 2))))) (.mul (.var 0) (.mul (.mul (.add (.var 1) (.var 1)) (.var 2)) (.mul (.add (.var 1) (.var 1)) (.var 2))))) (by kernel_rfl))
    · exact (show ((((((((x * x) + (x * x)) + (x * x)) * ((((((x + (y * y)) * (x + (y * y))) - (x * x)) - ((y * y) * (y * y))) + ((((x + (y * y)) * (x + (y * y))) - (x * x)) - ((y * y) * (y * y)))) - ((((((x * x) + (x * x)) + (x * x)) * (((x * x) + (x * x)) + (x * x))) - (((((x + (y * y)) * (x + (y * y))) - (x * x)) - ((y * y) * (y * y))) + ((((x + (y * y)) * (x + (y * y))) - (x * x)) - ((y * y) * (y * y))))) - (((((x + (y * y)) * (x + (y * y))) - (x * x)) - ((y * y) * (y * y))) + ((((x + (y * y)) * (x + (y * y))) - (x * x)) - ((y * y) * (y * y))))))) - ((((y * y) * (y * y)) + ((y * y) * (y * y))) + (((y * y) * (y * y)) + ((y * y) * (y * y))))) - ((((y * y) * (y * y)) + ((y * y) * (y * y))) + (((y * y) * (y * y)) + ((y * y) * (y * y))))) * (w * w)) * w) = ((((((x * x) + (x * x)) + (x * x)) * w) * ((x * (((y + y) * w) * ((y + y) * w))) - (((((((x * x) + (x * x)) + (x * x)) * w) * ((((x * x) + (x * x)) + (x * x)) * w)) - (x * (((y + y) * w) * ((y + y) * w)))) - (x * (((y + y) * w) * ((y + y) * w)))))) - ((y * (((y + y) * w) * ((y + y) * w))) * ((y + y) * w))) from ring_id (fun vi_ => vget vi_ [x, y, w]) (.mul (.mul (.sub (.sub (.mul (.add (.add (.mul (.var 0) (.var 0)) (.mul (.var 0) (.var 0))) (.mul (.var 0) (.var 0))) (.sub (.add (.sub (.sub (.mul (.add (.var 0) (.mul (.var 1) (.var 1))) (.add (.var 0) (.mul (.var 1) (.var 1)))) (.mul (.var 0) (.var 0))) (.mul (.mul (.var 1) (.var 1)) (.mul (.var 1) (.var 1)))) (.sub (.sub (.mul (.add (.var 0) (.mul (.var 1) (.var 1))) (.add (.var 0) (.mul (.var 1) (.var 1)))) (.mul (.var 0) (.var 0))) (.mul (.mul (.var 1) (.var 1)) (.mul (.var 1) (.var 1))))) (.sub (.sub (.mul (.add (.add (.mul (.var 0) (.var 0)) (.mul (.var 0) (.var 0))) (.mul (.var 0) (.var 0))) (.add (.add (.mul (.var 0) (.var 0)) (.mul (.var 0) (.var 0))) (.mul (.var 0) (.var 0)))) (.add (.sub (.sub (.mul (.add (.var 0) (.mul (.var 1) (.var 1))) (.add (.var 0) (.mul (.var 1) (.var 1)))) (.mul (.var 0) (.var 0))) (.mul (.mul (.var 1) (.var 1)) (.mul (.var 1) (.var 1)))) (.sub (.sub (.mul (.add (.var 0) (.mul (.var 1) (.var 1))) (.add (.var 0) (.mul (.var 1) (.var 1)))) (.mul (.var 0) (.var 0))) (.mul (.mul (.var 1) (.var 1)) (.mul (.var 1) (.var 1)))))) (.add (.sub (.sub (.mul (.add (.var 0) (.mul (.var 1) (.var 1))) (.add (.var 0) (.mul (.var 1) (.var 1)))) (.mul (.var 0) (.var 0))) (.mul (.mul (.var 1) (.var 1)) (.mul (.var 1) (.var 1)))) (.sub (.sub (.mul (.add (.var 0) (.mul (.var 1) (.var 1))) (.add (.var 0) (.mul (.var 1) (.var 1)))) (.mul (.var 0) (.var 0))) (.mul (.mul (.var 1) (.var 1)) (.mul (.var 1) (.var 1)))))))) (.add (.add (.mul (.mul (.var 1) (.var 1)) (.mul (.var 1) (.var 1))) (.mul (.mul (.var 1) (.var 1)) (.mul (.var 1) (.var 1)))) (.add (.mul (.mul (.var 1) (.var 1)) (.mul (.var 1) (.var 1))) (.mul (.mul (.var 1) (.var 1)) (.mul (.var 1) (.var 1)))))) (.add (.add (.mul (.mul (.var 1) (.var 1)) (.mul (.var 1) (.var 1))) (.mul (.mul (.var 1) (.var 1)) (.mul (.var 1) (.var 1)))) (.add (.mul (.mul (.var 1) (.var 1)) (.mul (.var 1) (.var 1))) (.mul (.mul (.var 1) (.var 1)) (.mul (.var 1) (.var 1)))))) (.mul (.var 2) (.var 2))) (.var 2)) (.sub (.mul (.mul (.add (.add (.mul (.var 0) (.var 0)) (.mul (.var 0) (.var 0))) (.mul (.var 0) (.var 0))) (.var 2)) (.sub (.mul (.var 0) (.mul (.mul (.add (.var 1) (.var 1)) (.var 2)) (.mul (.add (.var 1) (.var 1)) (.var 2)))) (.sub (.sub (.mul (.mul (.add (.add (.mul (.var 0) (.var 0)) (.mul (.var 0) (.var 0))) (.mul (.var 0) (.var 0))) (.var 2)) (.mul (.add (.add (.mul (.var 0) (.var 0)) (.mul (.var 0) (.var 0))) (.mul (.var 0) (.var 0))) (.var 2))) (.mul (.var 0) (.mul (.mul (.add (.var 1) (.var 1)) (.var 2)) (.mul (.add (.var 1) (.var 1)) (.var 2))))) (.mul (.var 0) (.mul (.mul (.add (.var 1) (.var 1)) (.var 2)) (.mul (.add (.var 1) (.var 1)) (.var 2))))))) (.mul (.mul (.var 1) (.mul (.mul (.add (.var 1) (.var 1)) (.var 2)) (.mul (.add (.var 1) (.var 1)) (.var 2)))) (.mul (.add (.var 1) (.var 1)) (.var 2)))) (by kernel_rfl))
  rw [e2, e3, e5]
  exact ⟨rfl, .inr (by rw [e5]; exact h3a)⟩
theorem gadd_ok {j : J3 α} {q : α × α} (hj : JOk B j) (hq : On B q) : gpt (gadd j q) = cadd (gpt j) q ∧ JOk B (gadd j q) := by
  obtain ⟨x, y, z⟩ := j
  by_cases hq0 : q = (0, 0)
  · have e1 : gadd (x, y, z) q = (x, y, z) := if_pos hq0
    rw [e1, hq0, cadd_zero]
    exact ⟨rfl, hj⟩
  by_cases hz : z = 0
  · have e1 : gadd (x, y, z) q = gtoj q := (if_neg hq0).trans (if_pos hz)
    rw [e1, show gpt (x, y, z) = (0, 0) from if_pos hz, zero_cadd, gpt_toj]
    exact ⟨rfl, JOk.toj hq⟩
  have hqa : Aff B q := hq.resolve_left hq0
  have hpa : Aff B (gpt (x, y, z)) := hj.resolve_left hz
  have e2 : gpt (x, y, z) = (x * (Fld.finv z * Fld.finv z), y * (Fld.finv z * Fld.finv z) * Fld.finv z) := if_neg hz
  have hi := Fld.mul_finv z hz
  have hin := finv_ne hz
  obtain ⟨q1, q2⟩ := q
  have hH : gaddH (x, y, z) (q1, q2) = q1 * (z * z) - x := rfl
  have hR : gaddR (x, y, z) (q1, q2) = q2 * z * (z * z) - y := rfl
  have hunf : gadd (x, y, z) (q1, q2) = if gaddH (x, y, z) (q1, q2) = 0 then (if gaddR (x, y, z) (q1, q2) = 0 then gdbl (x, y, z) else (0, 0, 0)) else gaddN (x, y, z) (q1, q2) := (if_neg hq0).trans (if_neg hz)
  have hpa' := hpa
  rw [e2] at hpa'
  have cA : gaddH (x, y, z) (q1, q2) * (Fld.finv z * Fld.finv z) = q1 - x * (Fld.finv z * Fld.finv z) := by
    rw [hH]
    generalize Fld.finv z = i at *
    exact (eq_of_sub (Eq.trans (show ((((q1 * (z * z)) - x) * (i * i)) - (q1 - (x * (i * i)))) = ((q1 * ((z * i) + 1)) * ((z * i) - 1)) from ring_id (fun vi_ => vget vi_ [x, z, i, q1]) (.sub (.mul (.sub (.mul (.var 3) (.mul (.var 1) (.var 1))) (.var 0)) (.mul (.var 2) (.var 2))) (.sub (.var 3) (.mul (.var 0) (.mul (.var 2) (.var 2))))) (.mul (.mul (.var 3) (.add (.mul (.var 1) (.var 2)) .one)) (.sub (.mul (.var 1) (.var 2)) .one)) (by kernel_rfl)) (lz hi)))
  have cB : gaddR (x, y, z) (q1, q2) * (Fld.finv z * Fld.finv z * Fld.finv z) = q2 - y * (Fld.finv z * Fld.finv z) * Fld.finv z := by
    rw [hR]
    generalize Fld.finv z = i at *
    exact (eq_of_sub (Eq.trans (show (((((q2 * z) * (z * z)) - y) * ((i * i) * i)) - (q2 - ((y * (i * i)) * i))) = ((q2 * ((((z * i) * (z * i)) + (z * i)) + 1)) * ((z * i) - 1)) from ring_id (fun vi_ => vget vi_ [y, z, i, q2]) (.sub (.mul (.sub (.mul (.mul (.var 3) (.var 1)) (.mul (.var 1) (.var 1))) (.var 0)) (.mul (.mul (.var 2) (.var 2)) (.var 2))) (.sub (.var 3) (.mul (.mul (.var 0) (.mul (.var 2) (.var 2))) (.var 2)))) (.mul (.mul (.var 3) (.add (.add (.mul (.mul (.var 1) (.var 2)) (.mul (.var 1) (.var 2))) (.mul (.var 1) (.var 2))) .one)) (.sub (.mul (.var 1) (.var 2)) .one)) (by kernel_rfl)) (lz hi)))
  by_cases h0 : gaddH (x, y, z) (q1, q2) = 0
  · have ex : x * (Fld.finv z * Fld.finv z) = q1 := by
      rw [h0, zero_mul'] at cA; exact (eq_of_sub cA.symm).symm
    by_cases r0 : gaddR (x, y, z) (q1, q2) = 0
    · have ey : y * (Fld.finv z * Fld.finv z) * Fld.finv z = q2 := by
        rw [r0, zero_mul'] at cB; exact (eq_of_sub cB.symm).symm
      rw [hunf, if_pos h0, if_pos r0]
      have he : gpt (x, y, z) = (q1, q2) := by rw [e2, ex, ey]
      have h := gdbl_ok hj
      rw [he] at h
      rw [he]
      exact h
    · rw [hunf, if_pos h0, if_neg r0]
      refine ⟨?_, .inl rfl⟩
      rw [show gpt ((0, 0, 0) : J3 α) = (0, 0) from if_pos rfl]
      have hne : y * (Fld.finv z * Fld.finv z) * Fld.finv z ≠ q2 := by
        intro e
        rw [e, sub_self'] at cB
        exact Fld.mul_ne r0 (Fld.mul_ne (Fld.mul_ne hin hin) hin) cB
      rw [e2]
      rw [e2] at hpa
      generalize y * (Fld.finv z * Fld.finv z) * Fld.finv z = y' at *
      generalize x * (Fld.finv z * Fld.finv z) = x' at *
      subst ex
      have hs : y' + q2 = 0 := by
        apply Classical.byContradiction
        intro hs
        refine Fld.mul_ne (sub_ne hne) hs ?_
        have H1 : y' * y' = x' * x' * x' + B := hpa
        have H2 : q2 * q2 = x' * x' * x' + B := hqa
        exact (eq_of_sub (Eq.trans (show (((q2 - y') * (y' + q2)) - 0) = ((1 * ((q2 * q2) - (((x' * x') * x') + B))) + ((-1) * ((y' * y') - (((x' * x') * x') + B)))) from ring_id (fun vi_ => vget vi_ [y', q2, x', B]) (.sub (.mul (.sub (.var 1) (.var 0)) (.add (.var 0) (.var 1))) .zero) (.add (.mul .one (.sub (.mul (.var 1) (.var 1)) (.add (.mul (.mul (.var 2) (.var 2)) (.var 2)) (.var 3)))) (.mul (.neg .one) (.sub (.mul (.var 0) (.var 0)) (.add (.mul (.mul (.var 2) (.var 2)) (.var 2)) (.var 3))))) (by kernel_rfl)) (lz2 (lz H2) (lz H1))))
      unfold cadd
      rw [if_neg hpa.ne, if_neg hq0, if_pos ⟨rfl, hs⟩]
  · rw [hunf, if_neg h0]
    have hxne : x * (Fld.finv z * Fld.finv z) ≠ q1 := by
      intro e
      rw [e, sub_self'] at cA
      exact Fld.mul_ne h0 (Fld.mul_ne hin hin) cA
    have hnn : ¬ ((x * (Fld.finv z * Fld.finv z), y * (Fld.finv z * Fld.finv z) * Fld.finv z).1 = (q1, q2).1 ∧ (x * (Fld.finv z * Fld.finv z), y * (Fld.finv z * Fld.finv z) * Fld.finv z).2 + (q1, q2).2 = 0) := fun h => hxne h.1
    have hl := slope_ok hpa' hqa hnn
    have e3 : cadd (x * (Fld.finv z * Fld.finv z), y * (Fld.finv z * Fld.finv z) * Fld.finv z) (q1, q2) = third (slope (x * (Fld.finv z * Fld.finv z), y * (Fld.finv z * Fld.finv z) * Fld.finv z) (q1, q2)) (x * (Fld.finv z * Fld.finv z), y * (Fld.finv z * Fld.finv z) * Fld.finv z) (q1, q2) := by
      unfold cadd; rw [if_neg hpa'.ne, if_neg hq0, if_neg hnn]
    have h3a := third_aff hpa' hl
    have hat := hl.at_
    generalize slope (x * (Fld.finv z * Fld.finv z), y * (Fld.finv z * Fld.finv z) * Fld.finv z) (q1, q2) = l at *
    have hat : q2 = y * (Fld.finv z * Fld.finv z) * Fld.finv z + l * (q1 - x * (Fld.finv z * Fld.finv z)) := hat
    have hN : gaddN (x, y, z) (q1, q2) = (let zz := z * z; let h := gaddH (x, y, z) (q1, q2); let r := gaddR (x, y, z) (q1, q2) + gaddR (x, y, z) (q1, q2); let hh := h * h; let i := (hh + hh) + (hh + hh); let j := h * i; let v := x * i; let xx := r * r - j - v - v; let yj := y * j; (xx, r * (v - xx) - yj - yj, (z + h) * (z + h) - zz - hh)) := rfl
    generalize gaddH (x, y, z) (q1, q2) = h at *
    generalize gaddR (x, y, z) (q1, q2) = r at *
    have hz3 : (z + h) * (z + h) - z * z - h * h ≠ 0 := by
      rw [(show ((((z + h) * (z + h)) - (z * z)) - (h * h)) = ((1 + 1) * (z * h)) from ring_id (fun vi_ => vget vi_ [z, h]) (.sub (.sub (.mul (.add (.var 0) (.var 1)) (.add (.var 0) (.var 1))) (.mul (.var 0) (.var 0))) (.mul (.var 1) (.var 1))) (.mul (.add .one .one) (.mul (.var 0) (.var 1))) (by kernel_rfl))]
      exact Fld.mul_ne hG.two (Fld.mul_ne hz h0)
    have hw := Fld.mul_finv _ hz3
    have e5 : gpt (gaddN (x, y, z) (q1, q2)) = third l (x * (Fld.finv z * Fld.finv z), y * (Fld.finv z * Fld.finv z) * Fld.finv z) (q1, q2) := by
      rw [hN]
      unfold gpt third
      simp only
      rw [if_neg hz3]
      generalize Fld.finv ((z + h) * (z + h) - z * z - h * h) = w at *
      generalize Fld.finv z = i at *
      have e4 : i = (h + h) * w :=
        (eq_of_sub (Eq.trans (show (i - ((h + h) * w)) = (((-i) * ((((((z + h) * (z + h)) - (z * z)) - (h * h)) * w) - 1)) + (((h + h) * w) * ((z * i) - 1))) from ring_id (fun vi_ => vget vi_ [z, h, i, w]) (.sub (.var 2) (.mul (.add (.var 1) (.var 1)) (.var 3))) (.add (.mul (.neg (.var 2)) (.sub (.mul (.sub (.sub (.mul (.add (.var 0) (.var 1)) (.add (.var 0) (.var 1))) (.mul (.var 0) (.var 0))) (.mul (.var 1) (.var 1))) (.var 3)) .one)) (.mul (.mul (.add (.var 1) (.var 1)) (.var 3)) (.sub (.mul (.var 0) (.var 2)) .one))) (by kernel_rfl)) (lz2 (lz hw) (lz hi))))
      have hle : l = (r + r) * w := by
        refine Fld.cancel (sub_ne hxne) ?_
        exact (eq_of_sub (Eq.trans (show (((q1 - (x * (i * i))) * l) - ((q1 - (x * (i * i))) * ((r + r) * w))) = (((((-1) * (q2 - (((y * (i * i)) * i) + (l * (q1 - (x * (i * i))))))) + ((-1) * ((r * ((i * i) * i)) - (q2 - ((y * (i * i)) * i))))) + (((r + r) * w) * ((h * (i * i)) - (q1 - (x * (i * i)))))) + ((r * (i * i)) * (i - ((h + h) * w)))) from ring_id (fun vi_ => vget vi_ [x, y, h, r, i, w, l, q1, q2]) (.sub (.mul (.sub (.var 7) (.mul (.var 0) (.mul (.var 4) (.var 4)))) (.var 6)) (.mul (.sub (.var 7) (.mul (.var 0) (.mul (.var 4) (.var 4)))) (.mul (.add (.var 3) (.var 3)) (.var 5)))) (.add (.add (.add (.mul (.neg .one) (.sub (.var 8) (.add (.mul (.mul (.var 1) (.mul (.var 4) (.var 4))) (.var 4)) (.mul (.var 6) (.sub (.var 7) (.mul (.var 0) (.mul (.var 4) (.var 4)))))))) (.mul (.neg .one) (.sub (.mul (.var 3) (.mul (.mul (.var 4) (.var 4)) (.var 4))) (.sub (.var 8) (.mul (.mul (.var 1) (.mul (.var 4) (.var 4))) (.var 4)))))) (.mul (.mul (.add (.var 3) (.var 3)) (.var 5)) (.sub (.mul (.var 2) (.mul (.var 4) (.var 4))) (.sub (.var 7) (.mul (.var 0) (.mul (.var 4) (.var 4))))))) (.mul (.mul (.var 3) (.mul (.var 4) (.var 4))) (.sub (.var 4) (.mul (.add (.var 2) (.var 2)) (.var 5))))) (by kernel_rfl)) (lz2 (lz2 (lz2 (lz hat) (lz cB)) (lz cA)) (lz e4))))
      rw [hle]
      subst e4
      refine Prod.ext ?_ ?_
      · exact (eq_of_sub (Eq.trans (show (((((((r + r) * (r + r)) - (h * (((h * h) + (h * h)) + ((h * h) + (h * h))))) - (x * (((h * h) + (h * h)) + ((h * h) + (h * h))))) - (x * (((h * h) + (h * h)) + ((h * h) + (h * h))))) * (w * w)) - (((((r + r) * w) * ((r + r) * w)) - (x * (((h + h) * w) * ((h + h) * w)))) - q1)) = ((-1) * ((h * (((h + h) * w) * ((h + h) * w))) - (q1 - (x * (((h + h) * w) * ((h + h) * w)))))) from ring_id (fun vi_ => vget vi_ [x, h, r, w, q1]) (.sub (.mul (.sub (.sub (.sub (.mul (.add (.var 2) (.var 2)) (.add (.var 2) (.var 2))) (.mul (.var 1) (.add (.add (.mul (.var 1) (.var 1)) (.mul (.var 1) (.var 1))) (.add (.mul (.var 1) (.var 1)) (.mul (.var 1) (.var 1)))))) (.mul (.var 0) (.add (.add (.mul (.var 1) (.var 1)) (.mul (.var 1) (.var 1))) (.add (.mul (.var 1) (.var 1)) (.mul (.var 1) (.var 1)))))) (.mul (.var 0) (.add (.add (.mul (.var 1) (.var 1)) (.mul (.var 1) (.var 1))) (.add (.mul (.var 1) (.var 1)) (.mul (.var 1) (.var 1)))))) (.mul (.var 3) (.var 3))) (.sub (.sub (.mul (.mul (.add (.var 2) (.var 2)) (.var 3)) (.mul (.add (.var 2) (.var 2)) (.var 3))) (.mul (.var 0) (.mul (.mul (.add (.var 1) (.var 1)) (.var 3)) (.mul (.add (.var 1) (.var 1)) (.var 3))))) (.var 4))) (.mul (.neg .one) (.sub (.mul (.var 1) (.mul (.mul (.add (.var 1) (.var 1)) (.var 3)) (.mul (.add (.var 1) (.var 1)) (.var 3)))) (.sub (.var 4) (.mul (.var 0) (.mul (.mul (.add (.var 1) (.var 1)) (.var 3)) (.mul (.add (.var 1) (.var 1)) (.var 3))))))) (by kernel_rfl)) (lz cA)))
      · exact (eq_of_sub (Eq.trans (show (((((((r + r) * ((x * (((h * h) + (h * h)) + ((h * h) + (h * h)))) - (((((r + r) * (r + r)) - (h * (((h * h) + (h * h)) + ((h * h) + (h * h))))) - (x * (((h * h) + (h * h)) + ((h * h) + (h * h))))) - (x * (((h * h) + (h * h)) + ((h * h) + (h * h))))))) - (y * (h * (((h * h) + (h * h)) + ((h * h) + (h * h)))))) - (y * (h * (((h * h) + (h * h)) + ((h * h) + (h * h)))))) * (w * w)) * w) - ((((r + r) * w) * ((x * (((h + h) * w) * ((h + h) * w))) - (((((r + r) * w) * ((r + r) * w)) - (x * (((h + h) * w) * ((h + h) * w)))) - q1))) - ((y * (((h + h) * w) * ((h + h) * w))) * ((h + h) * w)))) = (((r + r) * w) * ((h * (((h + h) * w) * ((h + h) * w))) - (q1 - (x * (((h + h) * w) * ((h + h) * w)))))) from ring_id (fun vi_ => vget vi_ [x, y, h, r, w, q1]) (.sub (.mul (.mul (.sub (.sub (.mul (.add (.var 3) (.var 3)) (.sub (.mul (.var 0) (.add (.add (.mul (.var 2) (.var 2)) (.mul (.var 2) (.var 2))) (.add (.mul (.var 2) (.var 2)) (.mul (.var 2) (.var 2))))) (.sub (.sub (.sub (.mul (.add (.var 3) (.var 3)) (.add (.var 3) (.var 3))) (.mul (.var 2) (.add (.add (.mul (.var 2) (.var 2)) (.mul (.var 2) (.var 2))) (.add (.mul (.var 2) (.var 2)) (.mul (.var 2) (.var 2)))))) (.mul (.var 0) (.add (.add (.mul (.var 2) (.var 2)) (.mul (.var 2) (.var 2))) (.add (.mul (.var 2) (.var 2)) (.mul (.var 2) (.var 2)))))) (.mul (.var 0) (.add (.add (.mul (.var 2) (.var 2)) (.mul (.var 2) (.var 2))) (.add (.mul (.var 2) (.var 2)) (.mul (.var 2) (.var 2)))))))) (.mul (.var 1) (.mul (.var 2) (.add (.add (.mul (.var 2) (.var 2)) (.mul (.var 2) (.var 2))) (.add (.mul (.var 2) (.var 2)) (.mul (.var 2) (.var 2))))))) (.mul (.var 1) (.mul (.var 2) (.add (.add (.mul (.var 2) (.var 2)) (.mul (.var 2) (.var 2))) (.add (.mul (.var 2) (.var 2)) (.mul (.var 2) (.var 2))))))) (.mul (.var 4) (.var 4))) (.var 4)) (.sub (.mul (.mul (.add (.var 3) (.var 3)) (.var 4)) (.sub (.mul (.var 0) (.mul (.mul (.add (.var 2) (.var 2)) (.var 4)) (.mul (.add (.var 2) (.var 2)) (.var 4)))) (.sub (.sub (.mul (.mul (.add (.var 3) (.var 3)) (.var 4)) (.mul (.add (.var 3) (.var 3)) (.var 4))) (.mul (.var 0) (.mul (.mul (.add (.var 2) (.var 2)) (.var 4)) (.mul (.add (.var 2) (.var 2)) (.var 4))))) (.var 5)))) (.mul (.mul (.var 1) (.mul (.mul (.add (.var 2) (.var 2)) (.var 4)) (.mul (.add (.var 2) (.var 2)) (.var 4)))) (.mul (.add (.var 2) (.var 2)) (.var 4))))) (.mul (.mul (.add (.var 3) (.var 3)) (.var 4)) (.sub (.mul (.var 2) (.mul (.mul (.add (.var 2) (.var 2)) (.var 4)) (.mul (.add (.var 2) (.var 2)) (.var 4)))) (.sub (.var 5) (.mul (.var 0) (.mul (.mul (.add (.var 2) (.var 2)) (.var 4)) (.mul (.add (.var 2) (.var 2)) (.var 4))))))) (by kernel_rfl)) (lz cA)))
    rw [e2, e3, e5]
    exact ⟨rfl, .inr (by rw [e5]; exact h3a)⟩
theorem step_dbl {j : J3 α} {x : Gp B} (hj : JOk B j) (h : gpt j = x.1) : JOk B (gdbl j) ∧ gpt (gdbl j) = (x + x).1 := by
  obtain ⟨h1, h2⟩ := gdbl_ok hj
  exact ⟨h2, by rw [h1, h]; rfl⟩
theorem step_add {j : J3 α} {x : Gp B} (q : Gp B) (hj : JOk B j) (h : gpt j = x.1) : JOk B (gadd j q.1) ∧ gpt (gadd j q.1) = (x + q).1 := by
  obtain ⟨h1, h2⟩ := gadd_ok hj q.2
  exact ⟨h2, by rw [h1, h]; rfl⟩
theorem step_sums : ∀ (l : List (Gp B)) {j : J3 α} {x : Gp B}, JOk B j → gpt j = x.1 → JOk B ((l.map (·.1)).foldl gadd j) ∧ gpt ((l.map (·.1)).foldl gadd j) = (l.foldl (· + ·) x).1
  | [], _, _, hj, h => ⟨hj, h⟩
  | q :: l, _, _, hj, h => by
    obtain ⟨h1, h2⟩ := step_add q hj h
    exact step_sums l h1 h2
theorem jzero_ok : JOk B ((0, 0, 0) : J3 α) ∧ gpt ((0, 0, 0) : J3 α) = (0 : Gp B).1 := ⟨.inl rfl, if_pos rfl⟩
/-- The ladder: n times p, for n of at most f bits. -/
def glad (p : α × α) : Nat → Nat → J3 α
  | 0, _ => (0, 0, 0)
  | f + 1, n => if n % 2 = 1 then gadd (gdbl (glad p f (n / 2))) p else gdbl (glad p f (n / 2))
theorem glad_ok (p : Gp B) : ∀ (f n : Nat), n < 2 ^ f → JOk B (glad p.1 f n) ∧ gpt (glad p.1 f n) = (nmul n p).1
  | 0, n, h => by
    obtain rfl : n = 0 := by simpa using h
    exact jzero_ok
  | f + 1, n, h => by
    obtain ⟨h1, h2⟩ := glad_ok p f (n / 2) (by rw [Nat.pow_succ] at h; omega)
    obtain ⟨h3, h4⟩ := step_dbl h1 h2
    have e : nmul (n / 2) p + nmul (n / 2) p = nmul (n / 2 * 2) p := by rw [nmul_mul, nmul_two]
    unfold glad
    split
    · obtain ⟨h5, h6⟩ := step_add p h3 h4
      refine ⟨h5, ?_⟩
      rw [h6, e]
      conv => rhs; rw [show n = n / 2 * 2 + 1 by omega]
      rfl
    · refine ⟨h3, ?_⟩
      rw [h4, e, show n / 2 * 2 = n by omega]
theorem nmul_zero_of {p : Gp B} {f n : Nat} (h : n < 2 ^ f) (hz : (glad p.1 f n).2.2 = 0) : nmul n p = 0 := by
  refine Gp.ext ?_
  rw [← (glad_ok p f n h).2]
  exact if_pos hz
end
end Go.Ec
