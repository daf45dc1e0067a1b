/-
  Part 3 of the joined texts of the curves' laws: Abelian groups and multiples; points by three coordinates, and their sums.
  Conditions: those that each theorem states.
-/
import Derived.Test.YtbchpfmfiokbgaaDoorR2
import Derived.Test.YtbchpfmfiokbgaaDoorProg
import Derived.Shelf.Bits.Mul64
import Derived.Shelf.Spec.BitsCarry
/- Abelian groups and multiples; points by three coordinates, and their sums. -/
namespace Go.Ec
open Go.Cu
open CR
set_option linter.unusedVariables false
set_option linter.unusedSimpArgs false
set_option linter.unusedSectionVars false
set_option linter.constructorNameAsVariable false

class AG (γ : Type) extends Add γ, Neg γ, Zero γ where
  acomm : ∀ a b : γ, a + b = b + a
  aassoc : ∀ a b c : γ, a + b + c = a + (b + c)
  zero_a : ∀ a : γ, 0 + a = a
  neg_a : ∀ a : γ, -a + a = 0
section
variable {γ : Type} [AG γ]
open AG
theorem a_zero (a : γ) : a + 0 = a := by rw [acomm, zero_a]
theorem a_neg (a : γ) : a + -a = 0 := by rw [acomm, neg_a]
theorem a_cancel {a b c : γ} (h : a + b = a + c) : b = c := by
  have := congrArg (-a + ·) h
  simpa only [← aassoc, neg_a, zero_a] using this
theorem a_neg_neg (a : γ) : - -a = a := a_cancel (a := -a) (by rw [a_neg, neg_a])
theorem a_neg_zero : -(0 : γ) = 0 := by have := neg_a (0 : γ); rwa [a_zero] at this
theorem a_neg_eq {a b : γ} (h : a + b = 0) : b = -a := a_cancel (a := a) (by rw [h, a_neg])
theorem a_four (a b c d : γ) : a + b + (c + d) = a + c + (b + d) := by
  rw [aassoc, ← aassoc b, acomm b c, aassoc c, ← aassoc]
theorem a_neg_add (a b : γ) : -(a + b) = -a + -b := (a_neg_eq (by rw [a_four, a_neg, a_neg, zero_a])).symm
def nmul : Nat → γ → γ
  | 0, _ => 0
  | n + 1, x => nmul n x + x
theorem nmul_add (a : Nat) (x : γ) : ∀ b, nmul (a + b) x = nmul a x + nmul b x
  | 0 => by rw [Nat.add_zero, nmul, a_zero]
  | b + 1 => by rw [← Nat.add_assoc, nmul, nmul_add a x b, nmul, aassoc]
theorem nmul_one (x : γ) : nmul 1 x = x := zero_a x
theorem nmul_zero : ∀ n, nmul n (0 : γ) = 0
  | 0 => rfl
  | n + 1 => by rw [nmul, nmul_zero n, zero_a]
theorem nmul_mul (a : Nat) (x : γ) : ∀ b, nmul (a * b) x = nmul b (nmul a x)
  | 0 => rfl
  | b + 1 => by rw [Nat.mul_succ, nmul_add, nmul_mul a x b, nmul]
theorem nmul_dist (x y : γ) : ∀ n, nmul n (x + y) = nmul n x + nmul n y
  | 0 => (zero_a 0).symm
  | n + 1 => by rw [nmul, nmul_dist x y n, nmul, nmul, a_four]
theorem nmul_neg (x : γ) : ∀ n, nmul n (-x) = -nmul n x
  | 0 => a_neg_zero.symm
  | n + 1 => by rw [nmul, nmul_neg x n, nmul, a_neg_add]
theorem nmul_two (x : γ) : nmul 2 x = x + x := by rw [nmul, nmul_one]
theorem nmul_comm (a b : Nat) (x : γ) : nmul a (nmul b x) = nmul b (nmul a x) := by rw [← nmul_mul, ← nmul_mul, Nat.mul_comm]
theorem nmul_mod {r : Nat} {x : γ} (h : nmul r x = 0) (a : Nat) : nmul (a % r) x = nmul a x := by
  conv => rhs; rw [← Nat.div_add_mod a r]
  rw [nmul_add, nmul_mul, h, nmul_zero, zero_a]
end

section
variable {α : Type} [Fld α] [DecidableEq α]
/-- The points of the curve. -/
def Gp (B : α) : Type := { p : α × α // On B p }
theorem Gp.ext {B : α} {p q : Gp B} (h : p.1 = q.1) : p = q := Subtype.ext h
instance {B : α} [Gd B] : AG (Gp B) where
  add p q := ⟨cadd p.1 q.1, p.2.cadd q.2⟩
  neg p := ⟨cneg p.1, p.2.cneg⟩
  zero := ⟨(0, 0), .inl rfl⟩
  acomm p q := Gp.ext (cadd_comm p.2 q.2)
  aassoc p q r := Gp.ext (cadd_assoc p.2 q.2 r.2)
  zero_a p := Gp.ext (zero_cadd p.1)
  neg_a p := Gp.ext ((cadd_comm p.2.cneg p.2).trans (cadd_cneg p.2))

abbrev J3 (α : Type) := α × α × α
def gtoj (p : α × α) : J3 α := if p = (0, 0) then (0, 0, 0) else (p.1, p.2, 1)
def gdbl (p : J3 α) : J3 α :=
  if p.2.2 = 0 then (0, 0, 0) else if p.2.1 = 0 then (0, 0, 0) else
    let a := p.1 * p.1
    let b := p.2.1 * p.2.1
    let c := b * b
    let d0 := (p.1 + b) * (p.1 + b) - a - c
    let d := d0 + d0
    let e := a + a + a
    let f := e * e - d - d
    let c4 := (c + c) + (c + c)
    (f, e * (d - f) - c4 - c4, p.2.1 * p.2.2 + p.2.1 * p.2.2)
def gaddH (p : J3 α) (q : α × α) : α := q.1 * (p.2.2 * p.2.2) - p.1
def gaddR (p : J3 α) (q : α × α) : α := q.2 * p.2.2 * (p.2.2 * p.2.2) - p.2.1
def gaddN (p : J3 α) (q : α × α) : J3 α :=
  let zz := p.2.2 * p.2.2
  let h := gaddH p q
  let r := gaddR p q + gaddR p q
  let hh := h * h
  let i := (hh + hh) + (hh + hh)
  let j := h * i
  let v := p.1 * i
  let x := r * r - j - v - v
  let yj := p.2.1 * j
  (x, r * (v - x) - yj - yj, (p.2.2 + h) * (p.2.2 + h) - zz - hh)
def gadd (p : J3 α) (q : α × α) : J3 α :=
  if q = (0, 0) then p else if p.2.2 = 0 then gtoj q else if gaddH p q = 0 then (if gaddR p q = 0 then gdbl p else (0, 0, 0)) else gaddN p q
def gpt (p : J3 α) : α × α := if p.2.2 = 0 then (0, 0) else
  let i := Fld.finv p.2.2
  let i2 := i * i
  (p.1 * i2, p.2.1 * i2 * i)
/-- The coordinates are those of the one at infinity, or of a point of the curve. -/
def JOk (B : α) (j : J3 α) : Prop := j.2.2 = 0 ∨ Aff B (gpt j)
variable {B : α} [hG : Gd B]
theorem JOk.on {j : J3 α} (h : JOk B j) : On B (gpt j) := by
  rcases h with h | h
  · exact .inl (if_pos h)
  · exact .inr h
theorem finv_one : Fld.finv (1 : α) = 1 := by have := Fld.mul_finv (1 : α) Fld.one_ne; rwa [one_mul] at this
theorem finv_ne {a : α} (h : a ≠ 0) : Fld.finv a ≠ 0 := fun e => Fld.one_ne (α := α) (by rw [← Fld.mul_finv a h, e, mul_zero'])
theorem Fld.cancel {a b c : α} (ha : a ≠ 0) (h : a * b = a * c) : b = c := by
  apply Classical.byContradiction
  intro hne
  refine Fld.mul_ne ha (b := b - c) (fun e => hne (eq_of_sub e)) ?_
  rw [sub_eq, mul_add, mul_comm a (-c), neg_mul', mul_comm c, h, add_neg]
theorem gpt_toj {p : α × α} : gpt (gtoj p) = p := by
  unfold gtoj
  split
  · rename_i h; rw [h]; exact if_pos rfl
  · unfold gpt
    rw [if_neg (Fld.one_ne (α := α))]
    simp only [finv_one, one_mul, mul_one']
theorem JOk.toj {p : α × α} (h : On B p) : JOk B (gtoj p) := by
  rcases h with rfl | h
  · exact .inl (by unfold gtoj; rw [if_pos rfl])
  · exact .inr (by rw [gpt_toj]; exact h)
theorem third_at {l l' : α} {p q : α × α} {u : α × α} (h : l = l') (h2 : third l' p q = u) : third l p q = u := by rw [h, h2]
theorem dbl_pure {x y z i w : α} (hz : z * i = 1) (hw : (y * z + y * z) * w = 1) : i = (y + y) * w :=
  (eq_of_sub (Eq.trans (show (i - ((y + y) * w)) = (((-i) * ((((y * z) + (y * z)) * w) - 1)) + (((y + y) * w) * ((z * i) - 1))) from ring_id (fun vi_ => vget vi_ [y, z, i, w]) (.sub (.var 2) (.mul (.add (.var 0) (.var 0)) (.var 3))) (.add (.mul (.neg (.var 2)) (.sub (.mul (.add (.mul (.var 0) (.var 1)) (.mul (.var 0) (.var 1))) (.var 3)) .one)) (.mul (.mul (.add (.var 0) (.var 0)) (.var 3)) (.sub (.mul (.var 1) (.var 2)) .one))) (by kernel_rfl)) (lz2 (lz hw) (lz hz))))
theorem gdbl_ok {j : J3 α} (hj : JOk B j) : gpt (gdbl j) = cadd (gpt j) (gpt j) ∧ JOk B (gdbl j) := by
  obtain ⟨x, y, z⟩ := j
  by_cases hz : z = 0
  · have e1 : gdbl (x, y, z) = (0, 0, 0) := if_pos hz
    have e2 : gpt (x, y, z) = (0, 0) := if_pos hz
    rw [e1, e2, zero_cadd]
    exact ⟨if_pos rfl, .inl rfl⟩
  have e2 : gpt (x, y, z) = (x * (Fld.finv z * Fld.finv z), y * (Fld.finv z * Fld.finv z) * Fld.finv z) := if_neg hz
  by_cases hy : y = 0
  · have e1 : gdbl (x, y, z) = (0, 0, 0) := (if_neg hz).trans (if_pos hy)
    rw [e1]
    refine ⟨?_, .inl rfl⟩
    rw [show gpt ((0, 0, 0) : J3 α) = (0, 0) from if_pos rfl, e2]
    subst hy
    by_cases h0 : (x * (Fld.finv z * Fld.finv z), (0 : α) * (Fld.finv z * Fld.finv z) * Fld.finv z) = (0, 0)
    · rw [h0, zero_cadd]
    · unfold cadd
      rw [if_neg h0, if_neg h0, if_pos ⟨rfl, (show (((0 * ((Fld.finv z) * (Fld.finv z))) * (Fld.finv z)) + ((0 * ((Fld.finv z) * (Fld.finv z))) * (Fld.finv z))) = 0 from ring_id (fun vi_ => vget vi_ [Fld.finv z]) (.add (.mul (.mul .zero (.mul (.var 0) (.var 0))) (.var 0)) (.mul (.mul .zero (.mul (.var 0) (.var 0))) (.var 0))) .zero (by kernel_rfl))⟩]
  have haff : Aff B (gpt (x, y, z)) := hj.resolve_left hz
  have hi := Fld.mul_finv z hz
  have hyy : y * (Fld.finv z * Fld.finv z) * Fld.finv z ≠ 0 := Fld.mul_ne (Fld.mul_ne hy (Fld.mul_ne (finv_ne hz) (finv_ne hz))) (finv_ne hz)
  have hz3 : y * z + y * z ≠ 0 := half B (Fld.mul_ne hy hz)
  have hw := Fld.mul_finv _ hz3
  rw [e2] at haff
  generalize hie : Fld.finv z = i at *
  have hne := haff.ne
  have hnn : ¬ ((x * (i * i), y * (i * i) * i).1 = (x * (i * i), y * (i * i) * i).1 ∧ (x * (i * i), y * (i * i) * i).2 + (x * (i * i), y * (i * i) * i).2 = 0) := fun h => half B hyy h.2
  have hl := slope_ok haff haff hnn
  have e3 : cadd (x * (i * i), y * (i * i) * i) (x * (i * i), y * (i * i) * i) = third (slope (x * (i * i), y * (i * i) * i) (x * (i * i), y * (i * i) * i)) (x * (i * i), y * (i * i) * i) (x * (i * i), y * (i * i) * i) := by
    unfold cadd; rw [if_neg hne, if_neg hne, if_neg hnn]
  have h3a := third_aff haff hl
  have T := hl.tan
  generalize slope (x * (i * i), y * (i * i) * i) (x * (i * i), y * (i * i) * i) = l at *
  have e1 : gdbl (x, y, z) = ((x * x + x * x + x * x) * (x * x + x * x + x * x) - ((x + y * y) * (x + y * y) - x * x - y * y * (y * y) + ((x + y * y) * (x + y * y) - x * x - y * y * (y * y))) - ((x + y * y) * (x + y * y) - x * x - y * y * (y * y) + ((x + y * y) * (x + y * y) - x * x - y * y * (y * y))),
      (x * x + x * x + x * x) * (((x + y * y) * (x + y * y) - x * x - y * y * (y * y) + ((x + y * y) * (x + y * y) - x * x - y * y * (y * y))) - ((x * x + x * x + x * x) * (x * x + x * x + x * x) - ((x + y * y) * (x + y * y) - x * x - y * y * (y * y) + ((x + y * y) * (x + y * y) - x * x - y * y * (y * y))) - ((x + y * y) * (x + y * y) - x * x - y * y * (y * y) + ((x + y * y) * (x + y * y) - x * x - y * y * (y * y))))) - (y * y * (y * y) + y * y * (y * y) + (y * y * (y * y) + y * y * (y * y))) - (y * y * (y * y) + y * y * (y * y) + (y * y * (y * y) + y * y * (y * y))),
      y * z + y * z) := (if_neg hz).trans (if_neg hy)
  have e4 := dbl_pure (x := x) hi hw
  have hle : l = (x * x + x * x + x * x) * Fld.finv (y * z + y * z) := by
    have hyy' := half B hyy
    refine Fld.cancel hyy' ?_
    have T : x * (i * i) * (x * (i * i)) + x * (i * i) * (x * (i * i)) + x * (i * i) * (x * (i * i)) = l * (y * (i * i) * i + y * (i * i) * i + l * (x * (i * i) - x * (i * i))) := T
    generalize Fld.finv (y * z + y * z) = w at *
    exact (eq_of_sub (Eq.trans (show (((((y * (i * i)) * i) + ((y * (i * i)) * i)) * l) - ((((y * (i * i)) * i) + ((y * (i * i)) * i)) * ((((x * x) + (x * x)) + (x * x)) * w))) = (((-1) * (((((x * (i * i)) * (x * (i * i))) + ((x * (i * i)) * (x * (i * i)))) + ((x * (i * i)) * (x * (i * i)))) - (l * ((((y * (i * i)) * i) + ((y * (i * i)) * i)) + (l * ((x * (i * i)) - (x * (i * i)))))))) + (((((((x * x) + (x * x)) + (x * x)) * i) * i) * i) * (i - ((y + y) * w)))) from ring_id (fun vi_ => vget vi_ [x, y, i, w, l]) (.sub (.mul (.add (.mul (.mul (.var 1) (.mul (.var 2) (.var 2))) (.var 2)) (.mul (.mul (.var 1) (.mul (.var 2) (.var 2))) (.var 2))) (.var 4)) (.mul (.add (.mul (.mul (.var 1) (.mul (.var 2) (.var 2))) (.var 2)) (.mul (.mul (.var 1) (.mul (.var 2) (.var 2))) (.var 2))) (.mul (.add (.add (.mul (.var 0) (.var 0)) (.mul (.var 0) (.var 0))) (.mul (.var 0) (.var 0))) (.var 3)))) (.add (.mul (.neg .one) (.sub (.add (.add (.mul (.mul (.var 0) (.mul (.var 2) (.var 2))) (.mul (.var 0) (.mul (.var 2) (.var 2)))) (.mul (.mul (.var 0) (.mul (.var 2) (.var 2))) (.mul (.var 0) (.mul (.var 2) (.var 2))))) (.mul (.mul (.var 0) (.mul (.var 2) (.var 2))) (.mul (.var 0) (.mul (.var 2) (.var 2))))) (.mul (.var 4) (.add (.add (.mul (.mul (.var 1) (.mul (.var 2) (.var 2))) (.var 2)) (.mul (.mul (.var 1) (.mul (.var 2) (.var 2))) (.var 2))) (.mul (.var 4) (.sub (.mul (.var 0) (.mul (.var 2) (.var 2))) (.mul (.var 0) (.mul (.var 2) (.var 2))))))))) (.mul (.mul (.mul (.mul (.add (.add (.mul (.var 0) (.var 0)) (.mul (.var 0) (.var 0))) (.mul (.var 0) (.var 0))) (.var 2)) (.var 2)) (.var 2)) (.sub (.var 2) (.mul (.add (.var 1) (.var 1)) (.var 3))))) (by kernel_rfl)) (lz2 (lz T) (lz e4))))
  have e5 : gpt (gdbl (x, y, z)) = third l (x * (i * i), y * (i * i) * i) (x * (i * i), y * (i * i) * i) := by
    rw [e1]
    unfold gpt third
    rw [if_neg hz3]
    generalize Fld.finv (y * z + y * z) = w at *
    rw [hle, e4]
    refine Prod.ext ?_ ?_
    · exact (show (((((((x * x) + (x * x)) + (x * x)) * (((x * x) + (x * x)) + (x * x))) - (((((x + (y * y)) * (x + (y * y))) - (x * x)) - ((y * y) * (y * y))) + ((((x + (y * y)) * (x + (y * y))) - (x * x)) - ((y * y) * (y * y))))) - (((((x + (y * y)) * (x + (y * y))) - (x * x)) - ((y * y) * (y * y))) + ((((x + (y * y)) * (x + (y * y))) - (x * x)) - ((y * y) * (y * y))))) * (w * w)) = (((((((x * x) + (x * x)) + (x * x)) * w) * ((((x * x) + (x * x)) + (x * x)) * w)) - (x * (((y + y) * w) * ((y + y) * w)))) - (x * (((y + y) * w) * ((y + y) * w)))) from ring_id (fun vi_ => vget vi_ [x, y, w]) (.mul (.sub (.sub (.mul (.add (.add (.mul (.var 0) (.var 0)) (.mul (.var 0) (.var 0))) (.mul (.var 0) (.var 0))) (.add (.add (.mul (.var 0) (.var 0)) (.mul (.var 0) (.var 0))) (.mul (.var 0) (.var 0)))) (.add (.sub (.sub (.mul (.add (.var 0) (.mul (.var 1) (.var 1))) (.add (.var 0) (.mul (.var 1) (.var 1)))) (.mul (.var 0) (.var 0))) (.mul (.mul (.var 1) (.var 1)) (.mul (.var 1) (.var 1)))) (.sub (.sub (.mul (.add (.var 0) (.mul (.var 1) (.var 1))) (.add (.var 0) (.mul (.var 1) (.var 1)))) (.mul (.var 0) (.var 0))) (.mul (.mul (.var 1) (.var 1)) (.mul (.var 1) (.var 1)))))) (.add (.sub (.sub (.mul (.add (.var 0) (.mul (.var 1) (.var 1))) (.add (.var 0) (.mul (.var 1) (.var 1)))) (.mul (.var 0) (.var 0))) (.mul (.mul (.var 1) (.var 1)) (.mul (.var 1) (.var 1)))) (.sub (.sub (.mul (.add (.var 0) (.mul (.var 1) (.var 1))) (.add (.var 0) (.mul (.var 1) (.var 1)))) (.mul (.var 0) (.var 0))) (.mul (.mul (.var 1) (.var 1)) (.mul (.var 1) (.var 1)))))) (.mul (.var 2) (.var 2))) (.sub (.sub (.mul (.mul (.add (.add (.mul (.var 0) (.var 0)) (.mul (.var 0) (.var 0))) (.mul (.var 0) (.var 0))) (.var 2)) (.mul (.add (.add (.mul (.var 0) (.var 0)) (.mul (.var 0) (.var 0))) (.mul (.var 0) (.var 0))) (.var 2))) (.mul (.var 0) (.mul (.mul (.add (.var 1) (.var 1)) (.var 2)) (.mul (.add (.var 1) (.var 1)) (.var 2))))) (.mul (.var 0) (.mul (.mul (.add (.var 1) (.var 1)) (.var 2)) (.mul (.add (.var 1) (.var 1)) (.var 2))))) (by kernel_rfl))
    · exact (show ((((((((x * x) + (x * x)) + (x * x)) * ((((((x + (y * y)) * (x + (y * y))) - (x * x)) - ((y * y) * (y * y))) + ((((x + (y * y)) * (x + (y * y))) - (x * x)) - ((y * y) * (y * y)))) - ((((((x * x) + (x * x)) + (x * x)) * (((x * x) + (x * x)) + (x * x))) - (((((x + (y * y)) * (x + (y * y))) - (x * x)) - ((y * y) * (y * y))) + ((((x + (y * y)) * (x + (y * y))) - (x * x)) - ((y * y) * (y * y))))) - (((((x + (y * y)) * (x + (y * y))) - (x * x)) - ((y * y) * (y * y))) + ((((x + (y * y)) * (x + (y * y))) - (x * x)) - ((y * y) * (y * y))))))) - ((((y * y) * (y * y)) + ((y * y) * (y * y))) + (((y * y) * (y * y)) + ((y * y) * (y * y))))) - ((((y * y) * (y * y)) + ((y * y) * (y * y))) + (((y * y) * (y * y)) + ((y * y) * (y * y))))) * (w * w)) * w) = ((((((x * x) + (x * x)) + (x * x)) * w) * ((x * (((y + y) * w) * ((y + y) * w))) - (((((((x * x) + (x * x)) + (x * x)) * w) * ((((x * x) + (x * x)) + (x * x)) * w)) - (x * (((y + y) * w) * ((y + y) * w)))) - (x * (((y + y) * w) * ((y + y) * w)))))) - ((y * (((y + y) * w) * ((y + y) * w))) * ((y + y) * w))) from ring_id (fun vi_ => vget vi_ [x, y, w]) (.mul (.mul (.sub (.sub (.mul (.add (.add (.mul (.var 0) (.var 0)) (.mul (.var 0) (.var 0))) (.mul (.var 0) (.var 0))) (.sub (.add (.sub (.sub (.mul (.add (.var 0) (.mul (.var 1) (.var 1))) (.add (.var 0) (.mul (.var 1) (.var 1)))) (.mul (.var 0) (.var 0))) (.mul (.mul (.var 1) (.var 1)) (.mul (.var 1) (.var 1)))) (.sub (.sub (.mul (.add (.var 0) (.mul (.var 1) (.var 1))) (.add (.var 0) (.mul (.var 1) (.var 1)))) (.mul (.var 0) (.var 0))) (.mul (.mul (.var 1) (.var 1)) (.mul (.var 1) (.var 1))))) (.sub (.sub (.mul (.add (.add (.mul (.var 0) (.var 0)) (.mul (.var 0) (.var 0))) (.mul (.var 0) (.var 0))) (.add (.add (.mul (.var 0) (.var 0)) (.mul (.var 0) (.var 0))) (.mul (.var 0) (.var 0)))) (.add (.sub (.sub (.mul (.add (.var 0) (.mul (.var 1) (.var 1))) (.add (.var 0) (.mul (.var 1) (.var 1)))) (.mul (.var 0) (.var 0))) (.mul (.mul (.var 1) (.var 1)) (.mul (.var 1) (.var 1)))) (.sub (.sub (.mul (.add (.var 0) (.mul (.var 1) (.var 1))) (.add (.var 0) (.mul (.var 1) (.var 1)))) (.mul (.var 0) (.var 0))) (.mul (.mul (.var 1) (.var 1)) (.mul (.var 1) (.var 1)))))) (.add (.sub (.sub (.mul (.add (.var 0) (.mul (.var 1) (.var 1))) (.add (.var 0) (.mul (.var 1) (.var 1)))) (.mul (.var 0) (.var 0))) (.mul (.mul (.var 1) (.var 1)) (.mul (.var 1) (.var 1)))) (.sub (.sub (.mul (.add (.var 0) (.mul (.var 1) (.var 1))) (.add (.var 0) (.mul (.var 1) (.var 1)))) (.mul (.var 0) (.var 0))) (.mul (.mul (.var 1) (.var 1)) (.mul (.var 1) (.var 1)))))))) (.add (.add (.mul (.mul (.var 1) (.var 1)) (.mul (.var 1) (.var 1))) (.mul (.mul (.var 1) (.var 1)) (.mul (.var 1) (.var 1)))) (.add (.mul (.mul (.var 1) (.var 1)) (.mul (.var 1) (.var 1))) (.mul (.mul (.var 1) (.var 1)) (.mul (.var 1) (.var 1)))))) (.add (.add (.mul (.mul (.var 1) (.var 1)) (.mul (.var 1) (.var 1))) (.mul (.mul (.var 1) (.var 1)) (.mul (.var 1) (.var 1)))) (.add (.mul (.mul (.var 1) (.var 1)) (.mul (.var 1) (.var 1))) (.mul (.mul (.var 1) (.var 1)) (.mul (.var 1) (.var 1)))))) (.mul (.var 2) (.var 2))) (.var 2)) (.sub (.mul (.mul (.add (.add (.mul (.var 0) (.var 0)) (.mul (.var 0) (.var 0))) (.mul (.var 0) (.var 0))) (.var 2)) (.sub (.mul (.var 0) (.mul (.mul (.add (.var 1) (.var 1)) (.var 2)) (.mul (.add (.var 1) (.var 1)) (.var 2)))) (.sub (.sub (.mul (.mul (.add (.add (.mul (.var 0) (.var 0)) (.mul (.var 0) (.var 0))) (.mul (.var 0) (.var 0))) (.var 2)) (.mul (.add (.add (.mul (.var 0) (.var 0)) (.mul (.var 0) (.var 0))) (.mul (.var 0) (.var 0))) (.var 2))) (.mul (.var 0) (.mul (.mul (.add (.var 1) (.var 1)) (.var 2)) (.mul (.add (.var 1) (.var 1)) (.var 2))))) (.mul (.var 0) (.mul (.mul (.add (.var 1) (.var 1)) (.var 2)) (.mul (.add (.var 1) (.var 1)) (.var 2))))))) (.mul (.mul (.var 1) (.mul (.mul (.add (.var 1) (.var 1)) (.var 2)) (.mul (.add (.var 1) (.var 1)) (.var 2)))) (.mul (.add (.var 1) (.var 1)) (.var 2)))) (by kernel_rfl))
  rw [e2, e3, e5]
  exact ⟨rfl, .inr (by rw [e5]; exact h3a)⟩
theorem gadd_ok {j : J3 α} {q : α × α} (hj : JOk B j) (hq : On B q) : gpt (gadd j q) = cadd (gpt j) q ∧ JOk B (gadd j q) := by
  obtain ⟨x, y, z⟩ := j
  by_cases hq0 : q = (0, 0)
  · have e1 : gadd (x, y, z) q = (x, y, z) := if_pos hq0
    rw [e1, hq0, cadd_zero]
    exact ⟨rfl, hj⟩
  by_cases hz : z = 0
  · have e1 : gadd (x, y, z) q = gtoj q := (if_neg hq0).trans (if_pos hz)
    rw [e1, show gpt (x, y, z) = (0, 0) from if_pos hz, zero_cadd, gpt_toj]
    exact ⟨rfl, JOk.toj hq⟩
  have hqa : Aff B q := hq.resolve_left hq0
  have hpa : Aff B (gpt (x, y, z)) := hj.resolve_left hz
  have e2 : gpt (x, y, z) = (x * (Fld.finv z * Fld.finv z), y * (Fld.finv z * Fld.finv z) * Fld.finv z) := if_neg hz
  have hi := Fld.mul_finv z hz
  have hin := finv_ne hz
  obtain ⟨q1, q2⟩ := q
  have hH : gaddH (x, y, z) (q1, q2) = q1 * (z * z) - x := rfl
  have hR : gaddR (x, y, z) (q1, q2) = q2 * z * (z * z) - y := rfl
  have hunf : gadd (x, y, z) (q1, q2) = if gaddH (x, y, z) (q1, q2) = 0 then (if gaddR (x, y, z) (q1, q2) = 0 then gdbl (x, y, z) else (0, 0, 0)) else gaddN (x, y, z) (q1, q2) := (if_neg hq0).trans (if_neg hz)
  have hpa' := hpa
  rw [e2] at hpa'
  have cA : gaddH (x, y, z) (q1, q2) * (Fld.finv z * Fld.finv z) = q1 - x * (Fld.finv z * Fld.finv z) := by
    rw [hH]
    generalize Fld.finv z = i at *
    exact (eq_of_sub (Eq.trans (show ((((q1 * (z * z)) - x) * (i * i)) - (q1 - (x * (i * i)))) = ((q1 * ((z * i) + 1)) * ((z * i) - 1)) from ring_id (fun vi_ => vget vi_ [x, z, i, q1]) (.sub (.mul (.sub (.mul (.var 3) (.mul (.var 1) (.var 1))) (.var 0)) (.mul (.var 2) (.var 2))) (.sub (.var 3) (.mul (.var 0) (.mul (.var 2) (.var 2))))) (.mul (.mul (.var 3) (.add (.mul (.var 1) (.var 2)) .one)) (.sub (.mul (.var 1) (.var 2)) .one)) (by kernel_rfl)) (lz hi)))
  have cB : gaddR (x, y, z) (q1, q2) * (Fld.finv z * Fld.finv z * Fld.finv z) = q2 - y * (Fld.finv z * Fld.finv z) * Fld.finv z := by
    rw [hR]
    generalize Fld.finv z = i at *
    exact (eq_of_sub (Eq.trans (show (((((q2 * z) * (z * z)) - y) * ((i * i) * i)) - (q2 - ((y * (i * i)) * i))) = ((q2 * ((((z * i) * (z * i)) + (z * i)) + 1)) * ((z * i) - 1)) from ring_id (fun vi_ => vget vi_ [y, z, i, q2]) (.sub (.mul (.sub (.mul (.mul (.var 3) (.var 1)) (.mul (.var 1) (.var 1))) (.var 0)) (.mul (.mul (.var 2) (.var 2)) (.var 2))) (.sub (.var 3) (.mul (.mul (.var 0) (.mul (.var 2) (.var 2))) (.var 2)))) (.mul (.mul (.var 3) (.add (.add (.mul (.mul (.var 1) (.var 2)) (.mul (.var 1) (.var 2))) (.mul (.var 1) (.var 2))) .one)) (.sub (.mul (.var 1) (.var 2)) .one)) (by kernel_rfl)) (lz hi)))
  by_cases h0 : gaddH (x, y, z) (q1, q2) = 0
  · have ex : x * (Fld.finv z * Fld.finv z) = q1 := by
      rw [h0, zero_mul'] at cA; exact (eq_of_sub cA.symm).symm
    by_cases r0 : gaddR (x, y, z) (q1, q2) = 0
    · have ey : y * (Fld.finv z * Fld.finv z) * Fld.finv z = q2 := by
        rw [r0, zero_mul'] at cB; exact (eq_of_sub cB.symm).symm
      rw [hunf, if_pos h0, if_pos r0]
      have he : gpt (x, y, z) = (q1, q2) := by rw [e2, ex, ey]
      have h := gdbl_ok hj
      rw [he] at h
      rw [he]
      exact h
    · rw [hunf, if_pos h0, if_neg r0]
      refine ⟨?_, .inl rfl⟩
      rw [show gpt ((0, 0, 0) : J3 α) = (0, 0) from if_pos rfl]
      have hne : y * (Fld.finv z * Fld.finv z) * Fld.finv z ≠ q2 := by
        intro e
        rw [e, sub_self'] at cB
        exact Fld.mul_ne r0 (Fld.mul_ne (Fld.mul_ne hin hin) hin) cB
      rw [e2]
      rw [e2] at hpa
      generalize y * (Fld.finv z * Fld.finv z) * Fld.finv z = y' at *
      generalize x * (Fld.finv z * Fld.finv z) = x' at *
      subst ex
      have hs : y' + q2 = 0 := by
        apply Classical.byContradiction
        intro hs
        refine Fld.mul_ne (sub_ne hne) hs ?_
        have H1 : y' * y' = x' * x' * x' + B := hpa
        have H2 : q2 * q2 = x' * x' * x' + B := hqa
        exact (eq_of_sub (Eq.trans (show (((q2 - y') * (y' + q2)) - 0) = ((1 * ((q2 * q2) - (((x' * x') * x') + B))) + ((-1) * ((y' * y') - (((x' * x') * x') + B)))) from ring_id (fun vi_ => vget vi_ [y', q2, x', B]) (.sub (.mul (.sub (.var 1) (.var 0)) (.add (.var 0) (.var 1))) .zero) (.add (.mul .one (.sub (.mul (.var 1) (.var 1)) (.add (.mul (.mul (.var 2) (.var 2)) (.var 2)) (.var 3)))) (.mul (.neg .one) (.sub (.mul (.var 0) (.var 0)) (.add (.mul (.mul (.var 2) (.var 2)) (.var 2)) (.var 3))))) (by kernel_rfl)) (lz2 (lz H2) (lz H1))))
      unfold cadd
      rw [if_neg hpa.ne, if_neg hq0, if_pos ⟨rfl, hs⟩]
  · rw [hunf, if_neg h0]
    have hxne : x * (Fld.finv z * Fld.finv z) ≠ q1 := by
      intro e
      rw [e, sub_self'] at cA
      exact Fld.mul_ne h0 (Fld.mul_ne hin hin) cA
    have hnn : ¬ ((x * (Fld.finv z * Fld.finv z), y * (Fld.finv z * Fld.finv z) * Fld.finv z).1 = (q1, q2).1 ∧ (x * (Fld.finv z * Fld.finv z), y * (Fld.finv z * Fld.finv z) * Fld.finv z).2 + (q1, q2).2 = 0) := fun h => hxne h.1
    have hl := slope_ok hpa' hqa hnn
    have e3 : cadd (x * (Fld.finv z * Fld.finv z), y * (Fld.finv z * Fld.finv z) * Fld.finv z) (q1, q2) = third (slope (x * (Fld.finv z * Fld.finv z), y * (Fld.finv z * Fld.finv z) * Fld.finv z) (q1, q2)) (x * (Fld.finv z * Fld.finv z), y * (Fld.finv z * Fld.finv z) * Fld.finv z) (q1, q2) := by
      unfold cadd; rw [if_neg hpa'.ne, if_neg hq0, if_neg hnn]
    have h3a := third_aff hpa' hl
    have hat := hl.at_
    generalize slope (x * (Fld.finv z * Fld.finv z), y * (Fld.finv z * Fld.finv z) * Fld.finv z) (q1, q2) = l at *
    have hat : q2 = y * (Fld.finv z * Fld.finv z) * Fld.finv z + l * (q1 - x * (Fld.finv z * Fld.finv z)) := hat
    have hN : gaddN (x, y, z) (q1, q2) = (let zz := z * z; let h := gaddH (x, y, z) (q1, q2); let r := gaddR (x, y, z) (q1, q2) + gaddR (x, y, z) (q1, q2); let hh := h * h; let i := (hh + hh) + (hh + hh); let j := h * i; let v := x * i; let xx := r * r - j - v - v; let yj := y * j; (xx, r * (v - xx) - yj - yj, (z + h) * (z + h) - zz - hh)) := rfl
    generalize gaddH (x, y, z) (q1, q2) = h at *
    generalize gaddR (x, y, z) (q1, q2) = r at *
    have hz3 : (z + h) * (z + h) - z * z - h * h ≠ 0 := by
      rw [(show ((((z + h) * (z + h)) - (z * z)) - (h * h)) = ((1 + 1) * (z * h)) from ring_id (fun vi_ => vget vi_ [z, h]) (.sub (.sub (.mul (.add (.var 0) (.var 1)) (.add (.var 0) (.var 1))) (.mul (.var 0) (.var 0))) (.mul (.var 1) (.var 1))) (.mul (.add .one .one) (.mul (.var 0) (.var 1))) (by kernel_rfl))]
      exact Fld.mul_ne hG.two (Fld.mul_ne hz h0)
    have hw := Fld.mul_finv _ hz3
    have e5 : gpt (gaddN (x, y, z) (q1, q2)) = third l (x * (Fld.finv z * Fld.finv z), y * (Fld.finv z * Fld.finv z) * Fld.finv z) (q1, q2) := by
      rw [hN]
      unfold gpt third
      simp only
      rw [if_neg hz3]
      generalize Fld.finv ((z + h) * (z + h) - z * z - h * h) = w at *
      generalize Fld.finv z = i at *
      have e4 : i = (h + h) * w :=
        (eq_of_sub (Eq.trans (show (i - ((h + h) * w)) = (((-i) * ((((((z + h) * (z + h)) - (z * z)) - (h * h)) * w) - 1)) + (((h + h) * w) * ((z * i) - 1))) from ring_id (fun vi_ => vget vi_ [z, h, i, w]) (.sub (.var 2) (.mul (.add (.var 1) (.var 1)) (.var 3))) (.add (.mul (.neg (.var 2)) (.sub (.mul (.sub (.sub (.mul (.add (.var 0) (.var 1)) (.add (.var 0) (.var 1))) (.mul (.var 0) (.var 0))) (.mul (.var 1) (.var 1))) (.var 3)) .one)) (.mul (.mul (.add (.var 1) (.var 1)) (.var 3)) (.sub (.mul (.var 0) (.var 2)) .one))) (by kernel_rfl)) (lz2 (lz hw) (lz hi))))
      have hle : l = (r + r) * w := by
        refine Fld.cancel (sub_ne hxne) ?_
        exact (eq_of_sub (Eq.trans (show (((q1 - (x * (i * i))) * l) - ((q1 - (x * (i * i))) * ((r + r) * w))) = (((((-1) * (q2 - (((y * (i * i)) * i) + (l * (q1 - (x * (i * i))))))) + ((-1) * ((r * ((i * i) * i)) - (q2 - ((y * (i * i)) * i))))) + (((r + r) * w) * ((h * (i * i)) - (q1 - (x * (i * i)))))) + ((r * (i * i)) * (i - ((h + h) * w)))) from ring_id (fun vi_ => vget vi_ [x, y, h, r, i, w, l, q1, q2]) (.sub (.mul (.sub (.var 7) (.mul (.var 0) (.mul (.var 4) (.var 4)))) (.var 6)) (.mul (.sub (.var 7) (.mul (.var 0) (.mul (.var 4) (.var 4)))) (.mul (.add (.var 3) (.var 3)) (.var 5)))) (.add (.add (.add (.mul (.neg .one) (.sub (.var 8) (.add (.mul (.mul (.var 1) (.mul (.var 4) (.var 4))) (.var 4)) (.mul (.var 6) (.sub (.var 7) (.mul (.var 0) (.mul (.var 4) (.var 4)))))))) (.mul (.neg .one) (.sub (.mul (.var 3) (.mul (.mul (.var 4) (.var 4)) (.var 4))) (.sub (.var 8) (.mul (.mul (.var 1) (.mul (.var 4) (.var 4))) (.var 4)))))) (.mul (.mul (.add (.var 3) (.var 3)) (.var 5)) (.sub (.mul (.var 2) (.mul (.var 4) (.var 4))) (.sub (.var 7) (.mul (.var 0) (.mul (.var 4) (.var 4))))))) (.mul (.mul (.var 3) (.mul (.var 4) (.var 4))) (.sub (.var 4) (.mul (.add (.var 2) (.var 2)) (.var 5))))) (by kernel_rfl)) (lz2 (lz2 (lz2 (lz hat) (lz cB)) (lz cA)) (lz e4))))
      rw [hle]
      subst e4
      refine Prod.ext ?_ ?_
      · exact (eq_of_sub (Eq.trans (show (((((((r + r) * (r + r)) - (h * (((h * h) + (h * h)) + ((h * h) + (h * h))))) - (x * (((h * h) + (h * h)) + ((h * h) + (h * h))))) - (x * (((h * h) + (h * h)) + ((h * h) + (h * h))))) * (w * w)) - (((((r + r) * w) * ((r + r) * w)) - (x * (((h + h) * w) * ((h + h) * w)))) - q1)) = ((-1) * ((h * (((h + h) * w) * ((h + h) * w))) - (q1 - (x * (((h + h) * w) * ((h + h) * w)))))) from ring_id (fun vi_ => vget vi_ [x, h, r, w, q1]) (.sub (.mul (.sub (.sub (.sub (.mul (.add (.var 2) (.var 2)) (.add (.var 2) (.var 2))) (.mul (.var 1) (.add (.add (.mul (.var 1) (.var 1)) (.mul (.var 1) (.var 1))) (.add (.mul (.var 1) (.var 1)) (.mul (.var 1) (.var 1)))))) (.mul (.var 0) (.add (.add (.mul (.var 1) (.var 1)) (.mul (.var 1) (.var 1))) (.add (.mul (.var 1) (.var 1)) (.mul (.var 1) (.var 1)))))) (.mul (.var 0) (.add (.add (.mul (.var 1) (.var 1)) (.mul (.var 1) (.var 1))) (.add (.mul (.var 1) (.var 1)) (.mul (.var 1) (.var 1)))))) (.mul (.var 3) (.var 3))) (.sub (.sub (.mul (.mul (.add (.var 2) (.var 2)) (.var 3)) (.mul (.add (.var 2) (.var 2)) (.var 3))) (.mul (.var 0) (.mul (.mul (.add (.var 1) (.var 1)) (.var 3)) (.mul (.add (.var 1) (.var 1)) (.var 3))))) (.var 4))) (.mul (.neg .one) (.sub (.mul (.var 1) (.mul (.mul (.add (.var 1) (.var 1)) (.var 3)) (.mul (.add (.var 1) (.var 1)) (.var 3)))) (.sub (.var 4) (.mul (.var 0) (.mul (.mul (.add (.var 1) (.var 1)) (.var 3)) (.mul (.add (.var 1) (.var 1)) (.var 3))))))) (by kernel_rfl)) (lz cA)))
      · exact (eq_of_sub (Eq.trans (show (((((((r + r) * ((x * (((h * h) + (h * h)) + ((h * h) + (h * h)))) - (((((r + r) * (r + r)) - (h * (((h * h) + (h * h)) + ((h * h) + (h * h))))) - (x * (((h * h) + (h * h)) + ((h * h) + (h * h))))) - (x * (((h * h) + (h * h)) + ((h * h) + (h * h))))))) - (y * (h * (((h * h) + (h * h)) + ((h * h) + (h * h)))))) - (y * (h * (((h * h) + (h * h)) + ((h * h) + (h * h)))))) * (w * w)) * w) - ((((r + r) * w) * ((x * (((h + h) * w) * ((h + h) * w))) - (((((r + r) * w) * ((r + r) * w)) - (x * (((h + h) * w) * ((h + h) * w)))) - q1))) - ((y * (((h + h) * w) * ((h + h) * w))) * ((h + h) * w)))) = (((r + r) * w) * ((h * (((h + h) * w) * ((h + h) * w))) - (q1 - (x * (((h + h) * w) * ((h + h) * w)))))) from ring_id (fun vi_ => vget vi_ [x, y, h, r, w, q1]) (.sub (.mul (.mul (.sub (.sub (.mul (.add (.var 3) (.var 3)) (.sub (.mul (.var 0) (.add (.add (.mul (.var 2) (.var 2)) (.mul (.var 2) (.var 2))) (.add (.mul (.var 2) (.var 2)) (.mul (.var 2) (.var 2))))) (.sub (.sub (.sub (.mul (.add (.var 3) (.var 3)) (.add (.var 3) (.var 3))) (.mul (.var 2) (.add (.add (.mul (.var 2) (.var 2)) (.mul (.var 2) (.var 2))) (.add (.mul (.var 2) (.var 2)) (.mul (.var 2) (.var 2)))))) (.mul (.var 0) (.add (.add (.mul (.var 2) (.var 2)) (.mul (.var 2) (.var 2))) (.add (.mul (.var 2) (.var 2)) (.mul (.var 2) (.var 2)))))) (.mul (.var 0) (.add (.add (.mul (.var 2) (.var 2)) (.mul (.var 2) (.var 2))) (.add (.mul (.var 2) (.var 2)) (.mul (.var 2) (.var 2)))))))) (.mul (.var 1) (.mul (.var 2) (.add (.add (.mul (.var 2) (.var 2)) (.mul (.var 2) (.var 2))) (.add (.mul (.var 2) (.var 2)) (.mul (.var 2) (.var 2))))))) (.mul (.var 1) (.mul (.var 2) (.add (.add (.mul (.var 2) (.var 2)) (.mul (.var 2) (.var 2))) (.add (.mul (.var 2) (.var 2)) (.mul (.var 2) (.var 2))))))) (.mul (.var 4) (.var 4))) (.var 4)) (.sub (.mul (.mul (.add (.var 3) (.var 3)) (.var 4)) (.sub (.mul (.var 0) (.mul (.mul (.add (.var 2) (.var 2)) (.var 4)) (.mul (.add (.var 2) (.var 2)) (.var 4)))) (.sub (.sub (.mul (.mul (.add (.var 3) (.var 3)) (.var 4)) (.mul (.add (.var 3) (.var 3)) (.var 4))) (.mul (.var 0) (.mul (.mul (.add (.var 2) (.var 2)) (.var 4)) (.mul (.add (.var 2) (.var 2)) (.var 4))))) (.var 5)))) (.mul (.mul (.var 1) (.mul (.mul (.add (.var 2) (.var 2)) (.var 4)) (.mul (.add (.var 2) (.var 2)) (.var 4)))) (.mul (.add (.var 2) (.var 2)) (.var 4))))) (.mul (.mul (.add (.var 3) (.var 3)) (.var 4)) (.sub (.mul (.var 2) (.mul (.mul (.add (.var 2) (.var 2)) (.var 4)) (.mul (.add (.var 2) (.var 2)) (.var 4)))) (.sub (.var 5) (.mul (.var 0) (.mul (.mul (.add (.var 2) (.var 2)) (.var 4)) (.mul (.add (.var 2) (.var 2)) (.var 4))))))) (by kernel_rfl)) (lz cA)))
    rw [e2, e3, e5]
    exact ⟨rfl, .inr (by rw [e5]; exact h3a)⟩
theorem step_dbl {j : J3 α} {x : Gp B} (hj : JOk B j) (h : gpt j = x.1) : JOk B (gdbl j) ∧ gpt (gdbl j) = (x + x).1 := by
  obtain ⟨h1, h2⟩ := gdbl_ok hj
  exact ⟨h2, by rw [h1, h]; rfl⟩
theorem step_add {j : J3 α} {x : Gp B} (q : Gp B) (hj : JOk B j) (h : gpt j = x.1) : JOk B (gadd j q.1) ∧ gpt (gadd j q.1) = (x + q).1 := by
  obtain ⟨h1, h2⟩ := gadd_ok hj q.2
  exact ⟨h2, by rw [h1, h]; rfl⟩
theorem step_sums : ∀ (l : List (Gp B)) {j : J3 α} {x : Gp B}, JOk B j → gpt j = x.1 → JOk B ((l.map (·.1)).foldl gadd j) ∧ gpt ((l.map (·.1)).foldl gadd j) = (l.foldl (· + ·) x).1
  | [], _, _, hj, h => ⟨hj, h⟩
  | q :: l, _, _, hj, h => by
    obtain ⟨h1, h2⟩ := step_add q hj h
    exact step_sums l h1 h2
theorem jzero_ok : JOk B ((0, 0, 0) : J3 α) ∧ gpt ((0, 0, 0) : J3 α) = (0 : Gp B).1 := ⟨.inl rfl, if_pos rfl⟩
/-- The ladder: n times p, for n of at most f bits. -/
def glad (p : α × α) : Nat → Nat → J3 α
  | 0, _ => (0, 0, 0)
  | f + 1, n => if n % 2 = 1 then gadd (gdbl (glad p f (n / 2))) p else gdbl (glad p f (n / 2))
theorem glad_ok (p : Gp B) : ∀ (f n : Nat), n < 2 ^ f → JOk B (glad p.1 f n) ∧ gpt (glad p.1 f n) = (nmul n p).1
  | 0, n, h => by
    obtain rfl : n = 0 := by simpa using h
    exact jzero_ok
  | f + 1, n, h => by
    obtain ⟨h1, h2⟩ := glad_ok p f (n / 2) (by rw [Nat.pow_succ] at h; omega)
    obtain ⟨h3, h4⟩ := step_dbl h1 h2
    have e : nmul (n / 2) p + nmul (n / 2) p = nmul (n / 2 * 2) p := by rw [nmul_mul, nmul_two]
    unfold glad
    split
    · obtain ⟨h5, h6⟩ := step_add p h3 h4
      refine ⟨h5, ?_⟩
      rw [h6, e]
      conv => rhs; rw [show n = n / 2 * 2 + 1 by omega]
      rfl
    · refine ⟨h3, ?_⟩
      rw [h4, e, show n / 2 * 2 = n by omega]
theorem nmul_zero_of {p : Gp B} {f n : Nat} (h : n < 2 ^ f) (hz : (glad p.1 f n).2.2 = 0) : nmul n p = 0 := by
  refine Gp.ext ?_
  rw [← (glad_ok p f n h).2]
  exact if_pos hz
end
end Go.Ec

/- math/bits' Add64, Sub64, Mul64, as steps of a walk that names sums and carries by what they satisfy. -/
namespace Go.Cu
open Go Go.Vm Go.RowKit Go.Proofs
attribute [local irreducible] W OpsW Det Fresh New Writes Vm.Pure Makes Changes ExternTo BuildTo ZeroTo FieldTo IndexTo BinTo SliceTo Vm.Enters

theorem mixed : Tryd.prog.follows .mixedOrders = true := by kernel_rfl

theorem run_Add64 (x y c : Nat) (hc : c ≤ 1) : ExternTo Tryd.prog 65 [u64 x, u64 y, u64 c]
    (.tuple #[u64 ((x + y + c) % 18446744073709551616), u64 ((x + y + c) / 18446744073709551616)]) := by
  refine ExternTo.of fun w => ?_
  unfold u64
  rw [run_callFunc_extern Tryd.func65 (by kernel_rfl) (by kernel_rfl) (by kernel_rfl) (e := add64Entry) (by kernel_rfl), run_add64 x y c (by omega) (by omega) (by omega) (by omega)]
  simp only [Result.andThen]
  congr 5 <;> omega
theorem run_Sub64 (x y b : Nat) (hb : b ≤ 1) : ExternTo Tryd.prog 98 [u64 x, u64 y, u64 b]
    (.tuple #[u64 ((x + 18446744073709551616 - y - b) % 18446744073709551616), u64 (if x < y + b then 1 else 0)]) := by
  refine ExternTo.of fun w => ?_
  unfold u64
  rw [run_callFunc_extern Tryd.func98 (by kernel_rfl) (by kernel_rfl) (by kernel_rfl) (e := sub64Entry) (by kernel_rfl), run_sub64 x y b hb]
  rfl

set_option maxHeartbeats 1000000 in
theorem mul64_ok (x y : Nat) (hx : x < 18446744073709551616) (hy : y < 18446744073709551616) (w : World) :
    Calls Tryd.prog 70 #[.int .u64 x, .int .u64 y] w fun e w' => e = .returned (.tuple #[.int .u64 ((x * y / 18446744073709551616 : Nat) : Int), .int .u64 ((x * y % 18446744073709551616 : Nat) : Int)]) ∧ w' = w := by
  obtain ⟨bd, bt, bw, hhi⟩ := Lib.mul64_hi x y hx hy
  have ba := Lib.half_mul_le (a := x / 4294967296) (b := y / 4294967296) (by omega) (by omega)
  have bb := Lib.half_mul_le (a := x / 4294967296) (b := y % 4294967296) (by omega) (by omega)
  have bc := Lib.half_mul_le (a := x % 4294967296) (b := y / 4294967296) (by omega) (by omega)
  have ba' : x / 4294967296 * (y / 4294967296) < 18446744073709551616 := by omega
  have bb' : x / 4294967296 * (y % 4294967296) < 18446744073709551616 := by omega
  have bc' : x % 4294967296 * (y / 4294967296) < 18446744073709551616 := by omega
  have bh1 : x / 4294967296 * (y / 4294967296) + (x / 4294967296 * (y % 4294967296) + x % 4294967296 * (y % 4294967296) / 4294967296) / 4294967296 < 18446744073709551616 := by omega
  have bh : x / 4294967296 * (y / 4294967296) + (x / 4294967296 * (y % 4294967296) + x % 4294967296 * (y % 4294967296) / 4294967296) / 4294967296 + ((x / 4294967296 * (y % 4294967296) + x % 4294967296 * (y % 4294967296) / 4294967296) % 4294967296 + x % 4294967296 * (y / 4294967296)) / 4294967296 < 18446744073709551616 := by omega
  go_enter Tryd.func70, Tryd.ntmps70
  go_wp2
  simp only [Mul64.maskN x hx, Mul64.maskN y hy, Mul64.divN, Mul64.mulN, Mul64.addN, Mul64.wrapN _ bd, Mul64.wrapN _ bb', Mul64.wrapN _ bt, Mul64.maskN _ bt, Mul64.wrapN _ bc', Mul64.wrapN _ bw, Mul64.wrapN _ ba', Mul64.wrapN _ bh1, Mul64.wrapN _ bh, Mul64.wrapM (x * y)]
  rw [hhi]
  go_ret2
  exact ⟨rfl, rfl⟩
theorem enMul64 : Vm.Enters Tryd.prog 70 := Vm.Enters.of fun _ _ => by kernel_rfl
theorem Mul64_ok {x y : Nat} {w : World} (hx : x < 18446744073709551616) (hy : y < 18446744073709551616) :
    Pure Tryd.prog 70 #[u64 x, u64 y] w (.tuple #[u64 (x * y / 18446744073709551616), u64 (x * y % 18446744073709551616)]) :=
  Pure.of ((mul64_ok x y hx hy w).mono fun _ _ ⟨h1, h2⟩ => ⟨h1, by subst h2; exact Below.refl _ _⟩)

section
variable {n : Nat} {K : List Nat} {G : Hp} {w0 : World} {ops : Array Oper} {rest : List Oper} {R : Fr → Hp → Prop} {F : Fr} {H : Hp} {d : Nat} {x y z : Operand} {ats : Array TypeId} {ty : TypeId} {pos : String} {after : Array Edge}

/-- s + 2^64 c = a + b + e. -/
theorem OpsW.add64 {a b e : Nat} (hx : ev F x = some (u64 a)) (hy : ev F y = some (u64 b)) (hz : ev F z = some (u64 e)) (ha : a < 18446744073709551616) (hb : b < 18446744073709551616) (he : e ≤ 1) (hd : Nat.blt d n = true)
    (h : ∀ s c, s + 18446744073709551616 * c = a + b + e → s < 18446744073709551616 → c ≤ 1 → OpsW Tryd.prog n K G w0 ops rest R ((d, .tuple #[u64 s, u64 c]) :: F) H) :
    OpsW Tryd.prog n K G w0 ops (⟨some d, .call { callee := .value (.func 65), args := #[x, y, z], argTypes := ats }, ty, pos, after, none⟩ :: rest) R F H := by
  have h1 : evs F [x, y, z] = some [u64 a, u64 b, u64 e] := by simp only [evs, hx, hy, hz]
  have h2 := h ((a + b + e) % 18446744073709551616) ((a + b + e) / 18446744073709551616) (by omega) (by omega) (by omega)
  have h4 := run_Add64 a b e he
  generalize (Value.tuple #[u64 ((a + b + e) % 18446744073709551616), u64 ((a + b + e) / 18446744073709551616)]) = v at h2 h4
  exact OpsW.det (det_extern (xs := [x, y, z]) h1 h4) hd h2
/-- s + b + e = a + 2^64 c. -/
theorem OpsW.sub64 {a b e : Nat} (hx : ev F x = some (u64 a)) (hy : ev F y = some (u64 b)) (hz : ev F z = some (u64 e)) (ha : a < 18446744073709551616) (hb : b < 18446744073709551616) (he : e ≤ 1) (hd : Nat.blt d n = true)
    (h : ∀ s c, s + b + e = a + 18446744073709551616 * c → s < 18446744073709551616 → c ≤ 1 → OpsW Tryd.prog n K G w0 ops rest R ((d, .tuple #[u64 s, u64 c]) :: F) H) :
    OpsW Tryd.prog n K G w0 ops (⟨some d, .call { callee := .value (.func 98), args := #[x, y, z], argTypes := ats }, ty, pos, after, none⟩ :: rest) R F H := by
  have h1 : evs F [x, y, z] = some [u64 a, u64 b, u64 e] := by simp only [evs, hx, hy, hz]
  have h2 := h ((a + 18446744073709551616 - b - e) % 18446744073709551616) (if a < b + e then 1 else 0) (by split <;> omega) (by omega) (by split <;> omega)
  have h4 := run_Sub64 a b e he
  generalize (Value.tuple #[u64 ((a + 18446744073709551616 - b - e) % 18446744073709551616), u64 (if a < b + e then 1 else 0)]) = v at h2 h4
  exact OpsW.det (det_extern (xs := [x, y, z]) h1 h4) hd h2
theorem mul_top {a b : Nat} (ha : a < 18446744073709551616) (hb : b < 18446744073709551616) : a * b ≤ 340282366920938463426481119284349108225 := by
  have := Nat.mul_le_mul (Nat.le_sub_one_of_lt ha) (Nat.le_sub_one_of_lt hb)
  simpa using this
/-- lo + 2^64 hi = a b. -/
theorem OpsW.mul64 {a b : Nat} (hx : ev F x = some (u64 a)) (hy : ev F y = some (u64 b)) (ha : a < 18446744073709551616) (hb : b < 18446744073709551616) (hd : Nat.blt d n = true)
    (h : ∀ hi lo, lo + 18446744073709551616 * hi = a * b → lo < 18446744073709551616 → hi ≤ 18446744073709551614 → OpsW Tryd.prog n K G w0 ops rest R ((d, .tuple #[u64 hi, u64 lo]) :: F) H) :
    OpsW Tryd.prog n K G w0 ops (⟨some d, .call { callee := .value (.func 70), args := #[x, y], argTypes := ats }, ty, pos, after, none⟩ :: rest) R F H := by
  have h1 : evs F [x, y] = some [u64 a, u64 b] := by simp only [evs, hx, hy]
  have h2 := h (a * b / 18446744073709551616) (a * b % 18446744073709551616) (by omega) (by omega) (by have := mul_top ha hb; omega)
  have h4 : ∀ w, Pure _ _ _ w _ := fun w => Mul64_ok (w := w) ha hb
  generalize (Value.tuple #[u64 (a * b / 18446744073709551616), u64 (a * b % 18446744073709551616)]) = v at h2 h4
  exact OpsW.det (det_call (xs := [x, y]) enMul64 h1 fun w _ _ => h4 w) hd h2
variable {xt yt : TypeId}
/-- A sum that does not wrap. -/
theorem OpsW.addw {a b : Nat} (hx : ev F x = some (u64 a)) (hy : ev F y = some (u64 b)) (hlt : a + b < 18446744073709551616) (hd : Nat.blt d n = true)
    (h : ∀ s, s = a + b → OpsW Tryd.prog n K G w0 ops rest R ((d, u64 s) :: F) H) :
    OpsW Tryd.prog n K G w0 ops (⟨some d, .binOp .add xt x y yt, ty, pos, after, none⟩ :: rest) R F H := by
  refine OpsW.det (v := u64 (a + b)) ?_ hd (h _ rfl)
  have := det_add (P := Tryd.prog) (K := K) (G := G) (w0 := w0) (d := some d) (ty := ty) (pos := pos) (after := after) (g := none) (F := F) (H := H) (xt := xt) (yt := yt) hx hy
  rwa [show IntKind.u64.wrap ((a : Int) + (b : Int)) = ((a + b : Nat) : Int) from by rw [Mul64.addN, Mul64.wrapN _ hlt]] at this
/-- A product of words, wrapped. -/
theorem OpsW.mulw {a b : Nat} (hx : ev F x = some (u64 a)) (hy : ev F y = some (u64 b)) (hd : Nat.blt d n = true)
    (h : ∀ s, s = a * b % 18446744073709551616 → s < 18446744073709551616 → OpsW Tryd.prog n K G w0 ops rest R ((d, u64 s) :: F) H) :
    OpsW Tryd.prog n K G w0 ops (⟨some d, .binOp .mul xt x y yt, ty, pos, after, none⟩ :: rest) R F H := by
  refine OpsW.det (v := u64 (a * b % 18446744073709551616)) ?_ hd (h _ rfl (by omega))
  have := det_mul (P := Tryd.prog) (K := K) (G := G) (w0 := w0) (d := some d) (ty := ty) (pos := pos) (after := after) (g := none) (F := F) (H := H) (xt := xt) (yt := yt) hx hy
  rwa [show IntKind.u64.wrap ((a : Int) * (b : Int)) = ((a * b % 18446744073709551616 : Nat) : Int) from by rw [Mul64.mulN, Mul64.wrapM]] at this
/-- A test of a word against a number. -/
theorem det_eqw {a b : Nat} (hx : ev F x = some (u64 a)) (hy : ev F y = some (u64 b)) {dd : Option Tmp} {g : Option (Nat × Bool)} : Det Tryd.prog K G w0 ⟨dd, .binOp .eql xt x y yt, ty, pos, after, g⟩ F H (.bool (a == b)) := by
  have := det_eql (P := Tryd.prog) (K := K) (G := G) (w0 := w0) (d := dd) (ty := ty) (pos := pos) (after := after) (g := g) (F := F) (H := H) (xt := xt) (yt := yt) hx hy
  rwa [show (((a : Int) == (b : Int)) : Bool) = (a == b) from by rw [Bool.eq_iff_iff]; simp; omega] at this
end
end Go.Cu

/- Montgomery's product: what the columns add up to. Conditions: none; plain arithmetic. -/
namespace Go.Cu
open Go Go.Vm
theorem prod_top {a b : Nat} (ha : a < 18446744073709551616) (hb : b < 18446744073709551616) : a * b ≤ 340282366920938463426481119284349108225 := by
  have := Nat.mul_le_mul (Nat.le_sub_one_of_lt ha) (Nat.le_sub_one_of_lt hb)
  simpa using this
theorem col0 {p lo hi s c w t : Nat} (e1 : lo + 18446744073709551616 * hi = p) (e2 : s + 18446744073709551616 * c = lo + t + 0) (e3 : w = hi + c) : s + 18446744073709551616 * w = p + t := by omega
theorem colz {p lo hi s c w t : Nat} (e1 : lo + 18446744073709551616 * hi = p) (e2 : s + 18446744073709551616 * c = lo + t + 0) (e3 : w = hi + c) (hz : s = 0) : 18446744073709551616 * w = p + t := by omega
theorem col {p lo hi ca s1 c1 w1 t s2 c2 w2 : Nat} (e1 : lo + 18446744073709551616 * hi = p) (e2 : s1 + 18446744073709551616 * c1 = lo + ca + 0) (e3 : w1 = hi + c1) (e4 : s2 + 18446744073709551616 * c2 = s1 + t + 0) (e5 : w2 = w1 + c2) :
    s2 + 18446744073709551616 * w2 = p + ca + t := by omega
theorem hi_lt {hi c : Nat} (h1 : hi ≤ 18446744073709551614) (h2 : c ≤ 1) : hi + c < 18446744073709551616 := by omega
theorem w_lt {hi c w : Nat} (h1 : hi ≤ 18446744073709551614) (h2 : c ≤ 1) (h3 : w = hi + c) : w < 18446744073709551616 := by omega
theorem col_lt {x y lo hi ca s1 c1 w1 t s2 c2 : Nat} (hx : x < 18446744073709551616) (hy : y < 18446744073709551616) (hca : ca < 18446744073709551616) (ht : t < 18446744073709551616) (e1 : lo + 18446744073709551616 * hi = x * y)
    (e2 : s1 + 18446744073709551616 * c1 = lo + ca + 0) (e3 : w1 = hi + c1) (e4 : s2 + 18446744073709551616 * c2 = s1 + t + 0) : w1 + c2 < 18446744073709551616 := by
  have := prod_top hx hy
  omega
theorem inv_step {p X Y M T T' i m : Nat} (hI : T * 18446744073709551616 ^ i = X * (Y % 18446744073709551616 ^ i) + M * p) (hs : 18446744073709551616 * T' = T + X * lim Y i + m * p) :
    T' * 18446744073709551616 ^ (i + 1) = X * (Y % 18446744073709551616 ^ (i + 1)) + (M + m * 18446744073709551616 ^ i) * p := by
  have h1 : Y % 18446744073709551616 ^ (i + 1) = Y % 18446744073709551616 ^ i + 18446744073709551616 ^ i * lim Y i := by
    rw [Nat.pow_succ, Nat.mod_mul]; rfl
  have h2 : T' * 18446744073709551616 ^ (i + 1) = (18446744073709551616 * T') * 18446744073709551616 ^ i := by
    rw [Nat.pow_succ]; ac_rfl
  rw [h2, hs, h1, Nat.add_mul, Nat.add_mul, hI, Nat.mul_add, Nat.add_mul, Nat.mul_assoc X, Nat.mul_comm (lim Y i), Nat.mul_assoc m, Nat.mul_comm p, ← Nat.mul_assoc m]
  omega
theorem inv_lt {M m i : Nat} (h1 : M < 18446744073709551616 ^ i) (h2 : m < 18446744073709551616) : M + m * 18446744073709551616 ^ i < 18446744073709551616 ^ (i + 1) := by
  have : (m + 1) * 18446744073709551616 ^ i ≤ 18446744073709551616 * 18446744073709551616 ^ i := Nat.mul_le_mul_right _ h2
  rw [Nat.pow_succ, Nat.mul_comm _ 18446744073709551616]
  rw [Nat.add_mul] at this
  omega
theorem inv_top {p X Y M T i : Nat} (hI : T * 18446744073709551616 ^ i = X * (Y % 18446744073709551616 ^ i) + M * p) (hM : M < 18446744073709551616 ^ i) (hX : X < p) : T < 2 * p := by
  have h0 : 0 < 18446744073709551616 ^ i := Nat.pow_pos (by decide)
  have h1 : X * (Y % 18446744073709551616 ^ i) ≤ p * 18446744073709551616 ^ i := Nat.mul_le_mul (Nat.le_of_lt hX) (Nat.le_of_lt (Nat.mod_lt _ h0))
  have h2 : M * p < p * 18446744073709551616 ^ i := by rw [Nat.mul_comm p]; exact Nat.mul_lt_mul_of_pos_right hM (by omega)
  have h3 : T * 18446744073709551616 ^ i < (2 * p) * 18446744073709551616 ^ i := by rw [Nat.mul_assoc]; omega
  exact Nat.lt_of_mul_lt_mul_right h3
/-- pp: n0. -/
theorem zero_pp {m s lo hi s' c : Nat} (hm : m = s * 9940570264628428797 % 18446744073709551616) (e1 : lo + 18446744073709551616 * hi = m * 13402431016077863595) (e2 : s' + 18446744073709551616 * c = lo + s + 0) (hs : s' < 18446744073709551616) : s' = 0 := by
  have := Nat.div_add_mod (s * 9940570264628428797) 18446744073709551616
  omega
theorem sum_pp {x0 x1 x2 x3 x4 x5 y m t0 t1 t2 t3 t4 t5 a0 a1 a2 a3 a4 a5 g0 g1 g2 g3 g4 g5 f0 f1 f2 f3 f4 f5 w0 w1 w2 w3 w4 u : Nat} (E0 : a0 + 18446744073709551616 * g0 = x0 * y + t0) (E1 : a1 + 18446744073709551616 * g1 = x1 * y + g0 + t1) (E2 : a2 + 18446744073709551616 * g2 = x2 * y + g1 + t2) (E3 : a3 + 18446744073709551616 * g3 = x3 * y + g2 + t3) (E4 : a4 + 18446744073709551616 * g4 = x4 * y + g3 + t4) (E5 : a5 + 18446744073709551616 * g5 = x5 * y + g4 + t5) (F0 : 18446744073709551616 * f0 = m * 13402431016077863595 + a0) (F1 : w0 + 18446744073709551616 * f1 = m * 2210141511517208575 + f0 + a1) (F2 : w1 + 18446744073709551616 * f2 = m * 7435674573564081700 + f1 + a2) (F3 : w2 + 18446744073709551616 * f3 = m * 7239337960414712511 + f2 + a3) (F4 : w3 + 18446744073709551616 * f4 = m * 5412103778470702295 + f3 + a4) (F5 : w4 + 18446744073709551616 * f5 = m * 1873798617647539866 + f4 + a5) (hu : u = g5 + f5) :
    18446744073709551616 * val6 w0 w1 w2 w3 w4 u = val6 t0 t1 t2 t3 t4 t5 + val6 x0 x1 x2 x3 x4 x5 * y + m * pp := by
  have hm : val6 x0 x1 x2 x3 x4 x5 * y = val6 (x0 * y) (x1 * y) (x2 * y) (x3 * y) (x4 * y) (x5 * y) := by unfold val6; simp only [Nat.add_mul, Nat.mul_assoc]
  rw [hm]
  unfold val6 pp
  omega
theorem top_pp {x0 x1 x2 x3 x4 x5 y m t0 t1 t2 t3 t4 t5 a0 a1 a2 a3 a4 a5 g0 g1 g2 g3 g4 g5 f0 f1 f2 f3 f4 f5 w0 w1 w2 w3 w4 : Nat} (E0 : a0 + 18446744073709551616 * g0 = x0 * y + t0) (E1 : a1 + 18446744073709551616 * g1 = x1 * y + g0 + t1) (E2 : a2 + 18446744073709551616 * g2 = x2 * y + g1 + t2) (E3 : a3 + 18446744073709551616 * g3 = x3 * y + g2 + t3) (E4 : a4 + 18446744073709551616 * g4 = x4 * y + g3 + t4) (E5 : a5 + 18446744073709551616 * g5 = x5 * y + g4 + t5) (F0 : 18446744073709551616 * f0 = m * 13402431016077863595 + a0) (F1 : w0 + 18446744073709551616 * f1 = m * 2210141511517208575 + f0 + a1) (F2 : w1 + 18446744073709551616 * f2 = m * 7435674573564081700 + f1 + a2) (F3 : w2 + 18446744073709551616 * f3 = m * 7239337960414712511 + f2 + a3) (F4 : w3 + 18446744073709551616 * f4 = m * 5412103778470702295 + f3 + a4) (F5 : w4 + 18446744073709551616 * f5 = m * 1873798617647539866 + f4 + a5) (hT : val6 t0 t1 t2 t3 t4 t5 < 2 * pp) (hX : val6 x0 x1 x2 x3 x4 x5 < pp) (hy : y < 18446744073709551616) (hm : m < 18446744073709551616) : g5 + f5 < 18446744073709551616 := by
  have h := sum_pp E0 E1 E2 E3 E4 E5 F0 F1 F2 F3 F4 F5 rfl
  have h1 : val6 x0 x1 x2 x3 x4 x5 * y ≤ pp * 18446744073709551615 := Nat.mul_le_mul (Nat.le_of_lt hX) (by omega)
  have h2 : val6 w0 w1 w2 w3 w4 (g5 + f5) < 2 * pp := by
    generalize val6 x0 x1 x2 x3 x4 x5 * y = z at h h1
    generalize val6 w0 w1 w2 w3 w4 (g5 + f5) = v at h ⊢
    generalize val6 t0 t1 t2 t3 t4 t5 = T at h hT
    unfold pp at *
    omega
  clear h h1 E0 F0 E1 F1 E2 F2 E3 F3 E4 F4 E5 F5
  unfold val6 pp at h2
  omega
def inv_pp : Nat := 3231460744492646417066832100176244795738767926513225105051837195607029917124509527734802654356338138714468589979680
theorem end_pp {X Y M T : Nat} (hI : T * 18446744073709551616 ^ 6 = X * (Y % 18446744073709551616 ^ 6) + M * pp) (hY : Y < pp) : T % pp = X * Y * inv_pp % pp := by
  rw [Nat.mod_eq_of_lt (show Y < 18446744073709551616 ^ 6 from Nat.lt_trans hY (by unfold pp; decide))] at hI
  have h1 : T * (18446744073709551616 ^ 6 * inv_pp) = X * Y * inv_pp + pp * (M * inv_pp) := by
    rw [← Nat.mul_assoc, hI, Nat.add_mul, Nat.mul_comm M, Nat.mul_assoc pp M]
  have h2 := congrArg (· % pp) h1
  simp only [Nat.add_mul_mod_self_left] at h2
  rw [← h2, Nat.mul_mod, show 18446744073709551616 ^ 6 * inv_pp % pp = 1 from by decide +kernel, Nat.mul_one, Nat.mod_mod]
/-- rr: n0. -/
theorem zero_rr {m s lo hi s' c : Nat} (hm : m = s * 18446744069414584319 % 18446744073709551616) (e1 : lo + 18446744073709551616 * hi = m * 18446744069414584321) (e2 : s' + 18446744073709551616 * c = lo + s + 0) (hs : s' < 18446744073709551616) : s' = 0 := by
  have := Nat.div_add_mod (s * 18446744069414584319) 18446744073709551616
  omega
theorem sum_rr {x0 x1 x2 x3 y m t0 t1 t2 t3 a0 a1 a2 a3 g0 g1 g2 g3 f0 f1 f2 f3 w0 w1 w2 u : Nat} (E0 : a0 + 18446744073709551616 * g0 = x0 * y + t0) (E1 : a1 + 18446744073709551616 * g1 = x1 * y + g0 + t1) (E2 : a2 + 18446744073709551616 * g2 = x2 * y + g1 + t2) (E3 : a3 + 18446744073709551616 * g3 = x3 * y + g2 + t3) (F0 : 18446744073709551616 * f0 = m * 18446744069414584321 + a0) (F1 : w0 + 18446744073709551616 * f1 = m * 6034159408538082302 + f0 + a1) (F2 : w1 + 18446744073709551616 * f2 = m * 3691218898639771653 + f1 + a2) (F3 : w2 + 18446744073709551616 * f3 = m * 8353516859464449352 + f2 + a3) (hu : u = g3 + f3) :
    18446744073709551616 * val4 w0 w1 w2 u = val4 t0 t1 t2 t3 + val4 x0 x1 x2 x3 * y + m * rr := by
  have hm : val4 x0 x1 x2 x3 * y = val4 (x0 * y) (x1 * y) (x2 * y) (x3 * y) := by unfold val4; simp only [Nat.add_mul, Nat.mul_assoc]
  rw [hm]
  unfold val4 rr
  omega
theorem top_rr {x0 x1 x2 x3 y m t0 t1 t2 t3 a0 a1 a2 a3 g0 g1 g2 g3 f0 f1 f2 f3 w0 w1 w2 : Nat} (E0 : a0 + 18446744073709551616 * g0 = x0 * y + t0) (E1 : a1 + 18446744073709551616 * g1 = x1 * y + g0 + t1) (E2 : a2 + 18446744073709551616 * g2 = x2 * y + g1 + t2) (E3 : a3 + 18446744073709551616 * g3 = x3 * y + g2 + t3) (F0 : 18446744073709551616 * f0 = m * 18446744069414584321 + a0) (F1 : w0 + 18446744073709551616 * f1 = m * 6034159408538082302 + f0 + a1) (F2 : w1 + 18446744073709551616 * f2 = m * 3691218898639771653 + f1 + a2) (F3 : w2 + 18446744073709551616 * f3 = m * 8353516859464449352 + f2 + a3) (hT : val4 t0 t1 t2 t3 < 2 * rr) (hX : val4 x0 x1 x2 x3 < rr) (hy : y < 18446744073709551616) (hm : m < 18446744073709551616) : g3 + f3 < 18446744073709551616 := by
  have h := sum_rr E0 E1 E2 E3 F0 F1 F2 F3 rfl
  have h1 : val4 x0 x1 x2 x3 * y ≤ rr * 18446744073709551615 := Nat.mul_le_mul (Nat.le_of_lt hX) (by omega)
  have h2 : val4 w0 w1 w2 (g3 + f3) < 2 * rr := by
    generalize val4 x0 x1 x2 x3 * y = z at h h1
    generalize val4 w0 w1 w2 (g3 + f3) = v at h ⊢
    generalize val4 t0 t1 t2 t3 = T at h hT
    unfold rr at *
    omega
  clear h h1 E0 F0 E1 F1 E2 F2 E3 F3
  unfold val4 rr at h2
  omega
def inv_rr : Nat := 12549076656233958353659347336803947287922716146853412054870763148006372261952
theorem end_rr {X Y M T : Nat} (hI : T * 18446744073709551616 ^ 4 = X * (Y % 18446744073709551616 ^ 4) + M * rr) (hY : Y < rr) : T % rr = X * Y * inv_rr % rr := by
  rw [Nat.mod_eq_of_lt (show Y < 18446744073709551616 ^ 4 from Nat.lt_trans hY (by unfold rr; decide))] at hI
  have h1 : T * (18446744073709551616 ^ 4 * inv_rr) = X * Y * inv_rr + rr * (M * inv_rr) := by
    rw [← Nat.mul_assoc, hI, Nat.add_mul, Nat.mul_comm M, Nat.mul_assoc rr M]
  have h2 := congrArg (· % rr) h1
  simp only [Nat.add_mul_mod_self_left] at h2
  rw [← h2, Nat.mul_mod, show 18446744073709551616 ^ 4 * inv_rr % rr = 1 from by decide +kernel, Nat.mul_one, Nat.mod_mod]
theorem mont_mul (x y : Fq) : mont x * mont y * inv_pp % pp = mont (x * y) := by
  unfold mont
  rw [Zp.mul_val, Nat.mul_mod, ← Nat.mul_mod (x.val * R6), ← Nat.mul_mod, Nat.mod_mul_mod,
    show x.val * R6 * (y.val * R6) * inv_pp = x.val * y.val * R6 * (R6 * inv_pp) from by ac_rfl, Nat.mul_mod, show R6 * inv_pp % pp = 1 from by decide +kernel, Nat.mul_one, Nat.mod_mod]
theorem mont_add (x y : Fq) : (mont x + mont y) % pp = mont (x + y) := by
  unfold mont
  rw [Zp.add_val, ← Nat.add_mod, ← Nat.add_mul, Nat.mod_mul_mod]
theorem mont_sub (x y : Fq) : (mont x + (pp - mont y)) % pp = mont (x - y) := by
  unfold mont
  rw [Zp.sub_val, Nat.mod_mul_mod]
  have h1 := Nat.mod_lt (y.val * R6) pp_pos
  have h2 := Nat.div_add_mod (y.val * R6) pp
  have hy := y.lt
  have h3 : (x.val + (pp - y.val)) * R6 + pp * (y.val * R6 / pp) = (x.val * R6 + (pp - y.val * R6 % pp)) + pp * (R6 - 1) := by
    have : (pp - y.val) * R6 + y.val * R6 = pp * R6 := by rw [← Nat.add_mul, Nat.sub_add_cancel (Nat.le_of_lt hy)]
    have h5 : pp * R6 = pp * (R6 - 1) + pp := by rw [← Nat.mul_succ]; rfl
    rw [Nat.add_mul]
    generalize pp * (R6 - 1) = z at *
    omega
  have h4 := congrArg (· % pp) h3
  simp only [Nat.add_mul_mod_self_left] at h4
  rw [h4, Nat.add_mod, Nat.mod_mod, ← Nat.add_mod]
end Go.Cu

/- The first group's field: sums, differences, products: the walks. Conditions: numbers below the modulus. -/
namespace Go.Cu
open Go Go.Vm Go.RowKit Go.Proofs 
attribute [local irreducible] W OpsW Det Fresh New Writes Vm.Pure Makes Changes ExternTo BuildTo ZeroTo FieldTo IndexTo BinTo SliceTo Vm.Enters
set_option linter.unusedVariables false
set_option linter.unusedSimpArgs false
variable {T : Nat → TypeId × Nat × Nat}

theorem val6_lt {a b c d e f : Nat} (h0 : a < 18446744073709551616) (h1 : b < 18446744073709551616) (h2 : c < 18446744073709551616) (h3 : d < 18446744073709551616) (h4 : e < 18446744073709551616) (h5 : f < 18446744073709551616) : val6 a b c d e f < R6 := by
  unfold val6 R6; omega
abbrev glo1 : List Value := [u64 17644856173732828998, u64 754043588434789617, u64 10224657059481499349, u64 7488229067341005760, u64 11130996698012816685, u64 1267921511277847466]
abbrev glo2 : List Value := [u64 13402431016077863595, u64 2210141511517208575, u64 7435674573564081700, u64 7239337960414712511, u64 5412103778470702295, u64 1873798617647539866]
abbrev glo0 : List Value := [u64 14526898881837571181, u64 3129137299524312099, u64 419701826671360399, u64 524908885293268753]
abbrev glo3 : List Value := [u64 18446744069414584321, u64 6034159408538082302, u64 3691218898639771653, u64 8353516859464449352]
abbrev GH (T : Nat → TypeId × Nat × Nat) : Hp := [(0, .cells glo0.toArray (T 0).1 (T 0).2), (1, .cells glo1.toArray (T 1).1 (T 1).2), (2, .cells glo2.toArray (T 2).1 (T 2).2), (3, .cells glo3.toArray (T 3).1 (T 3).2)]
theorem step_lt {n i : Nat} (h : i < n) : n - (i + 1) < n - i := by omega
theorem idx_ok {n i : Nat} (h : i < n) (hn : n ≤ 9223372036854775807) : i + 1 ≤ 9223372036854775807 := by omega
theorem lo_mod {v : Nat} (h : v < pp) : v % pp = v := Nat.mod_eq_of_lt h
theorem hi_mod {v : Nat} (h : pp ≤ v) (h2 : v < 2 * pp) : v % pp = v - pp := by
  rw [Nat.mod_eq_sub_mod h, Nat.mod_eq_of_lt (by omega)]

theorem bld26 {v0 v1 v2 v3 v4 v5 : Int} : BuildTo Tryd.prog 26 [(0, .int .u64 v0), (1, .int .u64 v1), (2, .int .u64 v2), (3, .int .u64 v3), (4, .int .u64 v4), (5, .int .u64 v5)] (.agg #[.int .u64 v0, .int .u64 v1, .int .u64 v2, .int .u64 v3, .int .u64 v4, .int .u64 v5]) := BuildTo.of fun _ => by kernel_rfl
theorem bld28 {v0 v1 v2 v3 v4 v5 : Int} : BuildTo Tryd.prog 28 [(0, (.agg #[.int .u64 v0, .int .u64 v1, .int .u64 v2, .int .u64 v3, .int .u64 v4, .int .u64 v5]))] (.agg #[.int .u64 v0, .int .u64 v1, .int .u64 v2, .int .u64 v3, .int .u64 v4, .int .u64 v5]) := BuildTo.of fun _ => by kernel_rfl
theorem en73 : Vm.Enters Tryd.prog 73 := Vm.Enters.of fun _ _ => by kernel_rfl
theorem fl28_0 : TyF Tryd.prog 28 0 0 6 := ⟨⟨26, by kernel_rfl, by kernel_rfl⟩, by decide⟩
theorem sz25 : sizeIn Tryd.prog 25 = some 1 := by kernel_rfl
theorem sz26 : sizeIn Tryd.prog 26 = some 6 := by kernel_rfl
theorem sz28 : sizeIn Tryd.prog 28 = some 6 := by kernel_rfl
theorem ty25 : TyC Tryd.prog 25 := ⟨by kernel_rfl, by kernel_rfl⟩
theorem ty26 : TyA Tryd.prog 26 6 := ⟨by kernel_rfl, by kernel_rfl⟩
theorem ty28 : TyA Tryd.prog 28 6 := ⟨by kernel_rfl, by kernel_rfl⟩
theorem u26 : Tryd.prog.underlying 26 = some (.array 6 25) := by kernel_rfl
theorem z26 : TyZ Tryd.prog 26 (.agg #[.int .u64 0, .int .u64 0, .int .u64 0, .int .u64 0, .int .u64 0, .int .u64 0]) [.int .u64 0, .int .u64 0, .int .u64 0, .int .u64 0, .int .u64 0, .int .u64 0] := ⟨fun _ => by kernel_rfl, by kernel_rfl⟩
theorem z28 : TyZ Tryd.prog 28 (.agg #[.int .u64 0, .int .u64 0, .int .u64 0, .int .u64 0, .int .u64 0, .int .u64 0]) [.int .u64 0, .int .u64 0, .int .u64 0, .int .u64 0, .int .u64 0, .int .u64 0] := ⟨fun _ => by kernel_rfl, by kernel_rfl⟩
theorem reduce_ok {a0 a1 a2 a3 a4 a5 : Nat} (h0 : a0 < 18446744073709551616) (h1 : a1 < 18446744073709551616) (h2 : a2 < 18446744073709551616) (h3 : a3 < 18446744073709551616) (h4 : a4 < 18446744073709551616) (h5 : a5 < 18446744073709551616) (hV : val6 a0 a1 a2 a3 a4 a5 < 2 * pp) {w : World} (hG : Blocks (GH T) w)  : Vm.Pure Tryd.prog 73 #[.agg #[u64 a0, u64 a1, u64 a2, u64 a3, u64 a4, u64 a5], u64 0] w (enc6 (val6 a0 a1 a2 a3 a4 a5 % pp)) := by
  refine pure_of_W (n := 67) (args := [.agg #[u64 a0, u64 a1, u64 a2, u64 a3, u64 a4, u64 a5], u64 0]) Tryd.func73 rfl Tryd.ntmps73 (Nat.le_of_ble_eq_true rfl) hG ?_
  refine sStart ?_
  refine sSeq ?_
  refine W.region ?_
  refine OpsW.fresh (fr_box rfl rfl) rfl fun b2 => ?_
  refine OpsW.fresh (fr_alloc z26) rfl fun b4 => ?_
  refine sNext ?_
  refine W.keep (F' := [(4, _), (2, _), (1, _)]) ⟨rfl, rfl, rfl, trivial⟩ ?_
  refine sSeq ?_
  refine W.region ?_
  refine OpsW.det (det_indexAddr_arr u26 sz25 rfl rfl ⟨by decide, by decide⟩) rfl ?_
  refine OpsW.det (det_loadC ty25 rfl (List.Mem.tail _ (List.Mem.head _)) rfl) rfl ?_
  refine OpsW.sub64 (b := 13402431016077863595) (e := 0) rfl rfl rfl (by first | assumption | exact lim_lt _ _ | decide) (by first | assumption | exact lim_lt _ _ | decide) (by first | assumption | decide) rfl fun s15 c15 he15 hs15 hk15 => ?_
  refine OpsW.det (det_move rfl) rfl ?_
  refine OpsW.det (det_extract rfl rfl) rfl ?_
  refine OpsW.det (det_extract rfl rfl) rfl ?_
  refine OpsW.det (det_assign rfl) rfl ?_
  refine OpsW.det (det_assign rfl) rfl ?_
  refine sNext ?_
  refine W.keep (F' := [(6, _), (5, _), (4, _), (2, _), (1, _)]) ⟨rfl, rfl, rfl, rfl, rfl, trivial⟩ ?_
  refine sSeq ?_
  refine W.region ?_
  refine OpsW.det (det_indexAddr_arr u26 sz25 rfl rfl ⟨by decide, by decide⟩) rfl ?_
  refine OpsW.det (det_loadC ty25 rfl (List.Mem.tail _ (List.Mem.head _)) rfl) rfl ?_
  refine OpsW.det (det_move rfl) rfl ?_
  refine OpsW.sub64 (b := 2210141511517208575) rfl rfl rfl (by first | assumption | exact lim_lt _ _ | decide) (by first | assumption | exact lim_lt _ _ | decide) (by first | assumption | decide) rfl fun s22 c22 he22 hs22 hk22 => ?_
  refine OpsW.det (det_move rfl) rfl ?_
  refine OpsW.det (det_extract rfl rfl) rfl ?_
  refine OpsW.det (det_extract rfl rfl) rfl ?_
  refine OpsW.det (det_assign rfl) rfl ?_
  refine OpsW.det (det_assign rfl) rfl ?_
  refine sNext ?_
  refine W.keep (F' := [(6, _), (7, _), (5, _), (4, _), (2, _), (1, _)]) ⟨rfl, rfl, rfl, rfl, rfl, rfl, trivial⟩ ?_
  refine sSeq ?_
  refine W.region ?_
  refine OpsW.det (det_indexAddr_arr u26 sz25 rfl rfl ⟨by decide, by decide⟩) rfl ?_
  refine OpsW.det (det_loadC ty25 rfl (List.Mem.tail _ (List.Mem.head _)) rfl) rfl ?_
  refine OpsW.det (det_move rfl) rfl ?_
  refine OpsW.sub64 (b := 7435674573564081700) rfl rfl rfl (by first | assumption | exact lim_lt _ _ | decide) (by first | assumption | exact lim_lt _ _ | decide) (by first | assumption | decide) rfl fun s29 c29 he29 hs29 hk29 => ?_
  refine OpsW.det (det_move rfl) rfl ?_
  refine OpsW.det (det_extract rfl rfl) rfl ?_
  refine OpsW.det (det_extract rfl rfl) rfl ?_
  refine OpsW.det (det_assign rfl) rfl ?_
  refine OpsW.det (det_assign rfl) rfl ?_
  refine sNext ?_
  refine W.keep (F' := [(6, _), (8, _), (7, _), (5, _), (4, _), (2, _), (1, _)]) ⟨rfl, rfl, rfl, rfl, rfl, rfl, rfl, trivial⟩ ?_
  refine sSeq ?_
  refine W.region ?_
  refine OpsW.det (det_indexAddr_arr u26 sz25 rfl rfl ⟨by decide, by decide⟩) rfl ?_
  refine OpsW.det (det_loadC ty25 rfl (List.Mem.tail _ (List.Mem.head _)) rfl) rfl ?_
  refine OpsW.det (det_move rfl) rfl ?_
  refine OpsW.sub64 (b := 7239337960414712511) rfl rfl rfl (by first | assumption | exact lim_lt _ _ | decide) (by first | assumption | exact lim_lt _ _ | decide) (by first | assumption | decide) rfl fun s36 c36 he36 hs36 hk36 => ?_
  refine OpsW.det (det_move rfl) rfl ?_
  refine OpsW.det (det_extract rfl rfl) rfl ?_
  refine OpsW.det (det_extract rfl rfl) rfl ?_
  refine OpsW.det (det_assign rfl) rfl ?_
  refine OpsW.det (det_assign rfl) rfl ?_
  refine sNext ?_
  refine W.keep (F' := [(6, _), (9, _), (8, _), (7, _), (5, _), (4, _), (2, _), (1, _)]) ⟨rfl, rfl, rfl, rfl, rfl, rfl, rfl, rfl, trivial⟩ ?_
  refine sSeq ?_
  refine W.region ?_
  refine OpsW.det (det_indexAddr_arr u26 sz25 rfl rfl ⟨by decide, by decide⟩) rfl ?_
  refine OpsW.det (det_loadC ty25 rfl (List.Mem.tail _ (List.Mem.head _)) rfl) rfl ?_
  refine OpsW.det (det_move rfl) rfl ?_
  refine OpsW.sub64 (b := 5412103778470702295) rfl rfl rfl (by first | assumption | exact lim_lt _ _ | decide) (by first | assumption | exact lim_lt _ _ | decide) (by first | assumption | decide) rfl fun s43 c43 he43 hs43 hk43 => ?_
  refine OpsW.det (det_move rfl) rfl ?_
  refine OpsW.det (det_extract rfl rfl) rfl ?_
  refine OpsW.det (det_extract rfl rfl) rfl ?_
  refine OpsW.det (det_assign rfl) rfl ?_
  refine OpsW.det (det_assign rfl) rfl ?_
  refine sNext ?_
  refine W.keep (F' := [(6, _), (10, _), (9, _), (8, _), (7, _), (5, _), (4, _), (2, _), (1, _)]) ⟨rfl, rfl, rfl, rfl, rfl, rfl, rfl, rfl, rfl, trivial⟩ ?_
  refine sSeq ?_
  refine W.region ?_
  refine OpsW.det (det_indexAddr_arr u26 sz25 rfl rfl ⟨by decide, by decide⟩) rfl ?_
  refine OpsW.det (det_loadC ty25 rfl (List.Mem.tail _ (List.Mem.head _)) rfl) rfl ?_
  refine OpsW.det (det_move rfl) rfl ?_
  refine OpsW.sub64 (b := 1873798617647539866) rfl rfl rfl (by first | assumption | exact lim_lt _ _ | decide) (by first | assumption | exact lim_lt _ _ | decide) (by first | assumption | decide) rfl fun s50 c50 he50 hs50 hk50 => ?_
  refine OpsW.det (det_move rfl) rfl ?_
  refine OpsW.det (det_extract rfl rfl) rfl ?_
  refine OpsW.det (det_extract rfl rfl) rfl ?_
  refine OpsW.det (det_assign rfl) rfl ?_
  refine OpsW.det (det_assign rfl) rfl ?_
  refine sNext ?_
  refine W.keep (F' := [(6, _), (11, _), (10, _), (9, _), (8, _), (7, _), (5, _), (4, _), (2, _), (1, _)]) ⟨rfl, rfl, rfl, rfl, rfl, rfl, rfl, rfl, rfl, rfl, trivial⟩ ?_
  refine sSeq ?_
  refine sSeq ?_
  have hb : (c50 = 1 ∧ val6 a0 a1 a2 a3 a4 a5 < pp) ∨ (c50 = 0 ∧ pp ≤ val6 a0 a1 a2 a3 a4 a5 ∧ val6 s15 s22 s29 s36 s43 s50 = val6 a0 a1 a2 a3 a4 a5 - pp) := by unfold val6 pp; omega
  refine W.region ?_
  refine OpsW.det (det_move rfl) rfl ?_
  refine OpsW.det (det_eql rfl rfl) rfl ?_
  refine OpsW.det (det_move rfl) rfl ?_
  refine OpsW.guard_yes rfl rfl ?_
  refine OpsW.det (det_move rfl) rfl ?_
  refine OpsW.guard_yes rfl rfl ?_
  refine OpsW.det (det_eql rfl rfl) rfl ?_
  refine OpsW.det (det_pick rfl rfl) rfl ?_
  refine sNext ?_
  refine W.keep (F' := [(58, _), (11, _), (10, _), (9, _), (8, _), (7, _), (5, _), (4, _), (2, _)]) ⟨rfl, rfl, rfl, rfl, rfl, rfl, rfl, rfl, rfl, trivial⟩ ?_
  refine W.cond rfl (fun hc58 => ?_) (fun hc58 => ?_)
  · skip
    have hb1 : c50 = 1 := by have h := hc58; simp at h; omega
    have hb2 : val6 a0 a1 a2 a3 a4 a5 < pp := by omega
    refine sSeq ?_
    refine W.region ?_
    refine OpsW.det (det_loadA ty26 rfl (List.Mem.tail _ (List.Mem.head _)) rfl) rfl ?_
    refine OpsW.store sz26 rfl rfl rfl rfl rfl (Upd.here) rfl ?_
    refine sNext ?_
    refine W.keep (F' := [(4, _)]) ⟨rfl, trivial⟩ ?_
    refine sRet ?_
    exact done1 Tryd.results73 (rv_cellA ty26 rfl (List.Mem.head _) rfl) (((congrArg enc6 (lo_mod hb2)).trans (lim6 h0 h1 h2 h3 h4 h5)).symm)
  · skip
    have hb1 : c50 ≠ 1 := by have h := hc58; simp at h; omega
    have hb2 : val6 s15 s22 s29 s36 s43 s50 = val6 a0 a1 a2 a3 a4 a5 % pp := by rw [hi_mod (by omega) hV]; omega
    refine sSkip ?_
    refine sSeq ?_
    refine W.region ?_
    refine OpsW.det (det_move rfl) rfl ?_
    refine OpsW.det (det_move rfl) rfl ?_
    refine OpsW.det (det_move rfl) rfl ?_
    refine OpsW.det (det_move rfl) rfl ?_
    refine OpsW.det (det_move rfl) rfl ?_
    refine OpsW.det (det_move rfl) rfl ?_
    refine OpsW.det (det_build rfl bld26) rfl ?_
    refine OpsW.store sz26 rfl rfl rfl rfl rfl (Upd.here) rfl ?_
    refine sNext ?_
    refine W.keep (F' := [(4, _)]) ⟨rfl, trivial⟩ ?_
    refine sRet ?_
    exact done1 Tryd.results73 (rv_cellA ty26 rfl (List.Mem.head _) rfl) ((lim6 hs15 hs22 hs29 hs36 hs43 hs50).symm.trans (congrArg enc6 hb2))
theorem Add_w_ok {m k : Nat} (hm : m < pp) (hk : k < pp) {w : World} (hG : Blocks (GH T) w)  : Vm.Pure Tryd.prog 33 #[.agg #[u64 (lim (m) 0), u64 (lim (m) 1), u64 (lim (m) 2), u64 (lim (m) 3), u64 (lim (m) 4), u64 (lim (m) 5)], .agg #[u64 (lim (k) 0), u64 (lim (k) 1), u64 (lim (k) 2), u64 (lim (k) 3), u64 (lim (k) 4), u64 (lim (k) 5)]] w (enc6 ((m + k) % pp)) := by
  refine pure_of_W (n := 87) (args := [.agg #[u64 (lim (m) 0), u64 (lim (m) 1), u64 (lim (m) 2), u64 (lim (m) 3), u64 (lim (m) 4), u64 (lim (m) 5)], .agg #[u64 (lim (k) 0), u64 (lim (k) 1), u64 (lim (k) 2), u64 (lim (k) 3), u64 (lim (k) 4), u64 (lim (k) 5)]]) Tryd.func33 rfl Tryd.ntmps33 (Nat.le_of_ble_eq_true rfl) hG ?_
  refine sStart ?_
  refine sSeq ?_
  refine W.region ?_
  refine OpsW.fresh (fr_box rfl rfl) rfl fun b2 => ?_
  refine OpsW.fresh (fr_box rfl rfl) rfl fun b3 => ?_
  refine OpsW.fresh (fr_alloc z28) rfl fun b4 => ?_
  refine sNext ?_
  refine W.keep (F' := [(4, _), (3, _), (2, _)]) ⟨rfl, rfl, rfl, trivial⟩ ?_
  refine sSeq ?_
  refine W.region ?_
  refine OpsW.det (det_fieldAddr fl28_0 rfl) rfl ?_
  refine OpsW.det (det_indexAddr_arr u26 sz25 rfl rfl ⟨by decide, by decide⟩) rfl ?_
  refine OpsW.det (det_loadC ty25 rfl (List.Mem.tail _ (List.Mem.tail _ (List.Mem.head _))) rfl) rfl ?_
  refine OpsW.det (det_fieldAddr fl28_0 rfl) rfl ?_
  refine OpsW.det (det_indexAddr_arr u26 sz25 rfl rfl ⟨by decide, by decide⟩) rfl ?_
  refine OpsW.det (det_loadC ty25 rfl (List.Mem.tail _ (List.Mem.head _)) rfl) rfl ?_
  refine OpsW.add64 (e := 0) rfl rfl rfl (by first | assumption | exact lim_lt _ _ | decide) (by first | assumption | exact lim_lt _ _ | decide) (by first | assumption | decide) rfl fun s19 c19 he19 hs19 hk19 => ?_
  refine OpsW.det (det_move rfl) rfl ?_
  refine OpsW.det (det_extract rfl rfl) rfl ?_
  refine OpsW.det (det_extract rfl rfl) rfl ?_
  refine OpsW.det (det_assign rfl) rfl ?_
  refine OpsW.det (det_assign rfl) rfl ?_
  refine sNext ?_
  refine W.keep (F' := [(6, _), (5, _), (4, _), (3, _), (2, _)]) ⟨rfl, rfl, rfl, rfl, rfl, trivial⟩ ?_
  refine sSeq ?_
  refine W.region ?_
  refine OpsW.det (det_fieldAddr fl28_0 rfl) rfl ?_
  refine OpsW.det (det_indexAddr_arr u26 sz25 rfl rfl ⟨by decide, by decide⟩) rfl ?_
  refine OpsW.det (det_loadC ty25 rfl (List.Mem.tail _ (List.Mem.tail _ (List.Mem.head _))) rfl) rfl ?_
  refine OpsW.det (det_fieldAddr fl28_0 rfl) rfl ?_
  refine OpsW.det (det_indexAddr_arr u26 sz25 rfl rfl ⟨by decide, by decide⟩) rfl ?_
  refine OpsW.det (det_loadC ty25 rfl (List.Mem.tail _ (List.Mem.head _)) rfl) rfl ?_
  refine OpsW.det (det_move rfl) rfl ?_
  refine OpsW.add64 rfl rfl rfl (by first | assumption | exact lim_lt _ _ | decide) (by first | assumption | exact lim_lt _ _ | decide) (by first | assumption | decide) rfl fun s30 c30 he30 hs30 hk30 => ?_
  refine OpsW.det (det_move rfl) rfl ?_
  refine OpsW.det (det_extract rfl rfl) rfl ?_
  refine OpsW.det (det_extract rfl rfl) rfl ?_
  refine OpsW.det (det_assign rfl) rfl ?_
  refine OpsW.det (det_assign rfl) rfl ?_
  refine sNext ?_
  refine W.keep (F' := [(6, _), (7, _), (5, _), (4, _), (3, _), (2, _)]) ⟨rfl, rfl, rfl, rfl, rfl, rfl, trivial⟩ ?_
  refine sSeq ?_
  refine W.region ?_
  refine OpsW.det (det_fieldAddr fl28_0 rfl) rfl ?_
  refine OpsW.det (det_indexAddr_arr u26 sz25 rfl rfl ⟨by decide, by decide⟩) rfl ?_
  refine OpsW.det (det_loadC ty25 rfl (List.Mem.tail _ (List.Mem.tail _ (List.Mem.head _))) rfl) rfl ?_
  refine OpsW.det (det_fieldAddr fl28_0 rfl) rfl ?_
  refine OpsW.det (det_indexAddr_arr u26 sz25 rfl rfl ⟨by decide, by decide⟩) rfl ?_
  refine OpsW.det (det_loadC ty25 rfl (List.Mem.tail _ (List.Mem.head _)) rfl) rfl ?_
  refine OpsW.det (det_move rfl) rfl ?_
  refine OpsW.add64 rfl rfl rfl (by first | assumption | exact lim_lt _ _ | decide) (by first | assumption | exact lim_lt _ _ | decide) (by first | assumption | decide) rfl fun s41 c41 he41 hs41 hk41 => ?_
  refine OpsW.det (det_move rfl) rfl ?_
  refine OpsW.det (det_extract rfl rfl) rfl ?_
  refine OpsW.det (det_extract rfl rfl) rfl ?_
  refine OpsW.det (det_assign rfl) rfl ?_
  refine OpsW.det (det_assign rfl) rfl ?_
  refine sNext ?_
  refine W.keep (F' := [(6, _), (8, _), (7, _), (5, _), (4, _), (3, _), (2, _)]) ⟨rfl, rfl, rfl, rfl, rfl, rfl, rfl, trivial⟩ ?_
  refine sSeq ?_
  refine W.region ?_
  refine OpsW.det (det_fieldAddr fl28_0 rfl) rfl ?_
  refine OpsW.det (det_indexAddr_arr u26 sz25 rfl rfl ⟨by decide, by decide⟩) rfl ?_
  refine OpsW.det (det_loadC ty25 rfl (List.Mem.tail _ (List.Mem.tail _ (List.Mem.head _))) rfl) rfl ?_
  refine OpsW.det (det_fieldAddr fl28_0 rfl) rfl ?_
  refine OpsW.det (det_indexAddr_arr u26 sz25 rfl rfl ⟨by decide, by decide⟩) rfl ?_
  refine OpsW.det (det_loadC ty25 rfl (List.Mem.tail _ (List.Mem.head _)) rfl) rfl ?_
  refine OpsW.det (det_move rfl) rfl ?_
  refine OpsW.add64 rfl rfl rfl (by first | assumption | exact lim_lt _ _ | decide) (by first | assumption | exact lim_lt _ _ | decide) (by first | assumption | decide) rfl fun s52 c52 he52 hs52 hk52 => ?_
  refine OpsW.det (det_move rfl) rfl ?_
  refine OpsW.det (det_extract rfl rfl) rfl ?_
  refine OpsW.det (det_extract rfl rfl) rfl ?_
  refine OpsW.det (det_assign rfl) rfl ?_
  refine OpsW.det (det_assign rfl) rfl ?_
  refine sNext ?_
  refine W.keep (F' := [(6, _), (9, _), (8, _), (7, _), (5, _), (4, _), (3, _), (2, _)]) ⟨rfl, rfl, rfl, rfl, rfl, rfl, rfl, rfl, trivial⟩ ?_
  refine sSeq ?_
  refine W.region ?_
  refine OpsW.det (det_fieldAddr fl28_0 rfl) rfl ?_
  refine OpsW.det (det_indexAddr_arr u26 sz25 rfl rfl ⟨by decide, by decide⟩) rfl ?_
  refine OpsW.det (det_loadC ty25 rfl (List.Mem.tail _ (List.Mem.tail _ (List.Mem.head _))) rfl) rfl ?_
  refine OpsW.det (det_fieldAddr fl28_0 rfl) rfl ?_
  refine OpsW.det (det_indexAddr_arr u26 sz25 rfl rfl ⟨by decide, by decide⟩) rfl ?_
  refine OpsW.det (det_loadC ty25 rfl (List.Mem.tail _ (List.Mem.head _)) rfl) rfl ?_
  refine OpsW.det (det_move rfl) rfl ?_
  refine OpsW.add64 rfl rfl rfl (by first | assumption | exact lim_lt _ _ | decide) (by first | assumption | exact lim_lt _ _ | decide) (by first | assumption | decide) rfl fun s63 c63 he63 hs63 hk63 => ?_
  refine OpsW.det (det_move rfl) rfl ?_
  refine OpsW.det (det_extract rfl rfl) rfl ?_
  refine OpsW.det (det_extract rfl rfl) rfl ?_
  refine OpsW.det (det_assign rfl) rfl ?_
  refine OpsW.det (det_assign rfl) rfl ?_
  refine sNext ?_
  refine W.keep (F' := [(6, _), (10, _), (9, _), (8, _), (7, _), (5, _), (4, _), (3, _), (2, _)]) ⟨rfl, rfl, rfl, rfl, rfl, rfl, rfl, rfl, rfl, trivial⟩ ?_
  refine sSeq ?_
  refine W.region ?_
  refine OpsW.det (det_fieldAddr fl28_0 rfl) rfl ?_
  refine OpsW.det (det_indexAddr_arr u26 sz25 rfl rfl ⟨by decide, by decide⟩) rfl ?_
  refine OpsW.det (det_loadC ty25 rfl (List.Mem.tail _ (List.Mem.tail _ (List.Mem.head _))) rfl) rfl ?_
  refine OpsW.det (det_fieldAddr fl28_0 rfl) rfl ?_
  refine OpsW.det (det_indexAddr_arr u26 sz25 rfl rfl ⟨by decide, by decide⟩) rfl ?_
  refine OpsW.det (det_loadC ty25 rfl (List.Mem.tail _ (List.Mem.head _)) rfl) rfl ?_
  refine OpsW.det (det_move rfl) rfl ?_
  refine OpsW.add64 rfl rfl rfl (by first | assumption | exact lim_lt _ _ | decide) (by first | assumption | exact lim_lt _ _ | decide) (by first | assumption | decide) rfl fun s74 c74 he74 hs74 hk74 => ?_
  refine OpsW.det (det_move rfl) rfl ?_
  refine OpsW.det (det_extract rfl rfl) rfl ?_
  refine OpsW.det (det_extract rfl rfl) rfl ?_
  refine OpsW.det (det_assign rfl) rfl ?_
  refine OpsW.det (det_assign rfl) rfl ?_
  refine sNext ?_
  refine W.keep (F' := [(6, _), (11, _), (10, _), (9, _), (8, _), (7, _), (5, _), (4, _)]) ⟨rfl, rfl, rfl, rfl, rfl, rfl, rfl, rfl, trivial⟩ ?_
  refine sSeq ?_
  have hm' := val_lim6 (m := m) (by unfold pp at hm; unfold R6; omega)
  have hk' := val_lim6 (m := k) (by unfold pp at hk; unfold R6; omega)
  have hz : c74 = 0 := by unfold val6 at hm' hk'; unfold pp at hm hk; omega
  subst hz
  have hV : val6 s19 s30 s41 s52 s63 s74 = m + k := by unfold val6 at hm' hk' ⊢; omega
  refine W.region ?_
  refine OpsW.det (det_move rfl) rfl ?_
  refine OpsW.det (det_move rfl) rfl ?_
  refine OpsW.det (det_move rfl) rfl ?_
  refine OpsW.det (det_move rfl) rfl ?_
  refine OpsW.det (det_move rfl) rfl ?_
  refine OpsW.det (det_move rfl) rfl ?_
  refine OpsW.det (det_build rfl bld26) rfl ?_
  refine OpsW.det (det_move rfl) rfl ?_
  refine OpsW.det (det_call en73 rfl (fun w hb ho => reduce_ok hs19 hs30 hs41 hs52 hs63 hs74 (by omega) ho.blocks)) rfl ?_
  refine OpsW.det (det_build rfl bld28) rfl ?_
  refine OpsW.store sz28 rfl rfl rfl rfl rfl (Upd.here) rfl ?_
  refine sNext ?_
  refine W.keep (F' := [(4, _)]) ⟨rfl, trivial⟩ ?_
  refine sRet ?_
  exact done1 Tryd.results33 (rv_cellA ty28 rfl (List.Mem.head _) rfl) (congrArg (fun z => enc6 (z % pp)) hV)
theorem Sub_w_ok {m k : Nat} (hm : m < pp) (hk : k < pp) {w : World} (hG : Blocks (GH T) w)  : Vm.Pure Tryd.prog 67 #[.agg #[u64 (lim (m) 0), u64 (lim (m) 1), u64 (lim (m) 2), u64 (lim (m) 3), u64 (lim (m) 4), u64 (lim (m) 5)], .agg #[u64 (lim (k) 0), u64 (lim (k) 1), u64 (lim (k) 2), u64 (lim (k) 3), u64 (lim (k) 4), u64 (lim (k) 5)]] w (enc6 ((m + (pp - k)) % pp)) := by
  refine pure_of_W (n := 131) (args := [.agg #[u64 (lim (m) 0), u64 (lim (m) 1), u64 (lim (m) 2), u64 (lim (m) 3), u64 (lim (m) 4), u64 (lim (m) 5)], .agg #[u64 (lim (k) 0), u64 (lim (k) 1), u64 (lim (k) 2), u64 (lim (k) 3), u64 (lim (k) 4), u64 (lim (k) 5)]]) Tryd.func67 rfl Tryd.ntmps67 (Nat.le_of_ble_eq_true rfl) hG ?_
  refine sStart ?_
  refine sSeq ?_
  refine W.region ?_
  refine OpsW.fresh (fr_box rfl rfl) rfl fun b2 => ?_
  refine OpsW.fresh (fr_box rfl rfl) rfl fun b3 => ?_
  refine OpsW.fresh (fr_alloc z28) rfl fun b4 => ?_
  refine sNext ?_
  refine W.keep (F' := [(4, _), (3, _), (2, _)]) ⟨rfl, rfl, rfl, trivial⟩ ?_
  refine sSeq ?_
  refine W.region ?_
  refine OpsW.det (det_fieldAddr fl28_0 rfl) rfl ?_
  refine OpsW.det (det_indexAddr_arr u26 sz25 rfl rfl ⟨by decide, by decide⟩) rfl ?_
  refine OpsW.det (det_loadC ty25 rfl (List.Mem.tail _ (List.Mem.tail _ (List.Mem.head _))) rfl) rfl ?_
  refine OpsW.det (det_fieldAddr fl28_0 rfl) rfl ?_
  refine OpsW.det (det_indexAddr_arr u26 sz25 rfl rfl ⟨by decide, by decide⟩) rfl ?_
  refine OpsW.det (det_loadC ty25 rfl (List.Mem.tail _ (List.Mem.head _)) rfl) rfl ?_
  refine OpsW.sub64 (e := 0) rfl rfl rfl (by first | assumption | exact lim_lt _ _ | decide) (by first | assumption | exact lim_lt _ _ | decide) (by first | assumption | decide) rfl fun s20 c20 he20 hs20 hk20 => ?_
  refine OpsW.det (det_move rfl) rfl ?_
  refine OpsW.det (det_extract rfl rfl) rfl ?_
  refine OpsW.det (det_extract rfl rfl) rfl ?_
  refine OpsW.det (det_assign rfl) rfl ?_
  refine OpsW.det (det_assign rfl) rfl ?_
  refine sNext ?_
  refine W.keep (F' := [(6, _), (5, _), (4, _), (3, _), (2, _)]) ⟨rfl, rfl, rfl, rfl, rfl, trivial⟩ ?_
  refine sSeq ?_
  refine W.region ?_
  refine OpsW.det (det_fieldAddr fl28_0 rfl) rfl ?_
  refine OpsW.det (det_indexAddr_arr u26 sz25 rfl rfl ⟨by decide, by decide⟩) rfl ?_
  refine OpsW.det (det_loadC ty25 rfl (List.Mem.tail _ (List.Mem.tail _ (List.Mem.head _))) rfl) rfl ?_
  refine OpsW.det (det_fieldAddr fl28_0 rfl) rfl ?_
  refine OpsW.det (det_indexAddr_arr u26 sz25 rfl rfl ⟨by decide, by decide⟩) rfl ?_
  refine OpsW.det (det_loadC ty25 rfl (List.Mem.tail _ (List.Mem.head _)) rfl) rfl ?_
  refine OpsW.det (det_move rfl) rfl ?_
  refine OpsW.sub64 rfl rfl rfl (by first | assumption | exact lim_lt _ _ | decide) (by first | assumption | exact lim_lt _ _ | decide) (by first | assumption | decide) rfl fun s31 c31 he31 hs31 hk31 => ?_
  refine OpsW.det (det_move rfl) rfl ?_
  refine OpsW.det (det_extract rfl rfl) rfl ?_
  refine OpsW.det (det_extract rfl rfl) rfl ?_
  refine OpsW.det (det_assign rfl) rfl ?_
  refine OpsW.det (det_assign rfl) rfl ?_
  refine sNext ?_
  refine W.keep (F' := [(6, _), (7, _), (5, _), (4, _), (3, _), (2, _)]) ⟨rfl, rfl, rfl, rfl, rfl, rfl, trivial⟩ ?_
  refine sSeq ?_
  refine W.region ?_
  refine OpsW.det (det_fieldAddr fl28_0 rfl) rfl ?_
  refine OpsW.det (det_indexAddr_arr u26 sz25 rfl rfl ⟨by decide, by decide⟩) rfl ?_
  refine OpsW.det (det_loadC ty25 rfl (List.Mem.tail _ (List.Mem.tail _ (List.Mem.head _))) rfl) rfl ?_
  refine OpsW.det (det_fieldAddr fl28_0 rfl) rfl ?_
  refine OpsW.det (det_indexAddr_arr u26 sz25 rfl rfl ⟨by decide, by decide⟩) rfl ?_
  refine OpsW.det (det_loadC ty25 rfl (List.Mem.tail _ (List.Mem.head _)) rfl) rfl ?_
  refine OpsW.det (det_move rfl) rfl ?_
  refine OpsW.sub64 rfl rfl rfl (by first | assumption | exact lim_lt _ _ | decide) (by first | assumption | exact lim_lt _ _ | decide) (by first | assumption | decide) rfl fun s42 c42 he42 hs42 hk42 => ?_
  refine OpsW.det (det_move rfl) rfl ?_
  refine OpsW.det (det_extract rfl rfl) rfl ?_
  refine OpsW.det (det_extract rfl rfl) rfl ?_
  refine OpsW.det (det_assign rfl) rfl ?_
  refine OpsW.det (det_assign rfl) rfl ?_
  refine sNext ?_
  refine W.keep (F' := [(6, _), (8, _), (7, _), (5, _), (4, _), (3, _), (2, _)]) ⟨rfl, rfl, rfl, rfl, rfl, rfl, rfl, trivial⟩ ?_
  refine sSeq ?_
  refine W.region ?_
  refine OpsW.det (det_fieldAddr fl28_0 rfl) rfl ?_
  refine OpsW.det (det_indexAddr_arr u26 sz25 rfl rfl ⟨by decide, by decide⟩) rfl ?_
  refine OpsW.det (det_loadC ty25 rfl (List.Mem.tail _ (List.Mem.tail _ (List.Mem.head _))) rfl) rfl ?_
  refine OpsW.det (det_fieldAddr fl28_0 rfl) rfl ?_
  refine OpsW.det (det_indexAddr_arr u26 sz25 rfl rfl ⟨by decide, by decide⟩) rfl ?_
  refine OpsW.det (det_loadC ty25 rfl (List.Mem.tail _ (List.Mem.head _)) rfl) rfl ?_
  refine OpsW.det (det_move rfl) rfl ?_
  refine OpsW.sub64 rfl rfl rfl (by first | assumption | exact lim_lt _ _ | decide) (by first | assumption | exact lim_lt _ _ | decide) (by first | assumption | decide) rfl fun s53 c53 he53 hs53 hk53 => ?_
  refine OpsW.det (det_move rfl) rfl ?_
  refine OpsW.det (det_extract rfl rfl) rfl ?_
  refine OpsW.det (det_extract rfl rfl) rfl ?_
  refine OpsW.det (det_assign rfl) rfl ?_
  refine OpsW.det (det_assign rfl) rfl ?_
  refine sNext ?_
  refine W.keep (F' := [(6, _), (9, _), (8, _), (7, _), (5, _), (4, _), (3, _), (2, _)]) ⟨rfl, rfl, rfl, rfl, rfl, rfl, rfl, rfl, trivial⟩ ?_
  refine sSeq ?_
  refine W.region ?_
  refine OpsW.det (det_fieldAddr fl28_0 rfl) rfl ?_
  refine OpsW.det (det_indexAddr_arr u26 sz25 rfl rfl ⟨by decide, by decide⟩) rfl ?_
  refine OpsW.det (det_loadC ty25 rfl (List.Mem.tail _ (List.Mem.tail _ (List.Mem.head _))) rfl) rfl ?_
  refine OpsW.det (det_fieldAddr fl28_0 rfl) rfl ?_
  refine OpsW.det (det_indexAddr_arr u26 sz25 rfl rfl ⟨by decide, by decide⟩) rfl ?_
  refine OpsW.det (det_loadC ty25 rfl (List.Mem.tail _ (List.Mem.head _)) rfl) rfl ?_
  refine OpsW.det (det_move rfl) rfl ?_
  refine OpsW.sub64 rfl rfl rfl (by first | assumption | exact lim_lt _ _ | decide) (by first | assumption | exact lim_lt _ _ | decide) (by first | assumption | decide) rfl fun s64 c64 he64 hs64 hk64 => ?_
  refine OpsW.det (det_move rfl) rfl ?_
  refine OpsW.det (det_extract rfl rfl) rfl ?_
  refine OpsW.det (det_extract rfl rfl) rfl ?_
  refine OpsW.det (det_assign rfl) rfl ?_
  refine OpsW.det (det_assign rfl) rfl ?_
  refine sNext ?_
  refine W.keep (F' := [(6, _), (10, _), (9, _), (8, _), (7, _), (5, _), (4, _), (3, _), (2, _)]) ⟨rfl, rfl, rfl, rfl, rfl, rfl, rfl, rfl, rfl, trivial⟩ ?_
  refine sSeq ?_
  refine W.region ?_
  refine OpsW.det (det_fieldAddr fl28_0 rfl) rfl ?_
  refine OpsW.det (det_indexAddr_arr u26 sz25 rfl rfl ⟨by decide, by decide⟩) rfl ?_
  refine OpsW.det (det_loadC ty25 rfl (List.Mem.tail _ (List.Mem.tail _ (List.Mem.head _))) rfl) rfl ?_
  refine OpsW.det (det_fieldAddr fl28_0 rfl) rfl ?_
  refine OpsW.det (det_indexAddr_arr u26 sz25 rfl rfl ⟨by decide, by decide⟩) rfl ?_
  refine OpsW.det (det_loadC ty25 rfl (List.Mem.tail _ (List.Mem.head _)) rfl) rfl ?_
  refine OpsW.det (det_move rfl) rfl ?_
  refine OpsW.sub64 rfl rfl rfl (by first | assumption | exact lim_lt _ _ | decide) (by first | assumption | exact lim_lt _ _ | decide) (by first | assumption | decide) rfl fun s75 c75 he75 hs75 hk75 => ?_
  refine OpsW.det (det_move rfl) rfl ?_
  refine OpsW.det (det_extract rfl rfl) rfl ?_
  refine OpsW.det (det_extract rfl rfl) rfl ?_
  refine OpsW.det (det_assign rfl) rfl ?_
  refine OpsW.det (det_assign rfl) rfl ?_
  refine sNext ?_
  refine W.keep (F' := [(6, _), (11, _), (10, _), (9, _), (8, _), (7, _), (5, _), (4, _)]) ⟨rfl, rfl, rfl, rfl, rfl, rfl, rfl, rfl, trivial⟩ ?_
  refine sSeq ?_
  refine sSeq ?_
  have hm' := val_lim6 (m := m) (by unfold pp at hm; unfold R6; omega)
  have hk' := val_lim6 (m := k) (by unfold pp at hk; unfold R6; omega)
  have hV : val6 s20 s31 s42 s53 s64 s75 + k = m + R6 * c75 := by unfold val6 at hm' hk' ⊢; unfold R6; omega
  clear he20 he31 he42 he53 he64 he75 hm' hk'
  refine W.region ?_
  refine OpsW.det (det_move rfl) rfl ?_
  refine OpsW.det (det_eql rfl rfl) rfl ?_
  refine sNext ?_
  refine W.keep (F' := [(79, _), (11, _), (10, _), (9, _), (8, _), (7, _), (5, _), (4, _)]) ⟨rfl, rfl, rfl, rfl, rfl, rfl, rfl, rfl, trivial⟩ ?_
  refine W.cond rfl (fun hc79 => ?_) (fun hc79 => ?_)
  · skip
    have hz : c75 = 0 := by have h := hc79; simp at h; omega
    subst hz
    have hW : val6 s20 s31 s42 s53 s64 s75 = (m + (pp - k)) % pp := by rw [hi_mod (by omega) (by omega)]; omega
    refine sSeq ?_
    refine W.region ?_
    refine OpsW.det (det_move rfl) rfl ?_
    refine OpsW.det (det_move rfl) rfl ?_
    refine OpsW.det (det_move rfl) rfl ?_
    refine OpsW.det (det_move rfl) rfl ?_
    refine OpsW.det (det_move rfl) rfl ?_
    refine OpsW.det (det_move rfl) rfl ?_
    refine OpsW.det (det_build rfl bld26) rfl ?_
    refine OpsW.det (det_build rfl bld28) rfl ?_
    refine OpsW.store sz28 rfl rfl rfl rfl rfl (Upd.here) rfl ?_
    refine sNext ?_
    refine W.keep (F' := [(4, _)]) ⟨rfl, trivial⟩ ?_
    refine sRet ?_
    exact done1 Tryd.results67 (rv_cellA ty28 rfl (List.Mem.head _) rfl) ((lim6 hs20 hs31 hs42 hs53 hs64 hs75).symm.trans (congrArg enc6 hW))
  · skip
    have hz : c75 = 1 := by have h := hc79; simp at h; omega
    subst hz
    refine sSkip ?_
    refine sSeq ?_
    refine W.region ?_
    refine OpsW.det (det_move rfl) rfl ?_
    refine OpsW.add64 (b := 13402431016077863595) (e := 0) rfl rfl rfl (by first | assumption | exact lim_lt _ _ | decide) (by first | assumption | exact lim_lt _ _ | decide) (by first | assumption | decide) rfl fun s90 c90 he90 hs90 hk90 => ?_
    refine OpsW.det (det_move rfl) rfl ?_
    refine OpsW.det (det_extract rfl rfl) rfl ?_
    refine OpsW.det (det_extract rfl rfl) rfl ?_
    refine OpsW.det (det_assign rfl) rfl ?_
    refine OpsW.det (det_assign rfl) rfl ?_
    refine sNext ?_
    refine W.keep (F' := [(12, _), (5, _), (11, _), (10, _), (9, _), (8, _), (7, _), (4, _)]) ⟨rfl, rfl, rfl, rfl, rfl, rfl, rfl, rfl, trivial⟩ ?_
    refine sSeq ?_
    refine W.region ?_
    refine OpsW.det (det_move rfl) rfl ?_
    refine OpsW.det (det_move rfl) rfl ?_
    refine OpsW.add64 (b := 2210141511517208575) rfl rfl rfl (by first | assumption | exact lim_lt _ _ | decide) (by first | assumption | exact lim_lt _ _ | decide) (by first | assumption | decide) rfl fun s96 c96 he96 hs96 hk96 => ?_
    refine OpsW.det (det_move rfl) rfl ?_
    refine OpsW.det (det_extract rfl rfl) rfl ?_
    refine OpsW.det (det_extract rfl rfl) rfl ?_
    refine OpsW.det (det_assign rfl) rfl ?_
    refine OpsW.det (det_assign rfl) rfl ?_
    refine sNext ?_
    refine W.keep (F' := [(12, _), (7, _), (5, _), (11, _), (10, _), (9, _), (8, _), (4, _)]) ⟨rfl, rfl, rfl, rfl, rfl, rfl, rfl, rfl, trivial⟩ ?_
    refine sSeq ?_
    refine W.region ?_
    refine OpsW.det (det_move rfl) rfl ?_
    refine OpsW.det (det_move rfl) rfl ?_
    refine OpsW.add64 (b := 7435674573564081700) rfl rfl rfl (by first | assumption | exact lim_lt _ _ | decide) (by first | assumption | exact lim_lt _ _ | decide) (by first | assumption | decide) rfl fun s102 c102 he102 hs102 hk102 => ?_
    refine OpsW.det (det_move rfl) rfl ?_
    refine OpsW.det (det_extract rfl rfl) rfl ?_
    refine OpsW.det (det_extract rfl rfl) rfl ?_
    refine OpsW.det (det_assign rfl) rfl ?_
    refine OpsW.det (det_assign rfl) rfl ?_
    refine sNext ?_
    refine W.keep (F' := [(12, _), (8, _), (7, _), (5, _), (11, _), (10, _), (9, _), (4, _)]) ⟨rfl, rfl, rfl, rfl, rfl, rfl, rfl, rfl, trivial⟩ ?_
    refine sSeq ?_
    refine W.region ?_
    refine OpsW.det (det_move rfl) rfl ?_
    refine OpsW.det (det_move rfl) rfl ?_
    refine OpsW.add64 (b := 7239337960414712511) rfl rfl rfl (by first | assumption | exact lim_lt _ _ | decide) (by first | assumption | exact lim_lt _ _ | decide) (by first | assumption | decide) rfl fun s108 c108 he108 hs108 hk108 => ?_
    refine OpsW.det (det_move rfl) rfl ?_
    refine OpsW.det (det_extract rfl rfl) rfl ?_
    refine OpsW.det (det_extract rfl rfl) rfl ?_
    refine OpsW.det (det_assign rfl) rfl ?_
    refine OpsW.det (det_assign rfl) rfl ?_
    refine sNext ?_
    refine W.keep (F' := [(12, _), (9, _), (8, _), (7, _), (5, _), (11, _), (10, _), (4, _)]) ⟨rfl, rfl, rfl, rfl, rfl, rfl, rfl, rfl, trivial⟩ ?_
    refine sSeq ?_
    refine W.region ?_
    refine OpsW.det (det_move rfl) rfl ?_
    refine OpsW.det (det_move rfl) rfl ?_
    refine OpsW.add64 (b := 5412103778470702295) rfl rfl rfl (by first | assumption | exact lim_lt _ _ | decide) (by first | assumption | exact lim_lt _ _ | decide) (by first | assumption | decide) rfl fun s114 c114 he114 hs114 hk114 => ?_
    refine OpsW.det (det_move rfl) rfl ?_
    refine OpsW.det (det_extract rfl rfl) rfl ?_
    refine OpsW.det (det_extract rfl rfl) rfl ?_
    refine OpsW.det (det_assign rfl) rfl ?_
    refine OpsW.det (det_assign rfl) rfl ?_
    refine sNext ?_
    refine W.keep (F' := [(12, _), (10, _), (9, _), (8, _), (7, _), (5, _), (11, _), (4, _)]) ⟨rfl, rfl, rfl, rfl, rfl, rfl, rfl, rfl, trivial⟩ ?_
    refine sSeq ?_
    refine W.region ?_
    refine OpsW.det (det_move rfl) rfl ?_
    refine OpsW.det (det_move rfl) rfl ?_
    refine OpsW.add64 (b := 1873798617647539866) rfl rfl rfl (by first | assumption | exact lim_lt _ _ | decide) (by first | assumption | exact lim_lt _ _ | decide) (by first | assumption | decide) rfl fun s120 c120 he120 hs120 hk120 => ?_
    refine OpsW.det (det_move rfl) rfl ?_
    refine OpsW.det (det_extract rfl rfl) rfl ?_
    refine OpsW.det (det_extract rfl rfl) rfl ?_
    refine OpsW.det (det_assign rfl) rfl ?_
    refine sNext ?_
    refine W.keep (F' := [(11, _), (10, _), (9, _), (8, _), (7, _), (5, _), (4, _)]) ⟨rfl, rfl, rfl, rfl, rfl, rfl, rfl, trivial⟩ ?_
    refine sSeq ?_
    have hU : val6 s90 s96 s102 s108 s114 s120 + R6 * c120 = val6 s20 s31 s42 s53 s64 s75 + pp := by unfold val6 R6 pp; omega
    have h1 := val6_lt hs90 hs96 hs102 hs108 hs114 hs120
    have h2 := val6_lt hs20 hs31 hs42 hs53 hs64 hs75
    have hlt : m + (pp - k) < pp := by clear hU he90 he96 he102 he108 he114 he120; unfold R6 at hV h2; omega
    have hW : val6 s90 s96 s102 s108 s114 s120 = (m + (pp - k)) % pp := by rw [lo_mod hlt]; clear he90 he96 he102 he108 he114 he120; unfold R6 at hV hU h1 h2; omega
    refine W.region ?_
    refine OpsW.det (det_move rfl) rfl ?_
    refine OpsW.det (det_move rfl) rfl ?_
    refine OpsW.det (det_move rfl) rfl ?_
    refine OpsW.det (det_move rfl) rfl ?_
    refine OpsW.det (det_move rfl) rfl ?_
    refine OpsW.det (det_move rfl) rfl ?_
    refine OpsW.det (det_build rfl bld26) rfl ?_
    refine OpsW.det (det_build rfl bld28) rfl ?_
    refine OpsW.store sz28 rfl rfl rfl rfl rfl (Upd.here) rfl ?_
    refine sNext ?_
    refine W.keep (F' := [(4, _)]) ⟨rfl, trivial⟩ ?_
    refine sRet ?_
    exact done1 Tryd.results67 (rv_cellA ty28 rfl (List.Mem.head _) rfl) ((lim6 hs90 hs96 hs102 hs108 hs114 hs120).symm.trans (congrArg enc6 hW))

end Go.Cu

/- The first group's field: the product: the walk. Conditions: numbers below the modulus. -/
namespace Go.Cu
open Go Go.Vm Go.RowKit Go.Proofs 
attribute [local irreducible] W OpsW Det Fresh New Writes Vm.Pure Makes Changes ExternTo BuildTo ZeroTo FieldTo IndexTo BinTo SliceTo Vm.Enters
set_option linter.unusedVariables false
set_option linter.unusedSimpArgs false
variable {T : Nat → TypeId × Nat × Nat}



theorem idx26 {m i : Nat} (h : i < 6) : IndexTo Tryd.prog 26 (.agg #[u64 (lim (m) 0), u64 (lim (m) 1), u64 (lim (m) 2), u64 (lim (m) 3), u64 (lim (m) 4), u64 (lim (m) 5)]) (.int .i64 (i : Nat)) (u64 (lim m i)) := by
  have : i = 0 ∨ i = 1 ∨ i = 2 ∨ i = 3 ∨ i = 4 ∨ i = 5 := by omega
  rcases this with rfl | rfl | rfl | rfl | rfl | rfl <;> exact IndexTo.of fun _ => by kernel_rfl
set_option maxHeartbeats 1000000 in
theorem Mul_w_ok {X Y : Nat} (hX : X < pp) (hY : Y < pp) {w : World} (hG : Blocks (GH T) w)  : Vm.Pure Tryd.prog 57 #[.agg #[u64 (lim (X) 0), u64 (lim (X) 1), u64 (lim (X) 2), u64 (lim (X) 3), u64 (lim (X) 4), u64 (lim (X) 5)], .agg #[u64 (lim (Y) 0), u64 (lim (Y) 1), u64 (lim (Y) 2), u64 (lim (Y) 3), u64 (lim (Y) 4), u64 (lim (Y) 5)]] w (enc6 (X * Y * inv_pp % pp)) := by
  refine pure_of_W (n := 328) (args := [.agg #[u64 (lim (X) 0), u64 (lim (X) 1), u64 (lim (X) 2), u64 (lim (X) 3), u64 (lim (X) 4), u64 (lim (X) 5)], .agg #[u64 (lim (Y) 0), u64 (lim (Y) 1), u64 (lim (Y) 2), u64 (lim (Y) 3), u64 (lim (Y) 4), u64 (lim (Y) 5)]]) Tryd.func57 rfl Tryd.ntmps57 (Nat.le_of_ble_eq_true rfl) hG ?_
  refine sStart ?_
  refine sSeq ?_
  refine W.region ?_
  refine OpsW.fresh (fr_box rfl rfl) rfl fun b2 => ?_
  refine OpsW.fresh (fr_box rfl rfl) rfl fun b3 => ?_
  refine OpsW.fresh (fr_alloc z28) rfl fun b4 => ?_
  refine sNext ?_
  refine W.keep (F' := [(4, _), (3, _), (2, _)]) ⟨rfl, rfl, rfl, trivial⟩ ?_
  refine sSeq ?_
  refine W.region ?_
  refine OpsW.det (det_assign rfl) rfl ?_
  refine OpsW.det (det_assign rfl) rfl ?_
  refine OpsW.det (det_assign rfl) rfl ?_
  refine OpsW.det (det_assign rfl) rfl ?_
  refine OpsW.det (det_assign rfl) rfl ?_
  refine OpsW.det (det_assign rfl) rfl ?_
  refine sNext ?_
  refine sSeq ?_
  refine W.draw mixed 24 [[], [0], [0, 1], [], [3], [3, 4], [], [6], [6, 7], [], [9], [9, 10], [], [12], [12, 13], [], [15], [15, 16], [0, 1, 2], [0, 1, 2, 3, 4, 5, 18], [0, 1, 2, 3, 4, 5, 6, 7, 8, 18, 19], [0, 1, 2, 3, 4, 5, 6, 7, 8, 9, 10, 11, 18, 19, 20], [0, 1, 2, 3, 4, 5, 6, 7, 8, 9, 10, 11, 12, 13, 14, 18, 19, 20, 21], [0, 1, 2, 3, 4, 5, 6, 7, 8, 9, 10, 11, 12, 13, 14, 15, 16, 17, 18, 19, 20, 21, 22]] (cl_lt (by decide)) ?_
  refine HeadR.start (cl_lt (by decide)) ?_
  refine HeadR.det rfl (fun β hβ => (det_fieldAddr fl28_0 rfl)) ?_
  refine HeadR.det rfl (fun β hβ => (det_indexAddr_arr u26 sz25 rfl rfl ⟨by decide, by decide⟩)) ?_
  refine HeadR.det rfl (fun β hβ => (det_loadC ty25 rfl (List.Mem.tail _ (List.Mem.tail _ (List.Mem.head _))) rfl)) ?_
  refine HeadR.det rfl (fun β hβ => (det_fieldAddr fl28_0 rfl)) ?_
  refine HeadR.det rfl (fun β hβ => (det_indexAddr_arr u26 sz25 rfl rfl ⟨by decide, by decide⟩)) ?_
  refine HeadR.det rfl (fun β hβ => (det_loadC ty25 rfl (List.Mem.tail _ (List.Mem.tail _ (List.Mem.head _))) rfl)) ?_
  refine HeadR.det rfl (fun β hβ => (det_fieldAddr fl28_0 rfl)) ?_
  refine HeadR.det rfl (fun β hβ => (det_indexAddr_arr u26 sz25 rfl rfl ⟨by decide, by decide⟩)) ?_
  refine HeadR.det rfl (fun β hβ => (det_loadC ty25 rfl (List.Mem.tail _ (List.Mem.tail _ (List.Mem.head _))) rfl)) ?_
  refine HeadR.det rfl (fun β hβ => (det_fieldAddr fl28_0 rfl)) ?_
  refine HeadR.det rfl (fun β hβ => (det_indexAddr_arr u26 sz25 rfl rfl ⟨by decide, by decide⟩)) ?_
  refine HeadR.det rfl (fun β hβ => (det_loadC ty25 rfl (List.Mem.tail _ (List.Mem.tail _ (List.Mem.head _))) rfl)) ?_
  refine HeadR.det rfl (fun β hβ => (det_fieldAddr fl28_0 rfl)) ?_
  refine HeadR.det rfl (fun β hβ => (det_indexAddr_arr u26 sz25 rfl rfl ⟨by decide, by decide⟩)) ?_
  refine HeadR.det rfl (fun β hβ => (det_loadC ty25 rfl (List.Mem.tail _ (List.Mem.tail _ (List.Mem.head _))) rfl)) ?_
  refine HeadR.det rfl (fun β hβ => (det_fieldAddr fl28_0 rfl)) ?_
  refine HeadR.det rfl (fun β hβ => (det_indexAddr_arr u26 sz25 rfl rfl ⟨by decide, by decide⟩)) ?_
  refine HeadR.det rfl (fun β hβ => (det_loadC ty25 rfl (List.Mem.tail _ (List.Mem.tail _ (List.Mem.head _))) rfl)) ?_
  refine HeadR.det rfl (fun β hβ => (det_assign rfl)) ?_
  refine HeadR.det rfl (fun β hβ => (det_assign rfl)) ?_
  refine HeadR.det rfl (fun β hβ => (det_assign rfl)) ?_
  refine HeadR.det rfl (fun β hβ => (det_assign rfl)) ?_
  refine HeadR.det rfl (fun β hβ => (det_assign rfl)) ?_
  refine HeadR.det rfl (fun β hβ => (det_assign rfl)) ?_
  refine HeadR.done ⟨by kernel_rfl, fun β hβ => ?_⟩
  refine OpsW.norm (F' := ((26, _) :: (27, _) :: (28, _) :: (29, _) :: (30, _) :: (31, _) :: (32, _) :: (33, _) :: (34, _) :: (35, _) :: (36, _) :: (37, _) :: (38, _) :: (39, _) :: (40, _) :: (41, _) :: (42, _) :: (43, _) :: (11, _) :: (12, _) :: (13, _) :: (14, _) :: (15, _) :: (16, _) :: (10, _) :: (9, _) :: (8, _) :: (7, _) :: (6, _) :: (5, _) :: (4, _) :: (3, _) :: (2, _) :: [])) (H' := [(_, _), (_, _), (_, _)]) rfl rfl ?_
  refine sNext ?_
  refine W.keep (F' := [(11, _), (12, _), (13, _), (14, _), (15, _), (16, _), (10, _), (9, _), (8, _), (7, _), (6, _), (5, _), (4, _), (3, _)]) ⟨rfl, rfl, rfl, rfl, rfl, rfl, rfl, rfl, rfl, rfl, rfl, rfl, rfl, rfl, trivial⟩ ?_
  refine sSeq ?_
  refine sSeq ?_
  refine W.region ?_
  refine OpsW.det (det_fieldAddr fl28_0 rfl) rfl ?_
  refine OpsW.det (det_loadA ty26 rfl (List.Mem.tail _ (List.Mem.head _)) rfl) rfl ?_
  refine OpsW.det (det_move rfl) rfl ?_
  refine sNext ?_
  refine W.keep (F' := [(46, _), (45, _), (11, _), (12, _), (13, _), (14, _), (15, _), (16, _), (10, _), (9, _), (8, _), (7, _), (6, _), (5, _), (4, _)]) ⟨rfl, rfl, rfl, rfl, rfl, rfl, rfl, rfl, rfl, rfl, rfl, rfl, rfl, rfl, rfl, trivial⟩ ?_
  refine sBlock ?_
  refine sLoop (σ := Nat × Nat × Nat × Nat × Nat × Nat × Nat) (fun k => [(46, .int .i64 (k.1 : Nat)), (45, .agg #[u64 (lim (Y) 0), u64 (lim (Y) 1), u64 (lim (Y) 2), u64 (lim (Y) 3), u64 (lim (Y) 4), u64 (lim (Y) 5)]), (5, u64 k.2.1), (6, u64 k.2.2.1), (7, u64 k.2.2.2.1), (8, u64 k.2.2.2.2.1), (9, u64 k.2.2.2.2.2.1), (10, u64 k.2.2.2.2.2.2), (11, u64 (lim X 0)), (12, u64 (lim X 1)), (13, u64 (lim X 2)), (14, u64 (lim X 3)), (15, u64 (lim X 4)), (16, u64 (lim X 5)), (4, .pointer (some ⟨b4, 0, none⟩))]) (fun k => [(b4, blk [.int .u64 0, .int .u64 0, .int .u64 0, .int .u64 0, .int .u64 0, .int .u64 0] 28)]) (fun k => k.1 ≤ 6 ∧ k.2.1 < 18446744073709551616 ∧ k.2.2.1 < 18446744073709551616 ∧ k.2.2.2.1 < 18446744073709551616 ∧ k.2.2.2.2.1 < 18446744073709551616 ∧ k.2.2.2.2.2.1 < 18446744073709551616 ∧ k.2.2.2.2.2.2 < 18446744073709551616 ∧ ∃ M, M < 18446744073709551616 ^ k.1 ∧ val6 (k.2.1) (k.2.2.1) (k.2.2.2.1) (k.2.2.2.2.1) (k.2.2.2.2.2.1) (k.2.2.2.2.2.2) * 18446744073709551616 ^ k.1 = X * (Y % 18446744073709551616 ^ k.1) + M * pp) (fun k => 6 - k.1) (0, 0, 0, 0, 0, 0, 0) ⟨by decide, by decide, by decide, by decide, by decide, by decide, by decide, 0, by decide, by simp [val6, Nat.mod_one]⟩ ⟨rfl, rfl, rfl, rfl, rfl, rfl, rfl, rfl, rfl, rfl, rfl, rfl, rfl, rfl, rfl, trivial⟩ (List.Sublist.cons_cons _ (List.nil_sublist _)) ?_
  rintro ⟨i, t0, t1, t2, t3, t4, t5⟩ ⟨hi, ht0, ht1, ht2, ht3, ht4, ht5, M, hM, hI⟩
  refine W.norm (F' := [(46, .int .i64 (i : Nat)), (45, .agg #[u64 (lim (Y) 0), u64 (lim (Y) 1), u64 (lim (Y) 2), u64 (lim (Y) 3), u64 (lim (Y) 4), u64 (lim (Y) 5)]), (5, u64 t0), (6, u64 t1), (7, u64 t2), (8, u64 t3), (9, u64 t4), (10, u64 t5), (11, u64 (lim X 0)), (12, u64 (lim X 1)), (13, u64 (lim X 2)), (14, u64 (lim X 3)), (15, u64 (lim X 4)), (16, u64 (lim X 5)), (4, .pointer (some ⟨b4, 0, none⟩))]) (H' := [(b4, blk [.int .u64 0, .int .u64 0, .int .u64 0, .int .u64 0, .int .u64 0, .int .u64 0] 28)]) rfl rfl ?_
  have hT : val6 t0 t1 t2 t3 t4 t5 < 2 * pp := inv_top hI hM hX
  have hXv : val6 (lim X 0) (lim X 1) (lim X 2) (lim X 3) (lim X 4) (lim X 5) < pp := by rw [val_lim6 (m := X) (Nat.lt_trans hX (by decide))]; exact hX
  have hy := lim_lt Y i
  refine sSeq ?_
  refine W.region ?_
  refine OpsW.det (det_lss rfl rfl) rfl ?_
  refine sNext ?_
  refine sSeq ?_
  refine W.cond rfl (fun hc47 => ?_) (fun hc47 => ?_)
  · skip
    have hlt : i < 6 := by simp only [decide_eq_true_eq] at hc47; omega
    refine sSkip ?_
    refine sSeq ?_
    refine sBlock ?_
    refine sSeq ?_
    refine W.region ?_
    refine OpsW.det (det_index rfl rfl (idx26 hlt)) rfl ?_
    refine OpsW.det (det_assign rfl) rfl ?_
    refine sNext ?_
    refine W.keep (F' := [(18, _), (46, _), (45, _), (5, _), (6, _), (7, _), (8, _), (9, _), (10, _), (11, _), (12, _), (13, _), (14, _), (15, _), (16, _), (4, _)]) ⟨rfl, rfl, rfl, rfl, rfl, rfl, rfl, rfl, rfl, rfl, rfl, rfl, rfl, rfl, rfl, rfl, trivial⟩ ?_
    refine sSeq ?_
    refine W.region ?_
    refine OpsW.det (det_move rfl) rfl ?_
    refine OpsW.det (det_move rfl) rfl ?_
    refine OpsW.mul64 rfl rfl (by first | assumption | exact lim_lt _ _ | decide) (by first | assumption | exact lim_lt _ _ | decide) rfl fun hi52 lo52 he52 hs52 hk52 => ?_
    refine OpsW.det (det_move rfl) rfl ?_
    refine OpsW.det (det_extract rfl rfl) rfl ?_
    refine OpsW.det (det_extract rfl rfl) rfl ?_
    refine OpsW.det (det_assign rfl) rfl ?_
    refine OpsW.det (det_assign rfl) rfl ?_
    refine sNext ?_
    refine W.keep (F' := [(20, _), (19, _), (18, _), (46, _), (45, _), (5, _), (6, _), (7, _), (8, _), (9, _), (10, _), (11, _), (12, _), (13, _), (14, _), (15, _), (16, _), (4, _)]) ⟨rfl, rfl, rfl, rfl, rfl, rfl, rfl, rfl, rfl, rfl, rfl, rfl, rfl, rfl, rfl, rfl, rfl, rfl, trivial⟩ ?_
    refine sSeq ?_
    refine W.region ?_
    refine OpsW.det (det_move rfl) rfl ?_
    refine OpsW.det (det_move rfl) rfl ?_
    refine OpsW.add64 (e := 0) rfl rfl rfl (by first | assumption | exact lim_lt _ _ | decide) (by first | assumption | exact lim_lt _ _ | decide) (by first | assumption | decide) rfl fun s58 c58 he58 hs58 hk58 => ?_
    refine OpsW.det (det_move rfl) rfl ?_
    refine OpsW.det (det_extract rfl rfl) rfl ?_
    refine OpsW.det (det_extract rfl rfl) rfl ?_
    refine OpsW.det (det_assign rfl) rfl ?_
    refine OpsW.det (det_assign rfl) rfl ?_
    refine sNext ?_
    refine W.keep (F' := [(21, _), (20, _), (19, _), (18, _), (46, _), (45, _), (6, _), (7, _), (8, _), (9, _), (10, _), (11, _), (12, _), (13, _), (14, _), (15, _), (16, _), (4, _)]) ⟨rfl, rfl, rfl, rfl, rfl, rfl, rfl, rfl, rfl, rfl, rfl, rfl, rfl, rfl, rfl, rfl, rfl, rfl, trivial⟩ ?_
    refine sSeq ?_
    refine W.region ?_
    refine OpsW.det (det_move rfl) rfl ?_
    refine OpsW.det (det_move rfl) rfl ?_
    refine OpsW.addw rfl rfl (hi_lt hk52 hk58) rfl fun s63 he63 => ?_
    have E0 := col0 he52 he58 he63
    have hG0 := w_lt hk52 hk58 he63
    refine OpsW.det (det_assign rfl) rfl ?_
    refine sNext ?_
    refine W.keep (F' := [(22, _), (20, _), (18, _), (46, _), (45, _), (6, _), (7, _), (8, _), (9, _), (10, _), (11, _), (12, _), (13, _), (14, _), (15, _), (16, _), (4, _)]) ⟨rfl, rfl, rfl, rfl, rfl, rfl, rfl, rfl, rfl, rfl, rfl, rfl, rfl, rfl, rfl, rfl, rfl, trivial⟩ ?_
    refine sSeq ?_
    refine W.region ?_
    refine OpsW.det (det_move rfl) rfl ?_
    refine OpsW.mulw (b := 9940570264628428797) rfl rfl rfl fun s65 he65 hs65 => ?_
    refine OpsW.det (det_assign rfl) rfl ?_
    refine sNext ?_
    refine W.keep (F' := [(23, _), (22, _), (20, _), (18, _), (46, _), (45, _), (6, _), (7, _), (8, _), (9, _), (10, _), (11, _), (12, _), (13, _), (14, _), (15, _), (16, _), (4, _)]) ⟨rfl, rfl, rfl, rfl, rfl, rfl, rfl, rfl, rfl, rfl, rfl, rfl, rfl, rfl, rfl, rfl, rfl, rfl, trivial⟩ ?_
    refine sSeq ?_
    refine W.region ?_
    refine OpsW.det (det_move rfl) rfl ?_
    refine OpsW.mul64 (b := 13402431016077863595) rfl rfl (by first | assumption | exact lim_lt _ _ | decide) (by first | assumption | exact lim_lt _ _ | decide) rfl fun hi68 lo68 he68 hs68 hk68 => ?_
    refine OpsW.det (det_move rfl) rfl ?_
    refine OpsW.det (det_extract rfl rfl) rfl ?_
    refine OpsW.det (det_extract rfl rfl) rfl ?_
    refine OpsW.det (det_assign rfl) rfl ?_
    refine OpsW.det (det_assign rfl) rfl ?_
    refine sNext ?_
    refine W.keep (F' := [(24, _), (19, _), (23, _), (22, _), (20, _), (18, _), (46, _), (45, _), (6, _), (7, _), (8, _), (9, _), (10, _), (11, _), (12, _), (13, _), (14, _), (15, _), (16, _), (4, _)]) ⟨rfl, rfl, rfl, rfl, rfl, rfl, rfl, rfl, rfl, rfl, rfl, rfl, rfl, rfl, rfl, rfl, rfl, rfl, rfl, rfl, trivial⟩ ?_
    refine sSeq ?_
    refine W.region ?_
    refine OpsW.det (det_move rfl) rfl ?_
    refine OpsW.det (det_move rfl) rfl ?_
    refine OpsW.add64 (e := 0) rfl rfl rfl (by first | assumption | exact lim_lt _ _ | decide) (by first | assumption | exact lim_lt _ _ | decide) (by first | assumption | decide) rfl fun s74 c74 he74 hs74 hk74 => ?_
    refine OpsW.det (det_move rfl) rfl ?_
    refine OpsW.det (det_extract rfl rfl) rfl ?_
    refine OpsW.det (det_extract rfl rfl) rfl ?_
    refine OpsW.det (det_assign rfl) rfl ?_
    refine sNext ?_
    refine W.keep (F' := [(21, _), (19, _), (23, _), (22, _), (18, _), (46, _), (45, _), (6, _), (7, _), (8, _), (9, _), (10, _), (11, _), (12, _), (13, _), (14, _), (15, _), (16, _), (4, _)]) ⟨rfl, rfl, rfl, rfl, rfl, rfl, rfl, rfl, rfl, rfl, rfl, rfl, rfl, rfl, rfl, rfl, rfl, rfl, rfl, trivial⟩ ?_
    refine sSeq ?_
    refine W.region ?_
    refine OpsW.det (det_move rfl) rfl ?_
    refine OpsW.det (det_move rfl) rfl ?_
    refine OpsW.addw rfl rfl (hi_lt hk68 hk74) rfl fun s79 he79 => ?_
    have hz := zero_pp he65 he68 he74 hs74
    have F0 := colz he68 he74 he79 hz
    have hF0 := w_lt hk68 hk74 he79
    clear he52 he58 he63 he65 he68 he74 he79 hz
    refine OpsW.det (det_assign rfl) rfl ?_
    refine sNext ?_
    refine W.keep (F' := [(25, _), (23, _), (22, _), (18, _), (46, _), (45, _), (6, _), (7, _), (8, _), (9, _), (10, _), (11, _), (12, _), (13, _), (14, _), (15, _), (16, _), (4, _)]) ⟨rfl, rfl, rfl, rfl, rfl, rfl, rfl, rfl, rfl, rfl, rfl, rfl, rfl, rfl, rfl, rfl, rfl, rfl, trivial⟩ ?_
    refine sSeq ?_
    refine W.region ?_
    refine OpsW.det (det_move rfl) rfl ?_
    refine OpsW.det (det_move rfl) rfl ?_
    refine OpsW.mul64 rfl rfl (by first | assumption | exact lim_lt _ _ | decide) (by first | assumption | exact lim_lt _ _ | decide) rfl fun hi83 lo83 he83 hs83 hk83 => ?_
    refine OpsW.det (det_move rfl) rfl ?_
    refine OpsW.det (det_extract rfl rfl) rfl ?_
    refine OpsW.det (det_extract rfl rfl) rfl ?_
    refine OpsW.det (det_assign rfl) rfl ?_
    refine OpsW.det (det_assign rfl) rfl ?_
    refine sNext ?_
    refine W.keep (F' := [(20, _), (19, _), (25, _), (23, _), (22, _), (18, _), (46, _), (45, _), (6, _), (7, _), (8, _), (9, _), (10, _), (11, _), (12, _), (13, _), (14, _), (15, _), (16, _), (4, _)]) ⟨rfl, rfl, rfl, rfl, rfl, rfl, rfl, rfl, rfl, rfl, rfl, rfl, rfl, rfl, rfl, rfl, rfl, rfl, rfl, rfl, trivial⟩ ?_
    refine sSeq ?_
    refine W.region ?_
    refine OpsW.det (det_move rfl) rfl ?_
    refine OpsW.det (det_move rfl) rfl ?_
    refine OpsW.add64 (e := 0) rfl rfl rfl (by first | assumption | exact lim_lt _ _ | decide) (by first | assumption | exact lim_lt _ _ | decide) (by first | assumption | decide) rfl fun s89 c89 he89 hs89 hk89 => ?_
    refine OpsW.det (det_move rfl) rfl ?_
    refine OpsW.det (det_extract rfl rfl) rfl ?_
    refine OpsW.det (det_extract rfl rfl) rfl ?_
    refine OpsW.det (det_assign rfl) rfl ?_
    refine OpsW.det (det_assign rfl) rfl ?_
    refine sNext ?_
    refine W.keep (F' := [(21, _), (20, _), (19, _), (25, _), (23, _), (18, _), (46, _), (45, _), (6, _), (7, _), (8, _), (9, _), (10, _), (11, _), (12, _), (13, _), (14, _), (15, _), (16, _), (4, _)]) ⟨rfl, rfl, rfl, rfl, rfl, rfl, rfl, rfl, rfl, rfl, rfl, rfl, rfl, rfl, rfl, rfl, rfl, rfl, rfl, rfl, trivial⟩ ?_
    refine sSeq ?_
    refine W.region ?_
    refine OpsW.det (det_move rfl) rfl ?_
    refine OpsW.det (det_move rfl) rfl ?_
    refine OpsW.addw rfl rfl (hi_lt hk83 hk89) rfl fun s94 he94 => ?_
    refine OpsW.det (det_assign rfl) rfl ?_
    refine sNext ?_
    refine W.keep (F' := [(19, _), (20, _), (25, _), (23, _), (18, _), (46, _), (45, _), (6, _), (7, _), (8, _), (9, _), (10, _), (11, _), (12, _), (13, _), (14, _), (15, _), (16, _), (4, _)]) ⟨rfl, rfl, rfl, rfl, rfl, rfl, rfl, rfl, rfl, rfl, rfl, rfl, rfl, rfl, rfl, rfl, rfl, rfl, rfl, trivial⟩ ?_
    refine sSeq ?_
    refine W.region ?_
    refine OpsW.det (det_move rfl) rfl ?_
    refine OpsW.det (det_move rfl) rfl ?_
    refine OpsW.add64 (e := 0) rfl rfl rfl (by first | assumption | exact lim_lt _ _ | decide) (by first | assumption | exact lim_lt _ _ | decide) (by first | assumption | decide) rfl fun s98 c98 he98 hs98 hk98 => ?_
    refine OpsW.det (det_move rfl) rfl ?_
    refine OpsW.det (det_extract rfl rfl) rfl ?_
    refine OpsW.det (det_extract rfl rfl) rfl ?_
    refine OpsW.det (det_assign rfl) rfl ?_
    refine OpsW.det (det_assign rfl) rfl ?_
    refine sNext ?_
    refine W.keep (F' := [(21, _), (20, _), (19, _), (25, _), (23, _), (18, _), (46, _), (45, _), (7, _), (8, _), (9, _), (10, _), (11, _), (12, _), (13, _), (14, _), (15, _), (16, _), (4, _)]) ⟨rfl, rfl, rfl, rfl, rfl, rfl, rfl, rfl, rfl, rfl, rfl, rfl, rfl, rfl, rfl, rfl, rfl, rfl, rfl, trivial⟩ ?_
    refine sSeq ?_
    refine W.region ?_
    refine OpsW.det (det_move rfl) rfl ?_
    refine OpsW.det (det_move rfl) rfl ?_
    refine OpsW.addw rfl rfl (col_lt (lim_lt _ _) hy hG0 ht1 he83 he89 he94 he98) rfl fun s103 he103 => ?_
    have E1 := col he83 he89 he94 he98 he103
    have hG1 : s103 < 18446744073709551616 := by rw [he103]; exact col_lt (lim_lt _ _) hy hG0 ht1 he83 he89 he94 he98
    clear he83 he89 he94 he98 he103
    refine OpsW.det (det_assign rfl) rfl ?_
    refine sNext ?_
    refine W.keep (F' := [(22, _), (20, _), (25, _), (23, _), (18, _), (46, _), (45, _), (7, _), (8, _), (9, _), (10, _), (11, _), (12, _), (13, _), (14, _), (15, _), (16, _), (4, _)]) ⟨rfl, rfl, rfl, rfl, rfl, rfl, rfl, rfl, rfl, rfl, rfl, rfl, rfl, rfl, rfl, rfl, rfl, rfl, trivial⟩ ?_
    refine sSeq ?_
    refine W.region ?_
    refine OpsW.det (det_move rfl) rfl ?_
    refine OpsW.mul64 (b := 2210141511517208575) rfl rfl (by first | assumption | exact lim_lt _ _ | decide) (by first | assumption | exact lim_lt _ _ | decide) rfl fun hi106 lo106 he106 hs106 hk106 => ?_
    refine OpsW.det (det_move rfl) rfl ?_
    refine OpsW.det (det_extract rfl rfl) rfl ?_
    refine OpsW.det (det_extract rfl rfl) rfl ?_
    refine OpsW.det (det_assign rfl) rfl ?_
    refine OpsW.det (det_assign rfl) rfl ?_
    refine sNext ?_
    refine W.keep (F' := [(24, _), (19, _), (22, _), (20, _), (25, _), (23, _), (18, _), (46, _), (45, _), (7, _), (8, _), (9, _), (10, _), (11, _), (12, _), (13, _), (14, _), (15, _), (16, _), (4, _)]) ⟨rfl, rfl, rfl, rfl, rfl, rfl, rfl, rfl, rfl, rfl, rfl, rfl, rfl, rfl, rfl, rfl, rfl, rfl, rfl, rfl, trivial⟩ ?_
    refine sSeq ?_
    refine W.region ?_
    refine OpsW.det (det_move rfl) rfl ?_
    refine OpsW.det (det_move rfl) rfl ?_
    refine OpsW.add64 (e := 0) rfl rfl rfl (by first | assumption | exact lim_lt _ _ | decide) (by first | assumption | exact lim_lt _ _ | decide) (by first | assumption | decide) rfl fun s112 c112 he112 hs112 hk112 => ?_
    refine OpsW.det (det_move rfl) rfl ?_
    refine OpsW.det (det_extract rfl rfl) rfl ?_
    refine OpsW.det (det_extract rfl rfl) rfl ?_
    refine OpsW.det (det_assign rfl) rfl ?_
    refine OpsW.det (det_assign rfl) rfl ?_
    refine sNext ?_
    refine W.keep (F' := [(21, _), (24, _), (19, _), (22, _), (20, _), (23, _), (18, _), (46, _), (45, _), (7, _), (8, _), (9, _), (10, _), (11, _), (12, _), (13, _), (14, _), (15, _), (16, _), (4, _)]) ⟨rfl, rfl, rfl, rfl, rfl, rfl, rfl, rfl, rfl, rfl, rfl, rfl, rfl, rfl, rfl, rfl, rfl, rfl, rfl, rfl, trivial⟩ ?_
    refine sSeq ?_
    refine W.region ?_
    refine OpsW.det (det_move rfl) rfl ?_
    refine OpsW.det (det_move rfl) rfl ?_
    refine OpsW.addw rfl rfl (hi_lt hk106 hk112) rfl fun s117 he117 => ?_
    refine OpsW.det (det_assign rfl) rfl ?_
    refine sNext ?_
    refine W.keep (F' := [(19, _), (24, _), (22, _), (20, _), (23, _), (18, _), (46, _), (45, _), (7, _), (8, _), (9, _), (10, _), (11, _), (12, _), (13, _), (14, _), (15, _), (16, _), (4, _)]) ⟨rfl, rfl, rfl, rfl, rfl, rfl, rfl, rfl, rfl, rfl, rfl, rfl, rfl, rfl, rfl, rfl, rfl, rfl, rfl, trivial⟩ ?_
    refine sSeq ?_
    refine W.region ?_
    refine OpsW.det (det_move rfl) rfl ?_
    refine OpsW.det (det_move rfl) rfl ?_
    refine OpsW.add64 (e := 0) rfl rfl rfl (by first | assumption | exact lim_lt _ _ | decide) (by first | assumption | exact lim_lt _ _ | decide) (by first | assumption | decide) rfl fun s121 c121 he121 hs121 hk121 => ?_
    refine OpsW.det (det_move rfl) rfl ?_
    refine OpsW.det (det_extract rfl rfl) rfl ?_
    refine OpsW.det (det_extract rfl rfl) rfl ?_
    refine OpsW.det (det_assign rfl) rfl ?_
    refine OpsW.det (det_assign rfl) rfl ?_
    refine sNext ?_
    refine W.keep (F' := [(21, _), (5, _), (19, _), (22, _), (23, _), (18, _), (46, _), (45, _), (7, _), (8, _), (9, _), (10, _), (11, _), (12, _), (13, _), (14, _), (15, _), (16, _), (4, _)]) ⟨rfl, rfl, rfl, rfl, rfl, rfl, rfl, rfl, rfl, rfl, rfl, rfl, rfl, rfl, rfl, rfl, rfl, rfl, rfl, trivial⟩ ?_
    refine sSeq ?_
    refine W.region ?_
    refine OpsW.det (det_move rfl) rfl ?_
    refine OpsW.det (det_move rfl) rfl ?_
    refine OpsW.addw rfl rfl (col_lt hs65 (by decide) hF0 hs98 he106 he112 he117 he121) rfl fun s126 he126 => ?_
    have F1 := col he106 he112 he117 he121 he126
    have hF1 : s126 < 18446744073709551616 := by rw [he126]; exact col_lt hs65 (by decide) hF0 hs98 he106 he112 he117 he121
    clear he106 he112 he117 he121 he126
    refine OpsW.det (det_assign rfl) rfl ?_
    refine sNext ?_
    refine W.keep (F' := [(25, _), (5, _), (22, _), (23, _), (18, _), (46, _), (45, _), (7, _), (8, _), (9, _), (10, _), (11, _), (12, _), (13, _), (14, _), (15, _), (16, _), (4, _)]) ⟨rfl, rfl, rfl, rfl, rfl, rfl, rfl, rfl, rfl, rfl, rfl, rfl, rfl, rfl, rfl, rfl, rfl, rfl, trivial⟩ ?_
    refine sSeq ?_
    refine W.region ?_
    refine OpsW.det (det_move rfl) rfl ?_
    refine OpsW.det (det_move rfl) rfl ?_
    refine OpsW.mul64 rfl rfl (by first | assumption | exact lim_lt _ _ | decide) (by first | assumption | exact lim_lt _ _ | decide) rfl fun hi130 lo130 he130 hs130 hk130 => ?_
    refine OpsW.det (det_move rfl) rfl ?_
    refine OpsW.det (det_extract rfl rfl) rfl ?_
    refine OpsW.det (det_extract rfl rfl) rfl ?_
    refine OpsW.det (det_assign rfl) rfl ?_
    refine OpsW.det (det_assign rfl) rfl ?_
    refine sNext ?_
    refine W.keep (F' := [(20, _), (19, _), (25, _), (5, _), (22, _), (23, _), (18, _), (46, _), (45, _), (7, _), (8, _), (9, _), (10, _), (11, _), (12, _), (13, _), (14, _), (15, _), (16, _), (4, _)]) ⟨rfl, rfl, rfl, rfl, rfl, rfl, rfl, rfl, rfl, rfl, rfl, rfl, rfl, rfl, rfl, rfl, rfl, rfl, rfl, rfl, trivial⟩ ?_
    refine sSeq ?_
    refine W.region ?_
    refine OpsW.det (det_move rfl) rfl ?_
    refine OpsW.det (det_move rfl) rfl ?_
    refine OpsW.add64 (e := 0) rfl rfl rfl (by first | assumption | exact lim_lt _ _ | decide) (by first | assumption | exact lim_lt _ _ | decide) (by first | assumption | decide) rfl fun s136 c136 he136 hs136 hk136 => ?_
    refine OpsW.det (det_move rfl) rfl ?_
    refine OpsW.det (det_extract rfl rfl) rfl ?_
    refine OpsW.det (det_extract rfl rfl) rfl ?_
    refine OpsW.det (det_assign rfl) rfl ?_
    refine OpsW.det (det_assign rfl) rfl ?_
    refine sNext ?_
    refine W.keep (F' := [(21, _), (20, _), (19, _), (25, _), (5, _), (23, _), (18, _), (46, _), (45, _), (7, _), (8, _), (9, _), (10, _), (11, _), (12, _), (13, _), (14, _), (15, _), (16, _), (4, _)]) ⟨rfl, rfl, rfl, rfl, rfl, rfl, rfl, rfl, rfl, rfl, rfl, rfl, rfl, rfl, rfl, rfl, rfl, rfl, rfl, rfl, trivial⟩ ?_
    refine sSeq ?_
    refine W.region ?_
    refine OpsW.det (det_move rfl) rfl ?_
    refine OpsW.det (det_move rfl) rfl ?_
    refine OpsW.addw rfl rfl (hi_lt hk130 hk136) rfl fun s141 he141 => ?_
    refine OpsW.det (det_assign rfl) rfl ?_
    refine sNext ?_
    refine W.keep (F' := [(19, _), (20, _), (25, _), (5, _), (23, _), (18, _), (46, _), (45, _), (7, _), (8, _), (9, _), (10, _), (11, _), (12, _), (13, _), (14, _), (15, _), (16, _), (4, _)]) ⟨rfl, rfl, rfl, rfl, rfl, rfl, rfl, rfl, rfl, rfl, rfl, rfl, rfl, rfl, rfl, rfl, rfl, rfl, rfl, trivial⟩ ?_
    refine sSeq ?_
    refine W.region ?_
    refine OpsW.det (det_move rfl) rfl ?_
    refine OpsW.det (det_move rfl) rfl ?_
    refine OpsW.add64 (e := 0) rfl rfl rfl (by first | assumption | exact lim_lt _ _ | decide) (by first | assumption | exact lim_lt _ _ | decide) (by first | assumption | decide) rfl fun s145 c145 he145 hs145 hk145 => ?_
    refine OpsW.det (det_move rfl) rfl ?_
    refine OpsW.det (det_extract rfl rfl) rfl ?_
    refine OpsW.det (det_extract rfl rfl) rfl ?_
    refine OpsW.det (det_assign rfl) rfl ?_
    refine OpsW.det (det_assign rfl) rfl ?_
    refine sNext ?_
    refine W.keep (F' := [(21, _), (20, _), (19, _), (25, _), (5, _), (23, _), (18, _), (46, _), (45, _), (8, _), (9, _), (10, _), (11, _), (12, _), (13, _), (14, _), (15, _), (16, _), (4, _)]) ⟨rfl, rfl, rfl, rfl, rfl, rfl, rfl, rfl, rfl, rfl, rfl, rfl, rfl, rfl, rfl, rfl, rfl, rfl, rfl, trivial⟩ ?_
    refine sSeq ?_
    refine W.region ?_
    refine OpsW.det (det_move rfl) rfl ?_
    refine OpsW.det (det_move rfl) rfl ?_
    refine OpsW.addw rfl rfl (col_lt (lim_lt _ _) hy hG1 ht2 he130 he136 he141 he145) rfl fun s150 he150 => ?_
    have E2 := col he130 he136 he141 he145 he150
    have hG2 : s150 < 18446744073709551616 := by rw [he150]; exact col_lt (lim_lt _ _) hy hG1 ht2 he130 he136 he141 he145
    clear he130 he136 he141 he145 he150
    refine OpsW.det (det_assign rfl) rfl ?_
    refine sNext ?_
    refine W.keep (F' := [(22, _), (20, _), (25, _), (5, _), (23, _), (18, _), (46, _), (45, _), (8, _), (9, _), (10, _), (11, _), (12, _), (13, _), (14, _), (15, _), (16, _), (4, _)]) ⟨rfl, rfl, rfl, rfl, rfl, rfl, rfl, rfl, rfl, rfl, rfl, rfl, rfl, rfl, rfl, rfl, rfl, rfl, trivial⟩ ?_
    refine sSeq ?_
    refine W.region ?_
    refine OpsW.det (det_move rfl) rfl ?_
    refine OpsW.mul64 (b := 7435674573564081700) rfl rfl (by first | assumption | exact lim_lt _ _ | decide) (by first | assumption | exact lim_lt _ _ | decide) rfl fun hi153 lo153 he153 hs153 hk153 => ?_
    refine OpsW.det (det_move rfl) rfl ?_
    refine OpsW.det (det_extract rfl rfl) rfl ?_
    refine OpsW.det (det_extract rfl rfl) rfl ?_
    refine OpsW.det (det_assign rfl) rfl ?_
    refine OpsW.det (det_assign rfl) rfl ?_
    refine sNext ?_
    refine W.keep (F' := [(24, _), (19, _), (22, _), (20, _), (25, _), (5, _), (23, _), (18, _), (46, _), (45, _), (8, _), (9, _), (10, _), (11, _), (12, _), (13, _), (14, _), (15, _), (16, _), (4, _)]) ⟨rfl, rfl, rfl, rfl, rfl, rfl, rfl, rfl, rfl, rfl, rfl, rfl, rfl, rfl, rfl, rfl, rfl, rfl, rfl, rfl, trivial⟩ ?_
    refine sSeq ?_
    refine W.region ?_
    refine OpsW.det (det_move rfl) rfl ?_
    refine OpsW.det (det_move rfl) rfl ?_
    refine OpsW.add64 (e := 0) rfl rfl rfl (by first | assumption | exact lim_lt _ _ | decide) (by first | assumption | exact lim_lt _ _ | decide) (by first | assumption | decide) rfl fun s159 c159 he159 hs159 hk159 => ?_
    refine OpsW.det (det_move rfl) rfl ?_
    refine OpsW.det (det_extract rfl rfl) rfl ?_
    refine OpsW.det (det_extract rfl rfl) rfl ?_
    refine OpsW.det (det_assign rfl) rfl ?_
    refine OpsW.det (det_assign rfl) rfl ?_
    refine sNext ?_
    refine W.keep (F' := [(21, _), (24, _), (19, _), (22, _), (20, _), (5, _), (23, _), (18, _), (46, _), (45, _), (8, _), (9, _), (10, _), (11, _), (12, _), (13, _), (14, _), (15, _), (16, _), (4, _)]) ⟨rfl, rfl, rfl, rfl, rfl, rfl, rfl, rfl, rfl, rfl, rfl, rfl, rfl, rfl, rfl, rfl, rfl, rfl, rfl, rfl, trivial⟩ ?_
    refine sSeq ?_
    refine W.region ?_
    refine OpsW.det (det_move rfl) rfl ?_
    refine OpsW.det (det_move rfl) rfl ?_
    refine OpsW.addw rfl rfl (hi_lt hk153 hk159) rfl fun s164 he164 => ?_
    refine OpsW.det (det_assign rfl) rfl ?_
    refine sNext ?_
    refine W.keep (F' := [(19, _), (24, _), (22, _), (20, _), (5, _), (23, _), (18, _), (46, _), (45, _), (8, _), (9, _), (10, _), (11, _), (12, _), (13, _), (14, _), (15, _), (16, _), (4, _)]) ⟨rfl, rfl, rfl, rfl, rfl, rfl, rfl, rfl, rfl, rfl, rfl, rfl, rfl, rfl, rfl, rfl, rfl, rfl, rfl, trivial⟩ ?_
    refine sSeq ?_
    refine W.region ?_
    refine OpsW.det (det_move rfl) rfl ?_
    refine OpsW.det (det_move rfl) rfl ?_
    refine OpsW.add64 (e := 0) rfl rfl rfl (by first | assumption | exact lim_lt _ _ | decide) (by first | assumption | exact lim_lt _ _ | decide) (by first | assumption | decide) rfl fun s168 c168 he168 hs168 hk168 => ?_
    refine OpsW.det (det_move rfl) rfl ?_
    refine OpsW.det (det_extract rfl rfl) rfl ?_
    refine OpsW.det (det_extract rfl rfl) rfl ?_
    refine OpsW.det (det_assign rfl) rfl ?_
    refine OpsW.det (det_assign rfl) rfl ?_
    refine sNext ?_
    refine W.keep (F' := [(21, _), (6, _), (19, _), (22, _), (5, _), (23, _), (18, _), (46, _), (45, _), (8, _), (9, _), (10, _), (11, _), (12, _), (13, _), (14, _), (15, _), (16, _), (4, _)]) ⟨rfl, rfl, rfl, rfl, rfl, rfl, rfl, rfl, rfl, rfl, rfl, rfl, rfl, rfl, rfl, rfl, rfl, rfl, rfl, trivial⟩ ?_
    refine sSeq ?_
    refine W.region ?_
    refine OpsW.det (det_move rfl) rfl ?_
    refine OpsW.det (det_move rfl) rfl ?_
    refine OpsW.addw rfl rfl (col_lt hs65 (by decide) hF1 hs145 he153 he159 he164 he168) rfl fun s173 he173 => ?_
    have F2 := col he153 he159 he164 he168 he173
    have hF2 : s173 < 18446744073709551616 := by rw [he173]; exact col_lt hs65 (by decide) hF1 hs145 he153 he159 he164 he168
    clear he153 he159 he164 he168 he173
    refine OpsW.det (det_assign rfl) rfl ?_
    refine sNext ?_
    refine W.keep (F' := [(25, _), (6, _), (22, _), (5, _), (23, _), (18, _), (46, _), (45, _), (8, _), (9, _), (10, _), (11, _), (12, _), (13, _), (14, _), (15, _), (16, _), (4, _)]) ⟨rfl, rfl, rfl, rfl, rfl, rfl, rfl, rfl, rfl, rfl, rfl, rfl, rfl, rfl, rfl, rfl, rfl, rfl, trivial⟩ ?_
    refine sSeq ?_
    refine W.region ?_
    refine OpsW.det (det_move rfl) rfl ?_
    refine OpsW.det (det_move rfl) rfl ?_
    refine OpsW.mul64 rfl rfl (by first | assumption | exact lim_lt _ _ | decide) (by first | assumption | exact lim_lt _ _ | decide) rfl fun hi177 lo177 he177 hs177 hk177 => ?_
    refine OpsW.det (det_move rfl) rfl ?_
    refine OpsW.det (det_extract rfl rfl) rfl ?_
    refine OpsW.det (det_extract rfl rfl) rfl ?_
    refine OpsW.det (det_assign rfl) rfl ?_
    refine OpsW.det (det_assign rfl) rfl ?_
    refine sNext ?_
    refine W.keep (F' := [(20, _), (19, _), (25, _), (6, _), (22, _), (5, _), (23, _), (18, _), (46, _), (45, _), (8, _), (9, _), (10, _), (11, _), (12, _), (13, _), (14, _), (15, _), (16, _), (4, _)]) ⟨rfl, rfl, rfl, rfl, rfl, rfl, rfl, rfl, rfl, rfl, rfl, rfl, rfl, rfl, rfl, rfl, rfl, rfl, rfl, rfl, trivial⟩ ?_
    refine sSeq ?_
    refine W.region ?_
    refine OpsW.det (det_move rfl) rfl ?_
    refine OpsW.det (det_move rfl) rfl ?_
    refine OpsW.add64 (e := 0) rfl rfl rfl (by first | assumption | exact lim_lt _ _ | decide) (by first | assumption | exact lim_lt _ _ | decide) (by first | assumption | decide) rfl fun s183 c183 he183 hs183 hk183 => ?_
    refine OpsW.det (det_move rfl) rfl ?_
    refine OpsW.det (det_extract rfl rfl) rfl ?_
    refine OpsW.det (det_extract rfl rfl) rfl ?_
    refine OpsW.det (det_assign rfl) rfl ?_
    refine OpsW.det (det_assign rfl) rfl ?_
    refine sNext ?_
    refine W.keep (F' := [(21, _), (20, _), (19, _), (25, _), (6, _), (5, _), (23, _), (18, _), (46, _), (45, _), (8, _), (9, _), (10, _), (11, _), (12, _), (13, _), (14, _), (15, _), (16, _), (4, _)]) ⟨rfl, rfl, rfl, rfl, rfl, rfl, rfl, rfl, rfl, rfl, rfl, rfl, rfl, rfl, rfl, rfl, rfl, rfl, rfl, rfl, trivial⟩ ?_
    refine sSeq ?_
    refine W.region ?_
    refine OpsW.det (det_move rfl) rfl ?_
    refine OpsW.det (det_move rfl) rfl ?_
    refine OpsW.addw rfl rfl (hi_lt hk177 hk183) rfl fun s188 he188 => ?_
    refine OpsW.det (det_assign rfl) rfl ?_
    refine sNext ?_
    refine W.keep (F' := [(19, _), (20, _), (25, _), (6, _), (5, _), (23, _), (18, _), (46, _), (45, _), (8, _), (9, _), (10, _), (11, _), (12, _), (13, _), (14, _), (15, _), (16, _), (4, _)]) ⟨rfl, rfl, rfl, rfl, rfl, rfl, rfl, rfl, rfl, rfl, rfl, rfl, rfl, rfl, rfl, rfl, rfl, rfl, rfl, trivial⟩ ?_
    refine sSeq ?_
    refine W.region ?_
    refine OpsW.det (det_move rfl) rfl ?_
    refine OpsW.det (det_move rfl) rfl ?_
    refine OpsW.add64 (e := 0) rfl rfl rfl (by first | assumption | exact lim_lt _ _ | decide) (by first | assumption | exact lim_lt _ _ | decide) (by first | assumption | decide) rfl fun s192 c192 he192 hs192 hk192 => ?_
    refine OpsW.det (det_move rfl) rfl ?_
    refine OpsW.det (det_extract rfl rfl) rfl ?_
    refine OpsW.det (det_extract rfl rfl) rfl ?_
    refine OpsW.det (det_assign rfl) rfl ?_
    refine OpsW.det (det_assign rfl) rfl ?_
    refine sNext ?_
    refine W.keep (F' := [(21, _), (20, _), (19, _), (25, _), (6, _), (5, _), (23, _), (18, _), (46, _), (45, _), (9, _), (10, _), (11, _), (12, _), (13, _), (14, _), (15, _), (16, _), (4, _)]) ⟨rfl, rfl, rfl, rfl, rfl, rfl, rfl, rfl, rfl, rfl, rfl, rfl, rfl, rfl, rfl, rfl, rfl, rfl, rfl, trivial⟩ ?_
    refine sSeq ?_
    refine W.region ?_
    refine OpsW.det (det_move rfl) rfl ?_
    refine OpsW.det (det_move rfl) rfl ?_
    refine OpsW.addw rfl rfl (col_lt (lim_lt _ _) hy hG2 ht3 he177 he183 he188 he192) rfl fun s197 he197 => ?_
    have E3 := col he177 he183 he188 he192 he197
    have hG3 : s197 < 18446744073709551616 := by rw [he197]; exact col_lt (lim_lt _ _) hy hG2 ht3 he177 he183 he188 he192
    clear he177 he183 he188 he192 he197
    refine OpsW.det (det_assign rfl) rfl ?_
    refine sNext ?_
    refine W.keep (F' := [(22, _), (20, _), (25, _), (6, _), (5, _), (23, _), (18, _), (46, _), (45, _), (9, _), (10, _), (11, _), (12, _), (13, _), (14, _), (15, _), (16, _), (4, _)]) ⟨rfl, rfl, rfl, rfl, rfl, rfl, rfl, rfl, rfl, rfl, rfl, rfl, rfl, rfl, rfl, rfl, rfl, rfl, trivial⟩ ?_
    refine sSeq ?_
    refine W.region ?_
    refine OpsW.det (det_move rfl) rfl ?_
    refine OpsW.mul64 (b := 7239337960414712511) rfl rfl (by first | assumption | exact lim_lt _ _ | decide) (by first | assumption | exact lim_lt _ _ | decide) rfl fun hi200 lo200 he200 hs200 hk200 => ?_
    refine OpsW.det (det_move rfl) rfl ?_
    refine OpsW.det (det_extract rfl rfl) rfl ?_
    refine OpsW.det (det_extract rfl rfl) rfl ?_
    refine OpsW.det (det_assign rfl) rfl ?_
    refine OpsW.det (det_assign rfl) rfl ?_
    refine sNext ?_
    refine W.keep (F' := [(24, _), (19, _), (22, _), (20, _), (25, _), (6, _), (5, _), (23, _), (18, _), (46, _), (45, _), (9, _), (10, _), (11, _), (12, _), (13, _), (14, _), (15, _), (16, _), (4, _)]) ⟨rfl, rfl, rfl, rfl, rfl, rfl, rfl, rfl, rfl, rfl, rfl, rfl, rfl, rfl, rfl, rfl, rfl, rfl, rfl, rfl, trivial⟩ ?_
    refine sSeq ?_
    refine W.region ?_
    refine OpsW.det (det_move rfl) rfl ?_
    refine OpsW.det (det_move rfl) rfl ?_
    refine OpsW.add64 (e := 0) rfl rfl rfl (by first | assumption | exact lim_lt _ _ | decide) (by first | assumption | exact lim_lt _ _ | decide) (by first | assumption | decide) rfl fun s206 c206 he206 hs206 hk206 => ?_
    refine OpsW.det (det_move rfl) rfl ?_
    refine OpsW.det (det_extract rfl rfl) rfl ?_
    refine OpsW.det (det_extract rfl rfl) rfl ?_
    refine OpsW.det (det_assign rfl) rfl ?_
    refine OpsW.det (det_assign rfl) rfl ?_
    refine sNext ?_
    refine W.keep (F' := [(21, _), (24, _), (19, _), (22, _), (20, _), (6, _), (5, _), (23, _), (18, _), (46, _), (45, _), (9, _), (10, _), (11, _), (12, _), (13, _), (14, _), (15, _), (16, _), (4, _)]) ⟨rfl, rfl, rfl, rfl, rfl, rfl, rfl, rfl, rfl, rfl, rfl, rfl, rfl, rfl, rfl, rfl, rfl, rfl, rfl, rfl, trivial⟩ ?_
    refine sSeq ?_
    refine W.region ?_
    refine OpsW.det (det_move rfl) rfl ?_
    refine OpsW.det (det_move rfl) rfl ?_
    refine OpsW.addw rfl rfl (hi_lt hk200 hk206) rfl fun s211 he211 => ?_
    refine OpsW.det (det_assign rfl) rfl ?_
    refine sNext ?_
    refine W.keep (F' := [(19, _), (24, _), (22, _), (20, _), (6, _), (5, _), (23, _), (18, _), (46, _), (45, _), (9, _), (10, _), (11, _), (12, _), (13, _), (14, _), (15, _), (16, _), (4, _)]) ⟨rfl, rfl, rfl, rfl, rfl, rfl, rfl, rfl, rfl, rfl, rfl, rfl, rfl, rfl, rfl, rfl, rfl, rfl, rfl, trivial⟩ ?_
    refine sSeq ?_
    refine W.region ?_
    refine OpsW.det (det_move rfl) rfl ?_
    refine OpsW.det (det_move rfl) rfl ?_
    refine OpsW.add64 (e := 0) rfl rfl rfl (by first | assumption | exact lim_lt _ _ | decide) (by first | assumption | exact lim_lt _ _ | decide) (by first | assumption | decide) rfl fun s215 c215 he215 hs215 hk215 => ?_
    refine OpsW.det (det_move rfl) rfl ?_
    refine OpsW.det (det_extract rfl rfl) rfl ?_
    refine OpsW.det (det_extract rfl rfl) rfl ?_
    refine OpsW.det (det_assign rfl) rfl ?_
    refine OpsW.det (det_assign rfl) rfl ?_
    refine sNext ?_
    refine W.keep (F' := [(21, _), (7, _), (19, _), (22, _), (6, _), (5, _), (23, _), (18, _), (46, _), (45, _), (9, _), (10, _), (11, _), (12, _), (13, _), (14, _), (15, _), (16, _), (4, _)]) ⟨rfl, rfl, rfl, rfl, rfl, rfl, rfl, rfl, rfl, rfl, rfl, rfl, rfl, rfl, rfl, rfl, rfl, rfl, rfl, trivial⟩ ?_
    refine sSeq ?_
    refine W.region ?_
    refine OpsW.det (det_move rfl) rfl ?_
    refine OpsW.det (det_move rfl) rfl ?_
    refine OpsW.addw rfl rfl (col_lt hs65 (by decide) hF2 hs192 he200 he206 he211 he215) rfl fun s220 he220 => ?_
    have F3 := col he200 he206 he211 he215 he220
    have hF3 : s220 < 18446744073709551616 := by rw [he220]; exact col_lt hs65 (by decide) hF2 hs192 he200 he206 he211 he215
    clear he200 he206 he211 he215 he220
    refine OpsW.det (det_assign rfl) rfl ?_
    refine sNext ?_
    refine W.keep (F' := [(25, _), (7, _), (22, _), (6, _), (5, _), (23, _), (18, _), (46, _), (45, _), (9, _), (10, _), (11, _), (12, _), (13, _), (14, _), (15, _), (16, _), (4, _)]) ⟨rfl, rfl, rfl, rfl, rfl, rfl, rfl, rfl, rfl, rfl, rfl, rfl, rfl, rfl, rfl, rfl, rfl, rfl, trivial⟩ ?_
    refine sSeq ?_
    refine W.region ?_
    refine OpsW.det (det_move rfl) rfl ?_
    refine OpsW.det (det_move rfl) rfl ?_
    refine OpsW.mul64 rfl rfl (by first | assumption | exact lim_lt _ _ | decide) (by first | assumption | exact lim_lt _ _ | decide) rfl fun hi224 lo224 he224 hs224 hk224 => ?_
    refine OpsW.det (det_move rfl) rfl ?_
    refine OpsW.det (det_extract rfl rfl) rfl ?_
    refine OpsW.det (det_extract rfl rfl) rfl ?_
    refine OpsW.det (det_assign rfl) rfl ?_
    refine OpsW.det (det_assign rfl) rfl ?_
    refine sNext ?_
    refine W.keep (F' := [(20, _), (19, _), (25, _), (7, _), (22, _), (6, _), (5, _), (23, _), (18, _), (46, _), (45, _), (9, _), (10, _), (11, _), (12, _), (13, _), (14, _), (15, _), (16, _), (4, _)]) ⟨rfl, rfl, rfl, rfl, rfl, rfl, rfl, rfl, rfl, rfl, rfl, rfl, rfl, rfl, rfl, rfl, rfl, rfl, rfl, rfl, trivial⟩ ?_
    refine sSeq ?_
    refine W.region ?_
    refine OpsW.det (det_move rfl) rfl ?_
    refine OpsW.det (det_move rfl) rfl ?_
    refine OpsW.add64 (e := 0) rfl rfl rfl (by first | assumption | exact lim_lt _ _ | decide) (by first | assumption | exact lim_lt _ _ | decide) (by first | assumption | decide) rfl fun s230 c230 he230 hs230 hk230 => ?_
    refine OpsW.det (det_move rfl) rfl ?_
    refine OpsW.det (det_extract rfl rfl) rfl ?_
    refine OpsW.det (det_extract rfl rfl) rfl ?_
    refine OpsW.det (det_assign rfl) rfl ?_
    refine OpsW.det (det_assign rfl) rfl ?_
    refine sNext ?_
    refine W.keep (F' := [(21, _), (20, _), (19, _), (25, _), (7, _), (6, _), (5, _), (23, _), (18, _), (46, _), (45, _), (9, _), (10, _), (11, _), (12, _), (13, _), (14, _), (15, _), (16, _), (4, _)]) ⟨rfl, rfl, rfl, rfl, rfl, rfl, rfl, rfl, rfl, rfl, rfl, rfl, rfl, rfl, rfl, rfl, rfl, rfl, rfl, rfl, trivial⟩ ?_
    refine sSeq ?_
    refine W.region ?_
    refine OpsW.det (det_move rfl) rfl ?_
    refine OpsW.det (det_move rfl) rfl ?_
    refine OpsW.addw rfl rfl (hi_lt hk224 hk230) rfl fun s235 he235 => ?_
    refine OpsW.det (det_assign rfl) rfl ?_
    refine sNext ?_
    refine W.keep (F' := [(19, _), (20, _), (25, _), (7, _), (6, _), (5, _), (23, _), (18, _), (46, _), (45, _), (9, _), (10, _), (11, _), (12, _), (13, _), (14, _), (15, _), (16, _), (4, _)]) ⟨rfl, rfl, rfl, rfl, rfl, rfl, rfl, rfl, rfl, rfl, rfl, rfl, rfl, rfl, rfl, rfl, rfl, rfl, rfl, trivial⟩ ?_
    refine sSeq ?_
    refine W.region ?_
    refine OpsW.det (det_move rfl) rfl ?_
    refine OpsW.det (det_move rfl) rfl ?_
    refine OpsW.add64 (e := 0) rfl rfl rfl (by first | assumption | exact lim_lt _ _ | decide) (by first | assumption | exact lim_lt _ _ | decide) (by first | assumption | decide) rfl fun s239 c239 he239 hs239 hk239 => ?_
    refine OpsW.det (det_move rfl) rfl ?_
    refine OpsW.det (det_extract rfl rfl) rfl ?_
    refine OpsW.det (det_extract rfl rfl) rfl ?_
    refine OpsW.det (det_assign rfl) rfl ?_
    refine OpsW.det (det_assign rfl) rfl ?_
    refine sNext ?_
    refine W.keep (F' := [(21, _), (20, _), (19, _), (25, _), (7, _), (6, _), (5, _), (23, _), (18, _), (46, _), (45, _), (10, _), (11, _), (12, _), (13, _), (14, _), (15, _), (16, _), (4, _)]) ⟨rfl, rfl, rfl, rfl, rfl, rfl, rfl, rfl, rfl, rfl, rfl, rfl, rfl, rfl, rfl, rfl, rfl, rfl, rfl, trivial⟩ ?_
    refine sSeq ?_
    refine W.region ?_
    refine OpsW.det (det_move rfl) rfl ?_
    refine OpsW.det (det_move rfl) rfl ?_
    refine OpsW.addw rfl rfl (col_lt (lim_lt _ _) hy hG3 ht4 he224 he230 he235 he239) rfl fun s244 he244 => ?_
    have E4 := col he224 he230 he235 he239 he244
    have hG4 : s244 < 18446744073709551616 := by rw [he244]; exact col_lt (lim_lt _ _) hy hG3 ht4 he224 he230 he235 he239
    clear he224 he230 he235 he239 he244
    refine OpsW.det (det_assign rfl) rfl ?_
    refine sNext ?_
    refine W.keep (F' := [(22, _), (20, _), (25, _), (7, _), (6, _), (5, _), (23, _), (18, _), (46, _), (45, _), (10, _), (11, _), (12, _), (13, _), (14, _), (15, _), (16, _), (4, _)]) ⟨rfl, rfl, rfl, rfl, rfl, rfl, rfl, rfl, rfl, rfl, rfl, rfl, rfl, rfl, rfl, rfl, rfl, rfl, trivial⟩ ?_
    refine sSeq ?_
    refine W.region ?_
    refine OpsW.det (det_move rfl) rfl ?_
    refine OpsW.mul64 (b := 5412103778470702295) rfl rfl (by first | assumption | exact lim_lt _ _ | decide) (by first | assumption | exact lim_lt _ _ | decide) rfl fun hi247 lo247 he247 hs247 hk247 => ?_
    refine OpsW.det (det_move rfl) rfl ?_
    refine OpsW.det (det_extract rfl rfl) rfl ?_
    refine OpsW.det (det_extract rfl rfl) rfl ?_
    refine OpsW.det (det_assign rfl) rfl ?_
    refine OpsW.det (det_assign rfl) rfl ?_
    refine sNext ?_
    refine W.keep (F' := [(24, _), (19, _), (22, _), (20, _), (25, _), (7, _), (6, _), (5, _), (23, _), (18, _), (46, _), (45, _), (10, _), (11, _), (12, _), (13, _), (14, _), (15, _), (16, _), (4, _)]) ⟨rfl, rfl, rfl, rfl, rfl, rfl, rfl, rfl, rfl, rfl, rfl, rfl, rfl, rfl, rfl, rfl, rfl, rfl, rfl, rfl, trivial⟩ ?_
    refine sSeq ?_
    refine W.region ?_
    refine OpsW.det (det_move rfl) rfl ?_
    refine OpsW.det (det_move rfl) rfl ?_
    refine OpsW.add64 (e := 0) rfl rfl rfl (by first | assumption | exact lim_lt _ _ | decide) (by first | assumption | exact lim_lt _ _ | decide) (by first | assumption | decide) rfl fun s253 c253 he253 hs253 hk253 => ?_
    refine OpsW.det (det_move rfl) rfl ?_
    refine OpsW.det (det_extract rfl rfl) rfl ?_
    refine OpsW.det (det_extract rfl rfl) rfl ?_
    refine OpsW.det (det_assign rfl) rfl ?_
    refine OpsW.det (det_assign rfl) rfl ?_
    refine sNext ?_
    refine W.keep (F' := [(21, _), (24, _), (19, _), (22, _), (20, _), (7, _), (6, _), (5, _), (23, _), (18, _), (46, _), (45, _), (10, _), (11, _), (12, _), (13, _), (14, _), (15, _), (16, _), (4, _)]) ⟨rfl, rfl, rfl, rfl, rfl, rfl, rfl, rfl, rfl, rfl, rfl, rfl, rfl, rfl, rfl, rfl, rfl, rfl, rfl, rfl, trivial⟩ ?_
    refine sSeq ?_
    refine W.region ?_
    refine OpsW.det (det_move rfl) rfl ?_
    refine OpsW.det (det_move rfl) rfl ?_
    refine OpsW.addw rfl rfl (hi_lt hk247 hk253) rfl fun s258 he258 => ?_
    refine OpsW.det (det_assign rfl) rfl ?_
    refine sNext ?_
    refine W.keep (F' := [(19, _), (24, _), (22, _), (20, _), (7, _), (6, _), (5, _), (23, _), (18, _), (46, _), (45, _), (10, _), (11, _), (12, _), (13, _), (14, _), (15, _), (16, _), (4, _)]) ⟨rfl, rfl, rfl, rfl, rfl, rfl, rfl, rfl, rfl, rfl, rfl, rfl, rfl, rfl, rfl, rfl, rfl, rfl, rfl, trivial⟩ ?_
    refine sSeq ?_
    refine W.region ?_
    refine OpsW.det (det_move rfl) rfl ?_
    refine OpsW.det (det_move rfl) rfl ?_
    refine OpsW.add64 (e := 0) rfl rfl rfl (by first | assumption | exact lim_lt _ _ | decide) (by first | assumption | exact lim_lt _ _ | decide) (by first | assumption | decide) rfl fun s262 c262 he262 hs262 hk262 => ?_
    refine OpsW.det (det_move rfl) rfl ?_
    refine OpsW.det (det_extract rfl rfl) rfl ?_
    refine OpsW.det (det_extract rfl rfl) rfl ?_
    refine OpsW.det (det_assign rfl) rfl ?_
    refine OpsW.det (det_assign rfl) rfl ?_
    refine sNext ?_
    refine W.keep (F' := [(21, _), (8, _), (19, _), (22, _), (7, _), (6, _), (5, _), (23, _), (18, _), (46, _), (45, _), (10, _), (11, _), (12, _), (13, _), (14, _), (15, _), (16, _), (4, _)]) ⟨rfl, rfl, rfl, rfl, rfl, rfl, rfl, rfl, rfl, rfl, rfl, rfl, rfl, rfl, rfl, rfl, rfl, rfl, rfl, trivial⟩ ?_
    refine sSeq ?_
    refine W.region ?_
    refine OpsW.det (det_move rfl) rfl ?_
    refine OpsW.det (det_move rfl) rfl ?_
    refine OpsW.addw rfl rfl (col_lt hs65 (by decide) hF3 hs239 he247 he253 he258 he262) rfl fun s267 he267 => ?_
    have F4 := col he247 he253 he258 he262 he267
    have hF4 : s267 < 18446744073709551616 := by rw [he267]; exact col_lt hs65 (by decide) hF3 hs239 he247 he253 he258 he262
    clear he247 he253 he258 he262 he267
    refine OpsW.det (det_assign rfl) rfl ?_
    refine sNext ?_
    refine W.keep (F' := [(25, _), (8, _), (22, _), (7, _), (6, _), (5, _), (23, _), (18, _), (46, _), (45, _), (10, _), (11, _), (12, _), (13, _), (14, _), (15, _), (16, _), (4, _)]) ⟨rfl, rfl, rfl, rfl, rfl, rfl, rfl, rfl, rfl, rfl, rfl, rfl, rfl, rfl, rfl, rfl, rfl, rfl, trivial⟩ ?_
    refine sSeq ?_
    refine W.region ?_
    refine OpsW.det (det_move rfl) rfl ?_
    refine OpsW.det (det_move rfl) rfl ?_
    refine OpsW.mul64 rfl rfl (by first | assumption | exact lim_lt _ _ | decide) (by first | assumption | exact lim_lt _ _ | decide) rfl fun hi271 lo271 he271 hs271 hk271 => ?_
    refine OpsW.det (det_move rfl) rfl ?_
    refine OpsW.det (det_extract rfl rfl) rfl ?_
    refine OpsW.det (det_extract rfl rfl) rfl ?_
    refine OpsW.det (det_assign rfl) rfl ?_
    refine OpsW.det (det_assign rfl) rfl ?_
    refine sNext ?_
    refine W.keep (F' := [(20, _), (19, _), (25, _), (8, _), (22, _), (7, _), (6, _), (5, _), (23, _), (46, _), (45, _), (10, _), (11, _), (12, _), (13, _), (14, _), (15, _), (16, _), (4, _)]) ⟨rfl, rfl, rfl, rfl, rfl, rfl, rfl, rfl, rfl, rfl, rfl, rfl, rfl, rfl, rfl, rfl, rfl, rfl, rfl, trivial⟩ ?_
    refine sSeq ?_
    refine W.region ?_
    refine OpsW.det (det_move rfl) rfl ?_
    refine OpsW.det (det_move rfl) rfl ?_
    refine OpsW.add64 (e := 0) rfl rfl rfl (by first | assumption | exact lim_lt _ _ | decide) (by first | assumption | exact lim_lt _ _ | decide) (by first | assumption | decide) rfl fun s277 c277 he277 hs277 hk277 => ?_
    refine OpsW.det (det_move rfl) rfl ?_
    refine OpsW.det (det_extract rfl rfl) rfl ?_
    refine OpsW.det (det_extract rfl rfl) rfl ?_
    refine OpsW.det (det_assign rfl) rfl ?_
    refine OpsW.det (det_assign rfl) rfl ?_
    refine sNext ?_
    refine W.keep (F' := [(21, _), (20, _), (19, _), (25, _), (8, _), (7, _), (6, _), (5, _), (23, _), (46, _), (45, _), (10, _), (11, _), (12, _), (13, _), (14, _), (15, _), (16, _), (4, _)]) ⟨rfl, rfl, rfl, rfl, rfl, rfl, rfl, rfl, rfl, rfl, rfl, rfl, rfl, rfl, rfl, rfl, rfl, rfl, rfl, trivial⟩ ?_
    refine sSeq ?_
    refine W.region ?_
    refine OpsW.det (det_move rfl) rfl ?_
    refine OpsW.det (det_move rfl) rfl ?_
    refine OpsW.addw rfl rfl (hi_lt hk271 hk277) rfl fun s282 he282 => ?_
    refine OpsW.det (det_assign rfl) rfl ?_
    refine sNext ?_
    refine W.keep (F' := [(19, _), (20, _), (25, _), (8, _), (7, _), (6, _), (5, _), (23, _), (46, _), (45, _), (10, _), (11, _), (12, _), (13, _), (14, _), (15, _), (16, _), (4, _)]) ⟨rfl, rfl, rfl, rfl, rfl, rfl, rfl, rfl, rfl, rfl, rfl, rfl, rfl, rfl, rfl, rfl, rfl, rfl, trivial⟩ ?_
    refine sSeq ?_
    refine W.region ?_
    refine OpsW.det (det_move rfl) rfl ?_
    refine OpsW.det (det_move rfl) rfl ?_
    refine OpsW.add64 (e := 0) rfl rfl rfl (by first | assumption | exact lim_lt _ _ | decide) (by first | assumption | exact lim_lt _ _ | decide) (by first | assumption | decide) rfl fun s286 c286 he286 hs286 hk286 => ?_
    refine OpsW.det (det_move rfl) rfl ?_
    refine OpsW.det (det_extract rfl rfl) rfl ?_
    refine OpsW.det (det_extract rfl rfl) rfl ?_
    refine OpsW.det (det_assign rfl) rfl ?_
    refine OpsW.det (det_assign rfl) rfl ?_
    refine sNext ?_
    refine W.keep (F' := [(21, _), (20, _), (19, _), (25, _), (8, _), (7, _), (6, _), (5, _), (23, _), (46, _), (45, _), (11, _), (12, _), (13, _), (14, _), (15, _), (16, _), (4, _)]) ⟨rfl, rfl, rfl, rfl, rfl, rfl, rfl, rfl, rfl, rfl, rfl, rfl, rfl, rfl, rfl, rfl, rfl, rfl, trivial⟩ ?_
    refine sSeq ?_
    refine W.region ?_
    refine OpsW.det (det_move rfl) rfl ?_
    refine OpsW.det (det_move rfl) rfl ?_
    refine OpsW.addw rfl rfl (col_lt (lim_lt _ _) hy hG4 ht5 he271 he277 he282 he286) rfl fun s291 he291 => ?_
    have E5 := col he271 he277 he282 he286 he291
    have hG5 : s291 < 18446744073709551616 := by rw [he291]; exact col_lt (lim_lt _ _) hy hG4 ht5 he271 he277 he282 he286
    clear he271 he277 he282 he286 he291
    refine OpsW.det (det_assign rfl) rfl ?_
    refine sNext ?_
    refine W.keep (F' := [(22, _), (20, _), (25, _), (8, _), (7, _), (6, _), (5, _), (23, _), (46, _), (45, _), (11, _), (12, _), (13, _), (14, _), (15, _), (16, _), (4, _)]) ⟨rfl, rfl, rfl, rfl, rfl, rfl, rfl, rfl, rfl, rfl, rfl, rfl, rfl, rfl, rfl, rfl, rfl, trivial⟩ ?_
    refine sSeq ?_
    refine W.region ?_
    refine OpsW.det (det_move rfl) rfl ?_
    refine OpsW.mul64 (b := 1873798617647539866) rfl rfl (by first | assumption | exact lim_lt _ _ | decide) (by first | assumption | exact lim_lt _ _ | decide) rfl fun hi294 lo294 he294 hs294 hk294 => ?_
    refine OpsW.det (det_move rfl) rfl ?_
    refine OpsW.det (det_extract rfl rfl) rfl ?_
    refine OpsW.det (det_extract rfl rfl) rfl ?_
    refine OpsW.det (det_assign rfl) rfl ?_
    refine OpsW.det (det_assign rfl) rfl ?_
    refine sNext ?_
    refine W.keep (F' := [(24, _), (19, _), (22, _), (20, _), (25, _), (8, _), (7, _), (6, _), (5, _), (46, _), (45, _), (11, _), (12, _), (13, _), (14, _), (15, _), (16, _), (4, _)]) ⟨rfl, rfl, rfl, rfl, rfl, rfl, rfl, rfl, rfl, rfl, rfl, rfl, rfl, rfl, rfl, rfl, rfl, rfl, trivial⟩ ?_
    refine sSeq ?_
    refine W.region ?_
    refine OpsW.det (det_move rfl) rfl ?_
    refine OpsW.det (det_move rfl) rfl ?_
    refine OpsW.add64 (e := 0) rfl rfl rfl (by first | assumption | exact lim_lt _ _ | decide) (by first | assumption | exact lim_lt _ _ | decide) (by first | assumption | decide) rfl fun s300 c300 he300 hs300 hk300 => ?_
    refine OpsW.det (det_move rfl) rfl ?_
    refine OpsW.det (det_extract rfl rfl) rfl ?_
    refine OpsW.det (det_extract rfl rfl) rfl ?_
    refine OpsW.det (det_assign rfl) rfl ?_
    refine OpsW.det (det_assign rfl) rfl ?_
    refine sNext ?_
    refine W.keep (F' := [(21, _), (24, _), (19, _), (22, _), (20, _), (8, _), (7, _), (6, _), (5, _), (46, _), (45, _), (11, _), (12, _), (13, _), (14, _), (15, _), (16, _), (4, _)]) ⟨rfl, rfl, rfl, rfl, rfl, rfl, rfl, rfl, rfl, rfl, rfl, rfl, rfl, rfl, rfl, rfl, rfl, rfl, trivial⟩ ?_
    refine sSeq ?_
    refine W.region ?_
    refine OpsW.det (det_move rfl) rfl ?_
    refine OpsW.det (det_move rfl) rfl ?_
    refine OpsW.addw rfl rfl (hi_lt hk294 hk300) rfl fun s305 he305 => ?_
    refine OpsW.det (det_assign rfl) rfl ?_
    refine sNext ?_
    refine W.keep (F' := [(19, _), (24, _), (22, _), (20, _), (8, _), (7, _), (6, _), (5, _), (46, _), (45, _), (11, _), (12, _), (13, _), (14, _), (15, _), (16, _), (4, _)]) ⟨rfl, rfl, rfl, rfl, rfl, rfl, rfl, rfl, rfl, rfl, rfl, rfl, rfl, rfl, rfl, rfl, rfl, trivial⟩ ?_
    refine sSeq ?_
    refine W.region ?_
    refine OpsW.det (det_move rfl) rfl ?_
    refine OpsW.det (det_move rfl) rfl ?_
    refine OpsW.add64 (e := 0) rfl rfl rfl (by first | assumption | exact lim_lt _ _ | decide) (by first | assumption | exact lim_lt _ _ | decide) (by first | assumption | decide) rfl fun s309 c309 he309 hs309 hk309 => ?_
    refine OpsW.det (det_move rfl) rfl ?_
    refine OpsW.det (det_extract rfl rfl) rfl ?_
    refine OpsW.det (det_extract rfl rfl) rfl ?_
    refine OpsW.det (det_assign rfl) rfl ?_
    refine OpsW.det (det_assign rfl) rfl ?_
    refine sNext ?_
    refine W.keep (F' := [(21, _), (9, _), (19, _), (22, _), (8, _), (7, _), (6, _), (5, _), (46, _), (45, _), (11, _), (12, _), (13, _), (14, _), (15, _), (16, _), (4, _)]) ⟨rfl, rfl, rfl, rfl, rfl, rfl, rfl, rfl, rfl, rfl, rfl, rfl, rfl, rfl, rfl, rfl, rfl, trivial⟩ ?_
    refine sSeq ?_
    refine W.region ?_
    refine OpsW.det (det_move rfl) rfl ?_
    refine OpsW.det (det_move rfl) rfl ?_
    refine OpsW.addw rfl rfl (col_lt hs65 (by decide) hF4 hs286 he294 he300 he305 he309) rfl fun s314 he314 => ?_
    have F5 := col he294 he300 he305 he309 he314
    have hF5 : s314 < 18446744073709551616 := by rw [he314]; exact col_lt hs65 (by decide) hF4 hs286 he294 he300 he305 he309
    clear he294 he300 he305 he309 he314
    refine OpsW.det (det_assign rfl) rfl ?_
    refine sNext ?_
    refine W.keep (F' := [(25, _), (9, _), (22, _), (8, _), (7, _), (6, _), (5, _), (46, _), (45, _), (11, _), (12, _), (13, _), (14, _), (15, _), (16, _), (4, _)]) ⟨rfl, rfl, rfl, rfl, rfl, rfl, rfl, rfl, rfl, rfl, rfl, rfl, rfl, rfl, rfl, rfl, trivial⟩ ?_
    refine W.region ?_
    refine OpsW.det (det_move rfl) rfl ?_
    refine OpsW.det (det_move rfl) rfl ?_
    refine OpsW.addw rfl rfl (top_pp E0 E1 E2 E3 E4 E5 F0 F1 F2 F3 F4 F5 hT hXv hy hs65) rfl fun s317 he317 => ?_
    have hl317 : s317 < 18446744073709551616 := by rw [he317]; exact (top_pp E0 E1 E2 E3 E4 E5 F0 F1 F2 F3 F4 F5 hT hXv hy hs65)
    refine OpsW.det (det_assign rfl) rfl ?_
    refine sLast ?_
    refine bNext ?_
    refine W.keep (F' := [(10, _), (9, _), (8, _), (7, _), (6, _), (5, _), (46, _), (45, _), (11, _), (12, _), (13, _), (14, _), (15, _), (16, _), (4, _)]) ⟨rfl, rfl, rfl, rfl, rfl, rfl, rfl, rfl, rfl, rfl, rfl, rfl, rfl, rfl, rfl, trivial⟩ ?_
    refine W.region ?_
    refine OpsW.det (det_addN (b := 1) rfl rfl (idx_ok hlt (by decide))) rfl ?_
    refine OpsW.det (det_move rfl) rfl ?_
    refine sLast ?_
    have hS := sum_pp E0 E1 E2 E3 E4 E5 F0 F1 F2 F3 F4 F5 he317
    rw [val_lim6 (m := X) (Nat.lt_trans hX (by decide))] at hS
    exact rEnd (i + 1, s121, s168, s215, s262, s309, s317) ⟨hlt, hs121, hs168, hs215, hs262, hs309, hl317, _, inv_lt hM hs65, inv_step hI hS⟩ ⟨rfl, rfl, rfl, rfl, rfl, rfl, rfl, rfl, rfl, rfl, rfl, rfl, rfl, rfl, rfl, trivial⟩ (List.Sublist.refl _) (step_lt hlt)
  · skip
    have hi6 : i = 6 := by simp only [decide_eq_false_iff_not] at hc47; omega
    subst hi6
    have hE := end_pp hI hY
    refine sExit ?_
    refine xLoop ?_
    refine xHere ?_
    refine W.keep (F' := [(5, _), (6, _), (7, _), (8, _), (9, _), (10, _), (4, _)]) ⟨rfl, rfl, rfl, rfl, rfl, rfl, rfl, trivial⟩ ?_
    refine sSeq ?_
    refine W.region ?_
    refine OpsW.det (det_move rfl) rfl ?_
    refine OpsW.det (det_move rfl) rfl ?_
    refine OpsW.det (det_move rfl) rfl ?_
    refine OpsW.det (det_move rfl) rfl ?_
    refine OpsW.det (det_move rfl) rfl ?_
    refine OpsW.det (det_move rfl) rfl ?_
    refine OpsW.det (det_build rfl bld26) rfl ?_
    refine OpsW.det (det_call en73 rfl (fun w hb ho => reduce_ok ht0 ht1 ht2 ht3 ht4 ht5 hT ho.blocks)) rfl ?_
    refine OpsW.det (det_build rfl bld28) rfl ?_
    refine OpsW.store sz28 rfl rfl rfl rfl rfl (Upd.here) rfl ?_
    refine sNext ?_
    refine W.keep (F' := [(4, _)]) ⟨rfl, trivial⟩ ?_
    refine sRet ?_
    exact done1 Tryd.results57 (rv_cellA ty28 rfl (List.Mem.head _) rfl) (congrArg enc6 hE)

end Go.Cu
