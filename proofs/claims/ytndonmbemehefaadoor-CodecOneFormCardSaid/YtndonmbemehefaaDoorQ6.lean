/-
  Part 6 of the joined texts of the curves' laws: Abelian groups and multiples; points by three coordinates, and their sums.
  Conditions: those that each theorem states.
-/
import Derived.Test.YtndonmbemehefaaDoorQ5
import Derived.Test.YtndonmbemehefaaDoorQ4
import Derived.Test.YtndonmbemehefaaDoorQ2
/- Abelian groups and multiples; points by three coordinates, and their sums. -/
namespace Go.Ec
open Go.Cu
open CR
set_option linter.unusedVariables false
set_option linter.unusedSimpArgs false
set_option linter.unusedSectionVars false
set_option linter.constructorNameAsVariable false

class AG (γ : Type) extends Add γ, Neg γ, Zero γ where
  acomm : ∀ a b : γ, a + b = b + a
  aassoc : ∀ a b c : γ, a + b + c = a + (b + c)
  zero_a : ∀ a : γ, 0 + a = a
  neg_a : ∀ a : γ, -a + a = 0
section
variable {γ : Type} [AG γ]
open AG
theorem a_zero (a : γ) : a + 0 = a := by rw [acomm, zero_a]
theorem a_neg (a : γ) : a + -a = 0 := by rw [acomm, neg_a]
theorem a_cancel {a b c : γ} (h : a + b = a + c) : b = c := by
  have := congrArg (-a + ·) h
  simpa only [← aassoc, neg_a, zero_a] using this
theorem a_neg_neg (a : γ) : - -a = a := a_cancel (a := -a) (by rw [a_neg, neg_a])
theorem a_neg_zero : -(0 : γ) = 0 := by have := neg_a (0 : γ); rwa [a_zero] at this
theorem a_neg_eq {a b : γ} (h : a + b = 0) : b = -a := a_cancel (a := a) (by rw [h, a_neg])
theorem a_four (a b c d : γ) : a + b + (c + d) = a + c + (b + d) := by
  rw [aassoc, ← aassoc b, acomm b c, aassoc c, ← aassoc]
theorem a_neg_add (a b : γ) : -(a + b) = -a + -b := (a_neg_eq (by rw [a_four, a_neg, a_neg, zero_a])).symm
def nmul : Nat → γ → γ
  | 0, _ => 0
  | n + 1, x => nmul n x + x
theorem nmul_add (a : Nat) (x : γ) : ∀ b, nmul (a + b) x = nmul a x + nmul b x
  | 0 => by rw [Nat.add_zero, nmul, a_zero]
  | b + 1 => by rw [← Nat.add_assoc, nmul, nmul_add a x b, nmul, aassoc]
theorem nmul_one (x : γ) : nmul 1 x = x := zero_a x
theorem nmul_zero : ∀ n, nmul n (0 : γ) = 0
  | 0 => rfl
  | n + 1 => by rw [nmul, nmul_zero n, zero_a]
theorem nmul_mul (a : Nat) (x : γ) : ∀ b, nmul (a * b) x = nmul b (nmul a x)
  | 0 => rfl
  | b + 1 => by rw [Nat.mul_succ, nmul_add, nmul_mul a x b, nmul]
theorem nmul_dist (x y : γ) : ∀ n, nmul n (x + y) = nmul n x + nmul n y
  | 0 => (zero_a 0).symm
  | n + 1 => by rw [nmul, nmul_dist x y n, nmul, nmul, a_four]
theorem nmul_neg (x : γ) : ∀ n, nmul n (-x) = -nmul n x
  | 0 => a_neg_zero.symm
  | n + 1 => by rw [nmul, nmul_neg x n, nmul, a_neg_add]
theorem nmul_two (x : γ) : nmul 2 x = x + x := by rw [nmul, nmul_one]
theorem nmul_comm (a b : Nat) (x : γ) : nmul a (nmul b x) = nmul b (nmul a x) := by rw [← nmul_mul, ← nmul_mul, Nat.mul_comm]
theorem nmul_mod {r : Nat} {x : γ} (h : nmul r x = 0) (a : Nat) : nmul (a % r) x = nmul a x := by
  conv => rhs; rw [← Nat.div_add_mod a r]
  rw [nmul_add, nmul_mul, h, nmul_zero, zero_a]
end

section
variable {α : Type} [Fld α] [DecidableEq α]
/-- The points of the curve. -/
def Gp (B : α) : Type := { p : α × α // On B p }
theorem Gp.ext {B : α} {p q : Gp B} (h : p.1 = q.1) : p = q := Subtype.ext h
instance {B : α} [Gd B] : AG (Gp B) where
  add p q := ⟨cadd p.1 q.1, p.2.cadd q.2⟩
  neg p := ⟨cneg p.1, p.2.cneg⟩
  zero := ⟨(0, 0), .inl rfl⟩
  acomm p q := Gp.ext (cadd_comm p.2 q.2)
  aassoc p q r := Gp.ext (cadd_assoc p.2 q.2 r.2)
  zero_a p := Gp.ext (zero_cadd p.1)
  neg_a p := Gp.ext ((cadd_comm p.2.cneg p.2).trans (cadd_cneg p.2))

abbrev J3 (α : Type) := α × α × α
def gtoj (p : α × α) : J3 α := if p = (0, 0) then (0, 0, 0) else (p.1, p.2, 1)
def gdbl (p : J3 α) : J3 α :=
  if p.2.2 = 0 then (0, 0, 0) else if p.2.1 = 0 then (0, 0, 0) else
    let a := p.1 * p.1
    let b := p.2.1 * p.2.1
    let c := b * b
    let d0 := (p.1 + b) * (p.1 + b) - a - c
    let d := d0 + d0
    let e := a + a + a
    let f := e * e - d - d
    let c4 := (c + c) + (c + c)
    (f, e * (d - f) - c4 - c4, p.2.1 * p.2.2 + p.2.1 * p.2.2)
def gaddH (p : J3 α) (q : α × α) : α := q.1 * (p.2.2 * p.2.2) - p.1
def gaddR (p : J3 α) (q : α × α) : α := q.2 * p.2.2 * (p.2.2 * p.2.2) - p.2.1
def gaddN (p : J3 α) (q : α × α) : J3 α :=
  let zz := p.2.2 * p.2.2
  let h := gaddH p q
  let r := gaddR p q + gaddR p q
  let hh := h * h
  let i := (hh + hh) + (hh + hh)
  let j := h * i
  let v := p.1 * i
  let x := r * r - j - v - v
  let yj := p.2.1 * j
  (x, r * (v - x) - yj - yj, (p.2.2 + h) * (p.2.2 + h) - zz - hh)
def gadd (p : J3 α) (q : α × α) : J3 α :=
  if q = (0, 0) then p else if p.2.2 = 0 then gtoj q else if gaddH p q = 0 then (if gaddR p q = 0 then gdbl p else (0, 0, 0)) else gaddN p q
def gpt (p : J3 α) : α × α := if p.2.2 = 0 then (0, 0) else
  let i := Fld.finv p.2.2
  let i2 := i * i
  (p.1 * i2, p.2.1 * i2 * i)
/-- The coordinates are those of the one at infinity, or of a point of the curve. -/
def JOk (B : α) (j : J3 α) : Prop := j.2.2 = 0 ∨ Aff B (gpt j)
variable {B : α} [hG : Gd B]
theorem JOk.on {j : J3 α} (h : JOk B j) : On B (gpt j) := by
  rcases h with h | h
  · exact .inl (if_pos h)
  · exact .inr h
theorem finv_one : Fld.finv (1 : α) = 1 := by have := Fld.mul_finv (1 : α) Fld.one_ne; rwa [one_mul] at this
theorem finv_ne {a : α} (h : a ≠ 0) : Fld.finv a ≠ 0 := fun e => Fld.one_ne (α := α) (by rw [← Fld.mul_finv a h, e, mul_zero'])
theorem Fld.cancel {a b c : α} (ha : a ≠ 0) (h : a * b = a * c) : b = c := by
  apply Classical.byContradiction
  intro hne
  refine Fld.mul_ne ha (b := b - c) (fun e => hne (eq_of_sub e)) ?_
  rw [sub_eq, mul_add, mul_comm a (-c), neg_mul', mul_comm c, h, add_neg]
theorem gpt_toj {p : α × α} : gpt (gtoj p) = p := by
  unfold gtoj
  split
  · rename_i h; rw [h]; exact if_pos rfl
  · unfold gpt
    rw [if_neg (Fld.one_ne (α := α))]
    simp only [finv_one, one_mul, mul_one']
theorem JOk.toj {p : α × α} (h : On B p) : JOk B (gtoj p) := by
  rcases h with rfl | h
  · exact .inl (by unfold gtoj; rw [if_pos rfl])
  · exact .inr (by rw [gpt_toj]; exact h)
theorem third_at {l l' : α} {p q : α × α} {u : α × α} (h : l = l') (h2 : third l' p q = u) : third l p q = u := by rw [h, h2]
theorem dbl_pure {x y z i w : α} (hz : z * i = 1) (hw : (y * z + y * z) * w = 1) : i = (y + y) * w :=
  (eq_of_sub (Eq.trans (show (i - ((y + y) * w)) = (((-i) * ((((y * z) + (y * z)) * w) - 1)) + (((y + y) * w) * ((z * i) - 1))) from ring_id (fun vi_ => vget vi_ [y, z, i, w]) (.sub (.var 2) (.mul (.add (.var 0) (.var 0)) (.var 3))) (.add (.mul (.neg (.var 2)) (.sub (.mul (.add (.mul (.var 0) (.var 1)) (.mul (.var 0) (.var 1))) (.var 3)) .one)) (.mul (.mul (.add (.var 0) (.var 0)) (.var 3)) (.sub (.mul (.var 1) (.var 2)) .one))) (by kernel_rfl)) (lz2 (lz hw) (lz hz))))
theorem gdbl_ok {j : J3 α} (hj : JOk B j) : gpt (gdbl j) = cadd (gpt j) (gpt j) ∧ JOk B (gdbl j) := by
  obtain ⟨x, y, z⟩ := j
  by_cases hz : z = 0
  · have e1 : gdbl (x, y, z) = (0, 0, 0) := if_pos hz
    have e2 : gpt (x, y, z) = (0, 0) := if_pos hz
    rw [e1, e2, zero_cadd]
    exact ⟨if_pos rfl, .inl rfl⟩
  have e2 : gpt (x, y, z) = (x * (Fld.finv z * Fld.finv z), y * (Fld.finv z * Fld.finv z) * Fld.finv z) := if_neg hz
  by_cases hy : y = 0
  · have e1 : gdbl (x, y, z) = (0, 0, 0) := (if_neg hz).trans (if_pos hy)
    rw [e1]
    refine ⟨?_, .inl rfl⟩
    rw [show gpt ((0, 0, 0) : J3 α) = (0, 0) from if_pos rfl, e2]
    subst hy
    by_cases h0 : (x * (Fld.finv z * Fld.finv z), (0 : α) * (Fld.finv z * Fld.finv z) * Fld.finv z) = (0, 0)
    · rw [h0, zero_cadd]
    · unfold cadd
      rw [if_neg h0, if_neg h0, if_pos ⟨rfl, (show (((0 * ((Fld.finv z) * (Fld.finv z))) * (Fld.finv z)) + ((0 * ((Fld.finv z) * (Fld.finv z))) * (Fld.finv z))) = 0 from ring_id (fun vi_ => vget vi_ [Fld.finv z]) (.add (.mul (.mul .zero (.mul (.var 0) (.var 0))) (.var 0)) (.mul (.mul .zero (.mul (.var 0) (.var 0))) (.var 0))) .zero (by kernel_rfl))⟩]
  have haff : Aff B (gpt (x, y, z)) := hj.resolve_left hz
  have hi := Fld.mul_finv z hz
  have hyy : y * (Fld.finv z * Fld.finv z) * Fld.finv z ≠ 0 := Fld.mul_ne (Fld.mul_ne hy (Fld.mul_ne (finv_ne hz) (finv_ne hz))) (finv_ne hz)
  have hz3 : y * z + y * z ≠ 0 := half B (Fld.mul_ne hy hz)
  have hw := Fld.mul_finv _ hz3
  rw [e2] at haff
  generalize hie : Fld.finv z = i at *
  have hne := haff.ne
  have hnn : ¬ ((x * (i * i), y * (i * i) * i).1 = (x * (i * i), y * (i * i) * i).1 ∧ (x * (i * i), y * (i * i) * i).2 + (x * (i * i), y * (i * i) * i).2 = 0) := fun h => half B hyy h.2
  have hl := slope_ok haff haff hnn
  have e3 : cadd (x * (i * i), y * (i * i) * i) (x * (i * i), y * (i * i) * i) = third (slope (x * (i * i), y * (i * i) * i) (x * (i * i), y * (i * i) * i)) (x * (i * i), y * (i * i) * i) (x * (i * i), y * (i * i) * i) := by
    unfold cadd; rw [if_neg hne, if_neg hne, if_neg hnn]
  have h3a := third_aff haff hl
  have T := hl.tan
  generalize slope (x * (i * i), y * (i * i) * i) (x * (i * i), y * (i * i) * i) = l at *
  have e1 : gdbl (x, y, z) = ((x * x + x * x + x * x) * (x * x + x * x + x * x) - ((x + y * y) * (x + y * y) - x * x - y * y * (y * y) + ((x + y * y) * (x + y * y) - x * x - y * y * (y * y))) - ((x + y * y) * (x + y * y) - x * x - y * y * (y * y) + ((x + y * y) * (x + y * y) - x * x - y * y * (y * y))),
      (x * x + x * x + x * x) * (((x + y * y) * (x + y * y) - x * x - y * y * (y * y) + ((x + y * y) * (x + y * y) - x * x - y * y * (y * y))) - ((x * x + x * x + x * x) * (x * x + x * x + x * x) - ((x + y * y) * (x + y * y) - x * x - y * y * (y * y) + ((x + y * y) * (x + y * y) - x * x - y * y * (y * y))) - ((x + y * y) * (x + y * y) - x * x - y * y * (y * y) + ((x + y * y) * (x + y * y) - x * x - y * y * (y * y))))) - (y * y * (y * y) + y * y * (y * y) + (y * y * (y * y) + y * y * (y * y))) - (y * y * (y * y) + y * y * (y * y) + (y * y * (y * y) + y * y * (y * y))),
      y * z + y * z) := (if_neg hz).trans (if_neg hy)
  have e4 := dbl_pure (x := x) hi hw
  have hle : l = (x * x + x * x + x * x) * Fld.finv (y * z + y * z) := by
    have hyy' := half B hyy
    refine Fld.cancel hyy' ?_
    have T : x * (i * i) * (x * (i * i)) + x * (i * i) * (x * (i * i)) + x * (i * i) * (x * (i * i)) = l * (y * (i * i) * i + y * (i * i) * i + l * (x * (i * i) - x * (i * i))) := T
    generalize Fld.finv (y * z + y * z) = w at *
    exact (eq_of_sub (Eq.trans (show (((((y * (i * i)) * i) + ((y * (i * i)) * i)) * l) - ((((y * (i * i)) * i) + ((y * (i * i)) * i)) * ((((x * x) + (x * x)) + (x * x)) * w))) = (((-1) * (((((x * (i * i)) * (x * (i * i))) + ((x * (i * i)) * (x * (i * i)))) + ((x * (i * i)) * (x * (i * i)))) - (l * ((((y * (i * i)) * i) + ((y * (i * i)) * i)) + (l * ((x * (i * i)) - (x * (i * i)))))))) + (((((((x * x) + (x * x)) + (x * x)) * i) * i) * i) * (i - ((y + y) * w)))) from ring_id (fun vi_ => vget vi_ [x, y, i, w, l]) (.sub (.mul (.add (.mul (.mul (.var 1) (.mul (.var 2) (.var 2))) (.var 2)) (.mul (.mul (.var 1) (.mul (.var 2) (.var 2))) (.var 2))) (.var 4)) (.mul (.add (.mul (.mul (.var 1) (.mul (.var 2) (.var 2))) (.var 2)) (.mul (.mul (.var 1) (.mul (.var 2) (.var 2))) (.var 2))) (.mul (.add (.add (.mul (.var 0) (.var 0)) (.mul (.var 0) (.var 0))) (.mul (.var 0) (.var 0))) (.var 3)))) (.add (.mul (.neg .one) (.sub (.add (.add (.mul (.mul (.var 0) (.mul (.var 2) (.var 2))) (.mul (.var 0) (.mul (.var 2) (.var 2)))) (.mul (.mul (.var 0) (.mul (.var 2) (.var 2))) (.mul (.var 0) (.mul (.var 2) (.var 2))))) (.mul (.mul (.var 0) (.mul (.var 2) (.var 2))) (.mul (.var 0) (.mul (.var 2) (.var 2))))) (.mul (.var 4) (.add (.add (.mul (.mul (.var 1) (.mul (.var 2) (.var 2))) (.var 2)) (.mul (.mul (.var 1) (.mul (.var 2) (.var 2))) (.var 2))) (.mul (.var 4) (.sub (.mul (.var 0) (.mul (.var 2) (.var 2))) (.mul (.var 0) (.mul (.var 2) (.var 2))))))))) (.mul (.mul (.mul (.mul (.add (.add (.mul (.var 0) (.var 0)) (.mul (.var 0) (.var 0))) (.mul (.var 0) (.var 0))) (.var 2)) (.var 2)) (.var 2)) (.sub (.var 2) (.mul (.add (.var 1) (.var 1)) (.var 3))))) (by kernel_rfl)) (lz2 (lz T) (lz e4))))
  have e5 : gpt (gdbl (x, y, z)) = third l (x * (i * i), y * (i * i) * i) (x * (i * i), y * (i * i) * i) := by
    rw [e1]
    unfold gpt third
    rw [if_neg hz3]
    generalize Fld.finv (y * z + y * z) = w at *
    rw [hle, e4]
    refine Prod.ext ?_ ?_
    · exact (show (((((((x * x) + (x * x)) + (x * x)) * (((x * x) + (x * x)) + (x * x))) - (((((x + (y * y)) * (x + (y * y))) - (x * x)) - ((y * y) * (y * y))) + ((((x + (y * y)) * (x + (y * y))) - (x * x)) - ((y * y) * (y * y))))) - (((((x + (y * y)) * (x + (y * y))) - (x * x)) - ((y * y) * (y * y))) + ((((x + (y * y)) * (x + (y * y))) - (x * x)) - ((y * y) * (y * y))))) * (w * w)) = (((((((x * x) + (x * x)) + (x * x)) * w) * ((((x * x) + (x * x)) + (x * x)) * w)) - (x * (((y + y) * w) * ((y + y) * w)))) - (x * (((y + y) * w) * ((y + y) * w)))) from ring_id (fun vi_ => vget vi_ [x, y, w]) (.mul (.sub (.sub (.mul (.add (.add (.mul (.var 0) (.var 0)) (.mul (.var 0) (.var 0))) (.mul (.var 0) (.var 0))) (.add (.add (.mul (.var 0) (.var 0)) (.mul (.var 0) (.var 0))) (.mul (.var 0) (.var 0)))) (.add (.sub (.sub (.mul (.add (.var 0) (.mul (.var 1) (.var 1))) (.add (.var 0) (.mul (.var 1) (.var 1)))) (.mul (.var 0) (.var 0))) (.mul (.mul (.var 1) (.var 1)) (.mul (.var 1) (.var 1)))) (.sub (.sub (.mul (.add (.var 0) (.mul (.var 1) (.var 1))) (.add (.var 0) (.mul (.var 1) (.var 1)))) (.mul (.var 0) (.var 0))) (.mul (.mul (.var 1) (.var 1)) (.mul (.var 1) (.var 1)))))) (.add (.sub (.sub (.mul (.add (.var 0) (.mul (.var 1) (.var 1))) (.add (.var 0) (.mul (.var 1) (.var 1)))) (.mul (.var 0) (.var 0))) (.mul (.mul (.var 1) (.var 1)) (.mul (.var 1) (.var 1)))) (.sub (.sub (.mul (.add (.var 0) (.mul (.var 1) (.var 1))) (.add (.var 0) (.mul (.var 1) (.var 1)))) (.mul (.var 0) (.var 0))) (.mul (.mul (.var 1) (.var 1)) (.mul (.var 1) (.var 1)))))) (.mul (.var 2) (.var 2))) (.sub (.sub (.mul (.mul (.add (.add (.mul (.var 0) (.var 0)) (.mul (.var 0) (.var 0))) (.mul (.var 0) (.var 0))) (.var 2)) (.mul (.add (.add (.mul (.var 0) (.var 0)) (.mul (.var 0) (.var 0))) (.mul (.var 0) (.var 0))) (.var 2))) (.mul (.var 0) (.mul (.mul (.add (.var 1) (.var 1)) (.var 2)) (.mul (.add (.var 1) (.var 1)) (.var 2))))) (.mul (.var 0) (.mul (.mul (.add (.var 1) (.var 1)) (.var 2)) (.mul (.add (.var 1) (.var 1)) (.var 2))))) (by kernel_rfl))
    · exact (show ((((((((x * x) + (x * x)) + (x * x)) * ((((((x + (y * y)) * (x + (y * y))) - (x * x)) - ((y * y) * (y * y))) + ((((x + (y * y)) * (x + (y * y))) - (x * x)) - ((y * y) * (y * y)))) - ((((((x * x) + (x * x)) + (x * x)) * (((x * x) + (x * x)) + (x * x))) - (((((x + (y * y)) * (x + (y * y))) - (x * x)) - ((y * y) * (y * y))) + ((((x + (y * y)) * (x + (y * y))) - (x * x)) - ((y * y) * (y * y))))) - (((((x + (y * y)) * (x + (y * y))) - (x * x)) - ((y * y) * (y * y))) + ((((x + (y * y)) * (x + (y * y))) - (x * x)) - ((y * y) * (y * y))))))) - ((((y * y) * (y * y)) + ((y * y) * (y * y))) + (((y * y) * (y * y)) + ((y * y) * (y * y))))) - ((((y * y) * (y * y)) + ((y * y) * (y * y))) + (((y * y) * (y * y)) + ((y * y) * (y * y))))) * (w * w)) * w) = ((((((x * x) + (x * x)) + (x * x)) * w) * ((x * (((y + y) * w) * ((y + y) * w))) - (((((((x * x) + (x * x)) + (x * x)) * w) * ((((x * x) + (x * x)) + (x * x)) * w)) - (x * (((y + y) * w) * ((y + y) * w)))) - (x * (((y + y) * w) * ((y + y) * w)))))) - ((y * (((y + y) * w) * ((y + y) * w))) * ((y + y) * w))) from ring_id (fun vi_ => vget vi_ [x, y, w]) (.mul (.mul (.sub (.sub (.mul (.add (.add (.mul (.var 0) (.var 0)) (.mul (.var 0) (.var 0))) (.mul (.var 0) (.var 0))) (.sub (.add (.sub (.sub (.mul (.add (.var 0) (.mul (.var 1) (.var 1))) (.add (.var 0) (.mul (.var 1) (.var 1)))) (.mul (.var 0) (.var 0))) (.mul (.mul (.var 1) (.var 1)) (.mul (.var 1) (.var 1)))) (.sub (.sub (.mul (.add (.var 0) (.mul (.var 1) (.var 1))) (.add (.var 0) (.mul (.var 1) (.var 1)))) (.mul (.var 0) (.var 0))) (.mul (.mul (.var 1) (.var 1)) (.mul (.var 1) (.var 1))))) (.sub (.sub (.mul (.add (.add (.mul (.var 0) (.var 0)) (.mul (.var 0) (.var 0))) (.mul (.var 0) (.var 0))) (.add (.add (.mul (.var 0) (.var 0)) (.mul (.var 0) (.var 0))) (.mul (.var 0) (.var 0)))) (.add (.sub (.sub (.mul (.add (.var 0) (.mul (.var 1) (.var 1))) (.add (.var 0) (.mul (.var 1) (.var 1)))) (.mul (.var 0) (.var 0))) (.mul (.mul (.var 1) (.var 1)) (.mul (.var 1) (.var 1)))) (.sub (.sub (.mul (.add (.var 0) (.mul (.var 1) (.var 1))) (.add (.var 0) (.mul (.var 1) (.var 1)))) (.mul (.var 0) (.var 0))) (.mul (.mul (.var 1) (.var 1)) (.mul (.var 1) (.var 1)))))) (.add (.sub (.sub (.mul (.add (.var 0) (.mul (.var 1) (.var 1))) (.add (.var 0) (.mul (.var 1) (.var 1)))) (.mul (.var 0) (.var 0))) (.mul (.mul (.var 1) (.var 1)) (.mul (.var 1) (.var 1)))) (.sub (.sub (.mul (.add (.var 0) (.mul (.var 1) (.var 1))) (.add (.var 0) (.mul (.var 1) (.var 1)))) (.mul (.var 0) (.var 0))) (.mul (.mul (.var 1) (.var 1)) (.mul (.var 1) (.var 1)))))))) (.add (.add (.mul (.mul (.var 1) (.var 1)) (.mul (.var 1) (.var 1))) (.mul (.mul (.var 1) (.var 1)) (.mul (.var 1) (.var 1)))) (.add (.mul (.mul (.var 1) (.var 1)) (.mul (.var 1) (.var 1))) (.mul (.mul (.var 1) (.var 1)) (.mul (.var 1) (.var 1)))))) (.add (.add (.mul (.mul (.var 1) (.var 1)) (.mul (.var 1) (.var 1))) (.mul (.mul (.var 1) (.var 1)) (.mul (.var 1) (.var 1)))) (.add (.mul (.mul (.var 1) (.var 1)) (.mul (.var 1) (.var 1))) (.mul (.mul (.var 1) (.var 1)) (.mul (.var 1) (.var 1)))))) (.mul (.var 2) (.var 2))) (.var 2)) (.sub (.mul (.mul (.add (.add (.mul (.var 0) (.var 0)) (.mul (.var 0) (.var 0))) (.mul (.var 0) (.var 0))) (.var 2)) (.sub (.mul (.var 0) (.mul (.mul (.add (.var 1) (.var 1)) (.var 2)) (.mul (.add (.var 1) (.var 1)) (.var 2)))) (.sub (.sub (.mul (.mul (.add (.add (.mul (.var 0) (.var 0)) (.mul (.var 0) (.var 0))) (.mul (.var 0) (.var 0))) (.var 2)) (.mul (.add (.add (.mul (.var 0) (.var 0)) (.mul (.var 0) (.var 0))) (.mul (.var 0) (.var 0))) (.var 2))) (.mul (.var 0) (.mul (.mul (.add (.var 1) (.var 1)) (.var 2)) (.mul (.add (.var 1) (.var 1)) (.var 2))))) (.mul (.var 0) (.mul (.mul (.add (.var 1) (.var 1)) (.var 2)) (.mul (.add (.var 1) (.var 1)) (.var 2))))))) (.mul (.mul (.var 1) (.mul (.mul (.add (.var 1) (.var 1)) (.var 2)) (.mul (.add (.var 1) (.var 1)) (.var 2)))) (.mul (.add (.var 1) (.var 1)) (.var 2)))) (by kernel_rfl))
  rw [e2, e3, e5]
  exact ⟨rfl, .inr (by rw [e5]; exact h3a)⟩
theorem gadd_ok {j : J3 α} {q : α × α} (hj : JOk B j) (hq : On B q) : gpt (gadd j q) = cadd (gpt j) q ∧ JOk B (gadd j q) := by
  obtain ⟨x, y, z⟩ := j
  by_cases hq0 : q = (0, 0)
  · have e1 : gadd (x, y, z) q = (x, y, z) := if_pos hq0
    rw [e1, hq0, cadd_zero]
    exact ⟨rfl, hj⟩
  by_cases hz : z = 0
  · have e1 : gadd (x, y, z) q = gtoj q := (if_neg hq0).trans (if_pos hz)
    rw [e1, show gpt (x, y, z) = (0, 0) from if_pos hz, zero_cadd, gpt_toj]
    exact ⟨rfl, JOk.toj hq⟩
  have hqa : Aff B q := hq.resolve_left hq0
  have hpa : Aff B (gpt (x, y, z)) := hj.resolve_left hz
  have e2 : gpt (x, y, z) = (x * (Fld.finv z * Fld.finv z), y * (Fld.finv z * Fld.finv z) * Fld.finv z) := if_neg hz
  have hi := Fld.mul_finv z hz
  have hin := finv_ne hz
  obtain ⟨q1, q2⟩ := q
  have hH : gaddH (x, y, z) (q1, q2) = q1 * (z * z) - x := rfl
  have hR : gaddR (x, y, z) (q1, q2) = q2 * z * (z * z) - y := rfl
  have hunf : gadd (x, y, z) (q1, q2) = if gaddH (x, y, z) (q1, q2) = 0 then (if gaddR (x, y, z) (q1, q2) = 0 then gdbl (x, y, z) else (0, 0, 0)) else gaddN (x, y, z) (q1, q2) := (if_neg hq0).trans (if_neg hz)
  have hpa' := hpa
  rw [e2] at hpa'
  have cA : gaddH (x, y, z) (q1, q2) * (Fld.finv z * Fld.finv z) = q1 - x * (Fld.finv z * Fld.finv z) := by
    rw [hH]
    generalize Fld.finv z = i at *
    exact (eq_of_sub (Eq.trans (show ((((q1 * (z * z)) - x) * (i * i)) - (q1 - (x * (i * i)))) = ((q1 * ((z * i) + 1)) * ((z * i) - 1)) from ring_id (fun vi_ => vget vi_ [x, z, i, q1]) (.sub (.mul (.sub (.mul (.var 3) (.mul (.var 1) (.var 1))) (.var 0)) (.mul (.var 2) (.var 2))) (.sub (.var 3) (.mul (.var 0) (.mul (.var 2) (.var 2))))) (.mul (.mul (.var 3) (.add (.mul (.var 1) (.var 2)) .one)) (.sub (.mul (.var 1) (.var 2)) .one)) (by kernel_rfl)) (lz hi)))
  have cB : gaddR (x, y, z) (q1, q2) * (Fld.finv z * Fld.finv z * Fld.finv z) = q2 - y * (Fld.finv z * Fld.finv z) * Fld.finv z := by
    rw [hR]
    generalize Fld.finv z = i at *
    exact (eq_of_sub (Eq.trans (show (((((q2 * z) * (z * z)) - y) * ((i * i) * i)) - (q2 - ((y * (i * i)) * i))) = ((q2 * ((((z * i) * (z * i)) + (z * i)) + 1)) * ((z * i) - 1)) from ring_id (fun vi_ => vget vi_ [y, z, i, q2]) (.sub (.mul (.sub (.mul (.mul (.var 3) (.var 1)) (.mul (.var 1) (.var 1))) (.var 0)) (.mul (.mul (.var 2) (.var 2)) (.var 2))) (.sub (.var 3) (.mul (.mul (.var 0) (.mul (.var 2) (.var 2))) (.var 2)))) (.mul (.mul (.var 3) (.add (.add (.mul (.mul (.var 1) (.var 2)) (.mul (.var 1) (.var 2))) (.mul (.var 1) (.var 2))) .one)) (.sub (.mul (.var 1) (.var 2)) .one)) (by kernel_rfl)) (lz hi)))
  by_cases h0 : gaddH (x, y, z) (q1, q2) = 0
  · have ex : x * (Fld.finv z * Fld.finv z) = q1 := by
      rw [h0, zero_mul'] at cA; exact (eq_of_sub cA.symm).symm
    by_cases r0 : gaddR (x, y, z) (q1, q2) = 0
    · have ey : y * (Fld.finv z * Fld.finv z) * Fld.finv z = q2 := by
        rw [r0, zero_mul'] at cB; exact (eq_of_sub cB.symm).symm
      rw [hunf, if_pos h0, if_pos r0]
      have he : gpt (x, y, z) = (q1, q2) := by rw [e2, ex, ey]
      have h := gdbl_ok hj
      rw [he] at h
      rw [he]
      exact h
    · rw [hunf, if_pos h0, if_neg r0]
      refine ⟨?_, .inl rfl⟩
      rw [show gpt ((0, 0, 0) : J3 α) = (0, 0) from if_pos rfl]
      have hne : y * (Fld.finv z * Fld.finv z) * Fld.finv z ≠ q2 := by
        intro e
        rw [e, sub_self'] at cB
        exact Fld.mul_ne r0 (Fld.mul_ne (Fld.mul_ne hin hin) hin) cB
      rw [e2]
      rw [e2] at hpa
      generalize y * (Fld.finv z * Fld.finv z) * Fld.finv z = y' at *
      generalize x * (Fld.finv z * Fld.finv z) = x' at *
      subst ex
      have hs : y' + q2 = 0 := by
        apply Classical.byContradiction
        intro hs
        refine Fld.mul_ne (sub_ne hne) hs ?_
        have H1 : y' * y' = x' * x' * x' + B := hpa
        have H2 : q2 * q2 = x' * x' * x' + B := hqa
        exact (eq_of_sub (Eq.trans (show (((q2 - y') * (y' + q2)) - 0) = ((1 * ((q2 * q2) - (((x' * x') * x') + B))) + ((-1) * ((y' * y') - (((x' * x') * x') + B)))) from ring_id (fun vi_ => vget vi_ [y', q2, x', B]) (.sub (.mul (.sub (.var 1) (.var 0)) (.add (.var 0) (.var 1))) .zero) (.add (.mul .one (.sub (.mul (.var 1) (.var 1)) (.add (.mul (.mul (.var 2) (.var 2)) (.var 2)) (.var 3)))) (.mul (.neg .one) (.sub (.mul (.var 0) (.var 0)) (.add (.mul (.mul (.var 2) (.var 2)) (.var 2)) (.var 3))))) (by kernel_rfl)) (lz2 (lz H2) (lz H1))))
      unfold cadd
      rw [if_neg hpa.ne, if_neg hq0, if_pos ⟨rfl, hs⟩]
  · rw [hunf, if_neg h0]
    have hxne : x * (Fld.finv z * Fld.finv z) ≠ q1 := by
      intro e
      rw [e, sub_self'] at cA
      exact Fld.mul_ne h0 (Fld.mul_ne hin hin) cA
    have hnn : ¬ ((x * (Fld.finv z * Fld.finv z), y * (Fld.finv z * Fld.finv z) * Fld.finv z).1 = (q1, q2).1 ∧ (x * (Fld.finv z * Fld.finv z), y * (Fld.finv z * Fld.finv z) * Fld.finv z).2 + (q1, q2).2 = 0) := fun h => hxne h.1
    have hl := slope_ok hpa' hqa hnn
    have e3 : cadd (x * (Fld.finv z * Fld.finv z), y * (Fld.finv z * Fld.finv z) * Fld.finv z) (q1, q2) = third (slope (x * (Fld.finv z * Fld.finv z), y * (Fld.finv z * Fld.finv z) * Fld.finv z) (q1, q2)) (x * (Fld.finv z * Fld.finv z), y * (Fld.finv z * Fld.finv z) * Fld.finv z) (q1, q2) := by
      unfold cadd; rw [if_neg hpa'.ne, if_neg hq0, if_neg hnn]
    have h3a := third_aff hpa' hl
    have hat := hl.at_
    generalize slope (x * (Fld.finv z * Fld.finv z), y * (Fld.finv z * Fld.finv z) * Fld.finv z) (q1, q2) = l at *
    have hat : q2 = y * (Fld.finv z * Fld.finv z) * Fld.finv z + l * (q1 - x * (Fld.finv z * Fld.finv z)) := hat
    have hN : gaddN (x, y, z) (q1, q2) = (let zz := z * z; let h := gaddH (x, y, z) (q1, q2); let r := gaddR (x, y, z) (q1, q2) + gaddR (x, y, z) (q1, q2); let hh := h * h; let i := (hh + hh) + (hh + hh); let j := h * i; let v := x * i; let xx := r * r - j - v - v; let yj := y * j; (xx, r * (v - xx) - yj - yj, (z + h) * (z + h) - zz - hh)) := rfl
    generalize gaddH (x, y, z) (q1, q2) = h at *
    generalize gaddR (x, y, z) (q1, q2) = r at *
    have hz3 : (z + h) * (z + h) - z * z - h * h ≠ 0 := by
      rw [(show ((((z + h) * (z + h)) - (z * z)) - (h * h)) = ((1 + 1) * (z * h)) from ring_id (fun vi_ => vget vi_ [z, h]) (.sub (.sub (.mul (.add (.var 0) (.var 1)) (.add (.var 0) (.var 1))) (.mul (.var 0) (.var 0))) (.mul (.var 1) (.var 1))) (.mul (.add .one .one) (.mul (.var 0) (.var 1))) (by kernel_rfl))]
      exact Fld.mul_ne hG.two (Fld.mul_ne hz h0)
    have hw := Fld.mul_finv _ hz3
    have e5 : gpt (gaddN (x, y, z) (q1, q2)) = third l (x * (Fld.finv z * Fld.finv z), y * (Fld.finv z * Fld.finv z) * Fld.finv z) (q1, q2) := by
      rw [hN]
      unfold gpt third
      simp only
      rw [if_neg hz3]
      generalize Fld.finv ((z + h) * (z + h) - z * z - h * h) = w at *
      generalize Fld.finv z = i at *
      have e4 : i = (h + h) * w :=
        (eq_of_sub (Eq.trans (show (i - ((h + h) * w)) = (((-i) * ((((((z + h) * (z + h)) - (z * z)) - (h * h)) * w) - 1)) + (((h + h) * w) * ((z * i) - 1))) from ring_id (fun vi_ => vget vi_ [z, h, i, w]) (.sub (.var 2) (.mul (.add (.var 1) (.var 1)) (.var 3))) (.add (.mul (.neg (.var 2)) (.sub (.mul (.sub (.sub (.mul (.add (.var 0) (.var 1)) (.add (.var 0) (.var 1))) (.mul (.var 0) (.var 0))) (.mul (.var 1) (.var 1))) (.var 3)) .one)) (.mul (.mul (.add (.var 1) (.var 1)) (.var 3)) (.sub (.mul (.var 0) (.var 2)) .one))) (by kernel_rfl)) (lz2 (lz hw) (lz hi))))
      have hle : l = (r + r) * w := by
        refine Fld.cancel (sub_ne hxne) ?_
        exact (eq_of_sub (Eq.trans (show (((q1 - (x * (i * i))) * l) - ((q1 - (x * (i * i))) * ((r + r) * w))) = (((((-1) * (q2 - (((y * (i * i)) * i) + (l * (q1 - (x * (i * i))))))) + ((-1) * ((r * ((i * i) * i)) - (q2 - ((y * (i * i)) * i))))) + (((r + r) * w) * ((h * (i * i)) - (q1 - (x * (i * i)))))) + ((r * (i * i)) * (i - ((h + h) * w)))) from ring_id (fun vi_ => vget vi_ [x, y, h, r, i, w, l, q1, q2]) (.sub (.mul (.sub (.var 7) (.mul (.var 0) (.mul (.var 4) (.var 4)))) (.var 6)) (.mul (.sub (.var 7) (.mul (.var 0) (.mul (.var 4) (.var 4)))) (.mul (.add (.var 3) (.var 3)) (.var 5)))) (.add (.add (.add (.mul (.neg .one) (.sub (.var 8) (.add (.mul (.mul (.var 1) (.mul (.var 4) (.var 4))) (.var 4)) (.mul (.var 6) (.sub (.var 7) (.mul (.var 0) (.mul (.var 4) (.var 4)))))))) (.mul (.neg .one) (.sub (.mul (.var 3) (.mul (.mul (.var 4) (.var 4)) (.var 4))) (.sub (.var 8) (.mul (.mul (.var 1) (.mul (.var 4) (.var 4))) (.var 4)))))) (.mul (.mul (.add (.var 3) (.var 3)) (.var 5)) (.sub (.mul (.var 2) (.mul (.var 4) (.var 4))) (.sub (.var 7) (.mul (.var 0) (.mul (.var 4) (.var 4))))))) (.mul (.mul (.var 3) (.mul (.var 4) (.var 4))) (.sub (.var 4) (.mul (.add (.var 2) (.var 2)) (.var 5))))) (by kernel_rfl)) (lz2 (lz2 (lz2 (lz hat) (lz cB)) (lz cA)) (lz e4))))
      rw [hle]
      subst e4
      refine Prod.ext ?_ ?_
      · exact (eq_of_sub (Eq.trans (show (((((((r + r) * (r + r)) - (h * (((h * h) + (h * h)) + ((h * h) + (h * h))))) - (x * (((h * h) + (h * h)) + ((h * h) + (h * h))))) - (x * (((h * h) + (h * h)) + ((h * h) + (h * h))))) * (w * w)) - (((((r + r) * w) * ((r + r) * w)) - (x * (((h + h) * w) * ((h + h) * w)))) - q1)) = ((-1) * ((h * (((h + h) * w) * ((h + h) * w))) - (q1 - (x * (((h + h) * w) * ((h + h) * w)))))) from ring_id (fun vi_ => vget vi_ [x, h, r, w, q1]) (.sub (.mul (.sub (.sub (.sub (.mul (.add (.var 2) (.var 2)) (.add (.var 2) (.var 2))) (.mul (.var 1) (.add (.add (.mul (.var 1) (.var 1)) (.mul (.var 1) (.var 1))) (.add (.mul (.var 1) (.var 1)) (.mul (.var 1) (.var 1)))))) (.mul (.var 0) (.add (.add (.mul (.var 1) (.var 1)) (.mul (.var 1) (.var 1))) (.add (.mul (.var 1) (.var 1)) (.mul (.var 1) (.var 1)))))) (.mul (.var 0) (.add (.add (.mul (.var 1) (.var 1)) (.mul (.var 1) (.var 1))) (.add (.mul (.var 1) (.var 1)) (.mul (.var 1) (.var 1)))))) (.mul (.var 3) (.var 3))) (.sub (.sub (.mul (.mul (.add (.var 2) (.var 2)) (.var 3)) (.mul (.add (.var 2) (.var 2)) (.var 3))) (.mul (.var 0) (.mul (.mul (.add (.var 1) (.var 1)) (.var 3)) (.mul (.add (.var 1) (.var 1)) (.var 3))))) (.var 4))) (.mul (.neg .one) (.sub (.mul (.var 1) (.mul (.mul (.add (.var 1) (.var 1)) (.var 3)) (.mul (.add (.var 1) (.var 1)) (.var 3)))) (.sub (.var 4) (.mul (.var 0) (.mul (.mul (.add (.var 1) (.var 1)) (.var 3)) (.mul (.add (.var 1) (.var 1)) (.var 3))))))) (by kernel_rfl)) (lz cA)))
      · exact (eq_of_sub (Eq.trans (show (((((((r + r) * ((x * (((h * h) + (h * h)) + ((h * h) + (h * h)))) - (((((r + r) * (r + r)) - (h * (((h * h) + (h * h)) + ((h * h) + (h * h))))) - (x * (((h * h) + (h * h)) + ((h * h) + (h * h))))) - (x * (((h * h) + (h * h)) + ((h * h) + (h * h))))))) - (y * (h * (((h * h) + (h * h)) + ((h * h) + (h * h)))))) - (y * (h * (((h * h) + (h * h)) + ((h * h) + (h * h)))))) * (w * w)) * w) - ((((r + r) * w) * ((x * (((h + h) * w) * ((h + h) * w))) - (((((r + r) * w) * ((r + r) * w)) - (x * (((h + h) * w) * ((h + h) * w)))) - q1))) - ((y * (((h + h) * w) * ((h + h) * w))) * ((h + h) * w)))) = (((r + r) * w) * ((h * (((h + h) * w) * ((h + h) * w))) - (q1 - (x * (((h + h) * w) * ((h + h) * w)))))) from ring_id (fun vi_ => vget vi_ [x, y, h, r, w, q1]) (.sub (.mul (.mul (.sub (.sub (.mul (.add (.var 3) (.var 3)) (.sub (.mul (.var 0) (.add (.add (.mul (.var 2) (.var 2)) (.mul (.var 2) (.var 2))) (.add (.mul (.var 2) (.var 2)) (.mul (.var 2) (.var 2))))) (.sub (.sub (.sub (.mul (.add (.var 3) (.var 3)) (.add (.var 3) (.var 3))) (.mul (.var 2) (.add (.add (.mul (.var 2) (.var 2)) (.mul (.var 2) (.var 2))) (.add (.mul (.var 2) (.var 2)) (.mul (.var 2) (.var 2)))))) (.mul (.var 0) (.add (.add (.mul (.var 2) (.var 2)) (.mul (.var 2) (.var 2))) (.add (.mul (.var 2) (.var 2)) (.mul (.var 2) (.var 2)))))) (.mul (.var 0) (.add (.add (.mul (.var 2) (.var 2)) (.mul (.var 2) (.var 2))) (.add (.mul (.var 2) (.var 2)) (.mul (.var 2) (.var 2)))))))) (.mul (.var 1) (.mul (.var 2) (.add (.add (.mul (.var 2) (.var 2)) (.mul (.var 2) (.var 2))) (.add (.mul (.var 2) (.var 2)) (.mul (.var 2) (.var 2))))))) (.mul (.var 1) (.mul (.var 2) (.add (.add (.mul (.var 2) (.var 2)) (.mul (.var 2) (.var 2))) (.add (.mul (.var 2) (.var 2)) (.mul (.var 2) (.var 2))))))) (.mul (.var 4) (.var 4))) (.var 4)) (.sub (.mul (.mul (.add (.var 3) (.var 3)) (.var 4)) (.sub (.mul (.var 0) (.mul (.mul (.add (.var 2) (.var 2)) (.var 4)) (.mul (.add (.var 2) (.var 2)) (.var 4)))) (.sub (.sub (.mul (.mul (.add (.var 3) (.var 3)) (.var 4)) (.mul (.add (.var 3) (.var 3)) (.var 4))) (.mul (.var 0) (.mul (.mul (.add (.var 2) (.var 2)) (.var 4)) (.mul (.add (.var 2) (.var 2)) (.var 4))))) (.var 5)))) (.mul (.mul (.var 1) (.mul (.mul (.add (.var 2) (.var 2)) (.var 4)) (.mul (.add (.var 2) (.var 2)) (.var 4)))) (.mul (.add (.var 2) (.var 2)) (.var 4))))) (.mul (.mul (.add (.var 3) (.var 3)) (.var 4)) (.sub (.mul (.var 2) (.mul (.mul (.add (.var 2) (.var 2)) (.var 4)) (.mul (.add (.var 2) (.var 2)) (.var 4)))) (.sub (.var 5) (.mul (.var 0) (.mul (.mul (.add (.var 2) (.var 2)) (.var 4)) (.mul (.add (.var 2) (.var 2)) (.var 4))))))) (by kernel_rfl)) (lz cA)))
    rw [e2, e3, e5]
    exact ⟨rfl, .inr (by rw [e5]; exact h3a)⟩
theorem step_dbl {j : J3 α} {x : Gp B} (hj : JOk B j) (h : gpt j = x.1) : JOk B (gdbl j) ∧ gpt (gdbl j) = (x + x).1 := by
  obtain ⟨h1, h2⟩ := gdbl_ok hj
  exact ⟨h2, by rw [h1, h]; rfl⟩
theorem step_add {j : J3 α} {x : Gp B} (q : Gp B) (hj : JOk B j) (h : gpt j = x.1) : JOk B (gadd j q.1) ∧ gpt (gadd j q.1) = (x + q).1 := by
  obtain ⟨h1, h2⟩ := gadd_ok hj q.2
  exact ⟨h2, by rw [h1, h]; rfl⟩
theorem step_sums : ∀ (l : List (Gp B)) {j : J3 α} {x : Gp B}, JOk B j → gpt j = x.1 → JOk B ((l.map (·.1)).foldl gadd j) ∧ gpt ((l.map (·.1)).foldl gadd j) = (l.foldl (· + ·) x).1
  | [], _, _, hj, h => ⟨hj, h⟩
  | q :: l, _, _, hj, h => by
    obtain ⟨h1, h2⟩ := step_add q hj h
    exact step_sums l h1 h2
theorem jzero_ok : JOk B ((0, 0, 0) : J3 α) ∧ gpt ((0, 0, 0) : J3 α) = (0 : Gp B).1 := ⟨.inl rfl, if_pos rfl⟩
/-- The ladder: n times p, for n of at most f bits. -/
def glad (p : α × α) : Nat → Nat → J3 α
  | 0, _ => (0, 0, 0)
  | f + 1, n => if n % 2 = 1 then gadd (gdbl (glad p f (n / 2))) p else gdbl (glad p f (n / 2))
theorem glad_ok (p : Gp B) : ∀ (f n : Nat), n < 2 ^ f → JOk B (glad p.1 f n) ∧ gpt (glad p.1 f n) = (nmul n p).1
  | 0, n, h => by
    obtain rfl : n = 0 := by simpa using h
    exact jzero_ok
  | f + 1, n, h => by
    obtain ⟨h1, h2⟩ := glad_ok p f (n / 2) (by rw [Nat.pow_succ] at h; omega)
    obtain ⟨h3, h4⟩ := step_dbl h1 h2
    have e : nmul (n / 2) p + nmul (n / 2) p = nmul (n / 2 * 2) p := by rw [nmul_mul, nmul_two]
    unfold glad
    split
    · obtain ⟨h5, h6⟩ := step_add p h3 h4
      refine ⟨h5, ?_⟩
      rw [h6, e]
      conv => rhs; rw [show n = n / 2 * 2 + 1 by omega]
      rfl
    · refine ⟨h3, ?_⟩
      rw [h4, e, show n / 2 * 2 = n by omega]
theorem nmul_zero_of {p : Gp B} {f n : Nat} (h : n < 2 ^ f) (hz : (glad p.1 f n).2.2 = 0) : nmul n p = 0 := by
  refine Gp.ext ?_
  rw [← (glad_ok p f n h).2]
  exact if_pos hz
end
end Go.Ec

/- The two fields, and the number under the curve's root. -/
namespace Go.Cu
open Go.Ec
open CR
set_option linter.unusedVariables false
set_option linter.unusedSimpArgs false
set_option linter.unusedSectionVars false
set_option linter.constructorNameAsVariable false

instance fqFld : Fld Fq where
  toCR := inferInstance
  finv x := pw x (pp - 2)
  mul_finv a ha := by
    have h := fermat prime_pp ha
    rw [show pp - 1 = (pp - 2) + 1 from rfl, pw, mul_comm] at h
    exact h
  one_ne := one_ne prime_pp
instance frFld : Fld Fs where
  toCR := inferInstance
  finv x := pw x (rr - 2)
  mul_finv a ha := by
    have h := fermat prime_rr ha
    rw [show rr - 1 = (rr - 2) + 1 from rfl, pw, mul_comm] at h
    exact h
  one_ne := one_ne prime_rr
instance fourGood : Gd four where
  two := by decide +kernel
  three := by decide +kernel
  b := by decide +kernel

end Go.Cu

/- The field with i: numbers a + b i, their sums and products, inverses; how Go lays them, and when two of them are equal in Go. -/
namespace Go.Cu
open Go Go.Ec Go.Vm Go.RowKit Go.Proofs
set_option linter.unusedVariables false
set_option linter.unusedSimpArgs false
set_option linter.unusedSectionVars false
attribute [local irreducible] W OpsW Det Fresh New Writes Vm.Pure Makes Changes ExternTo BuildTo ZeroTo FieldTo IndexTo BinTo SliceTo Vm.Enters
open CR

/-- a + b i, where i i = -1. -/
structure Fq2 where
  a : Fq
  b : Fq
theorem Fq2.ext : ∀ {x y : Fq2}, x.a = y.a → x.b = y.b → x = y
  | ⟨_, _⟩, ⟨_, _⟩, rfl, rfl => rfl
theorem Fq2.ext_iff {x y : Fq2} : x = y ↔ x.a = y.a ∧ x.b = y.b := ⟨fun h => by rw [h]; exact ⟨rfl, rfl⟩, fun h => Fq2.ext h.1 h.2⟩
instance : DecidableEq Fq2 := fun x y => decidable_of_iff (x.a = y.a ∧ x.b = y.b) Fq2.ext_iff.symm
instance : CR Fq2 where
  add x y := ⟨x.a + y.a, x.b + y.b⟩
  mul x y := ⟨x.a * y.a - x.b * y.b, (x.a + x.b) * (y.a + y.b) - x.a * y.a - x.b * y.b⟩
  neg x := ⟨-x.a, -x.b⟩
  sub x y := ⟨x.a - y.a, x.b - y.b⟩
  zero := ⟨0, 0⟩
  one := ⟨1, 0⟩
  add_comm u v := Fq2.ext (add_comm _ _) (add_comm _ _)
  add_assoc u v w := Fq2.ext (add_assoc _ _ _) (add_assoc _ _ _)
  zero_add u := Fq2.ext (zero_add _) (zero_add _)
  neg_add u := Fq2.ext (neg_add _) (neg_add _)
  sub_eq u v := Fq2.ext (sub_eq _ _) (sub_eq _ _)
  mul_comm u v := Fq2.ext (show ((u.a * v.a) - (u.b * v.b)) = ((v.a * u.a) - (v.b * u.b)) from ring_id (fun vi_ => vget vi_ [u.a, u.b, v.a, v.b]) (.sub (.mul (.var 0) (.var 2)) (.mul (.var 1) (.var 3))) (.sub (.mul (.var 2) (.var 0)) (.mul (.var 3) (.var 1))) (by kernel_rfl)) (show ((((u.a + u.b) * (v.a + v.b)) - (u.a * v.a)) - (u.b * v.b)) = ((((v.a + v.b) * (u.a + u.b)) - (v.a * u.a)) - (v.b * u.b)) from ring_id (fun vi_ => vget vi_ [u.a, u.b, v.a, v.b]) (.sub (.sub (.mul (.add (.var 0) (.var 1)) (.add (.var 2) (.var 3))) (.mul (.var 0) (.var 2))) (.mul (.var 1) (.var 3))) (.sub (.sub (.mul (.add (.var 2) (.var 3)) (.add (.var 0) (.var 1))) (.mul (.var 2) (.var 0))) (.mul (.var 3) (.var 1))) (by kernel_rfl))
  mul_assoc u v w := Fq2.ext (show ((((u.a * v.a) - (u.b * v.b)) * w.a) - (((((u.a + u.b) * (v.a + v.b)) - (u.a * v.a)) - (u.b * v.b)) * w.b)) = ((u.a * ((v.a * w.a) - (v.b * w.b))) - (u.b * ((((v.a + v.b) * (w.a + w.b)) - (v.a * w.a)) - (v.b * w.b)))) from ring_id (fun vi_ => vget vi_ [u.a, u.b, v.a, v.b, w.a, w.b]) (.sub (.mul (.sub (.mul (.var 0) (.var 2)) (.mul (.var 1) (.var 3))) (.var 4)) (.mul (.sub (.sub (.mul (.add (.var 0) (.var 1)) (.add (.var 2) (.var 3))) (.mul (.var 0) (.var 2))) (.mul (.var 1) (.var 3))) (.var 5))) (.sub (.mul (.var 0) (.sub (.mul (.var 2) (.var 4)) (.mul (.var 3) (.var 5)))) (.mul (.var 1) (.sub (.sub (.mul (.add (.var 2) (.var 3)) (.add (.var 4) (.var 5))) (.mul (.var 2) (.var 4))) (.mul (.var 3) (.var 5))))) (by kernel_rfl))
    (show ((((((u.a * v.a) - (u.b * v.b)) + ((((u.a + u.b) * (v.a + v.b)) - (u.a * v.a)) - (u.b * v.b))) * (w.a + w.b)) - (((u.a * v.a) - (u.b * v.b)) * w.a)) - (((((u.a + u.b) * (v.a + v.b)) - (u.a * v.a)) - (u.b * v.b)) * w.b)) = ((((u.a + u.b) * (((v.a * w.a) - (v.b * w.b)) + ((((v.a + v.b) * (w.a + w.b)) - (v.a * w.a)) - (v.b * w.b)))) - (u.a * ((v.a * w.a) - (v.b * w.b)))) - (u.b * ((((v.a + v.b) * (w.a + w.b)) - (v.a * w.a)) - (v.b * w.b)))) from ring_id (fun vi_ => vget vi_ [u.a, u.b, v.a, v.b, w.a, w.b]) (.sub (.sub (.mul (.add (.sub (.mul (.var 0) (.var 2)) (.mul (.var 1) (.var 3))) (.sub (.sub (.mul (.add (.var 0) (.var 1)) (.add (.var 2) (.var 3))) (.mul (.var 0) (.var 2))) (.mul (.var 1) (.var 3)))) (.add (.var 4) (.var 5))) (.mul (.sub (.mul (.var 0) (.var 2)) (.mul (.var 1) (.var 3))) (.var 4))) (.mul (.sub (.sub (.mul (.add (.var 0) (.var 1)) (.add (.var 2) (.var 3))) (.mul (.var 0) (.var 2))) (.mul (.var 1) (.var 3))) (.var 5))) (.sub (.sub (.mul (.add (.var 0) (.var 1)) (.add (.sub (.mul (.var 2) (.var 4)) (.mul (.var 3) (.var 5))) (.sub (.sub (.mul (.add (.var 2) (.var 3)) (.add (.var 4) (.var 5))) (.mul (.var 2) (.var 4))) (.mul (.var 3) (.var 5))))) (.mul (.var 0) (.sub (.mul (.var 2) (.var 4)) (.mul (.var 3) (.var 5))))) (.mul (.var 1) (.sub (.sub (.mul (.add (.var 2) (.var 3)) (.add (.var 4) (.var 5))) (.mul (.var 2) (.var 4))) (.mul (.var 3) (.var 5))))) (by kernel_rfl))
  one_mul u := Fq2.ext (show ((1 * u.a) - (0 * u.b)) = u.a from ring_id (fun vi_ => vget vi_ [u.a, u.b]) (.sub (.mul .one (.var 0)) (.mul .zero (.var 1))) (.var 0) (by kernel_rfl)) (show ((((1 + 0) * (u.a + u.b)) - (1 * u.a)) - (0 * u.b)) = u.b from ring_id (fun vi_ => vget vi_ [u.a, u.b]) (.sub (.sub (.mul (.add .one .zero) (.add (.var 0) (.var 1))) (.mul .one (.var 0))) (.mul .zero (.var 1))) (.var 1) (by kernel_rfl))
  mul_add u v w := Fq2.ext (show ((u.a * (v.a + w.a)) - (u.b * (v.b + w.b))) = (((u.a * v.a) - (u.b * v.b)) + ((u.a * w.a) - (u.b * w.b))) from ring_id (fun vi_ => vget vi_ [u.a, u.b, v.a, v.b, w.a, w.b]) (.sub (.mul (.var 0) (.add (.var 2) (.var 4))) (.mul (.var 1) (.add (.var 3) (.var 5)))) (.add (.sub (.mul (.var 0) (.var 2)) (.mul (.var 1) (.var 3))) (.sub (.mul (.var 0) (.var 4)) (.mul (.var 1) (.var 5)))) (by kernel_rfl))
    (show ((((u.a + u.b) * ((v.a + w.a) + (v.b + w.b))) - (u.a * (v.a + w.a))) - (u.b * (v.b + w.b))) = (((((u.a + u.b) * (v.a + v.b)) - (u.a * v.a)) - (u.b * v.b)) + ((((u.a + u.b) * (w.a + w.b)) - (u.a * w.a)) - (u.b * w.b))) from ring_id (fun vi_ => vget vi_ [u.a, u.b, v.a, v.b, w.a, w.b]) (.sub (.sub (.mul (.add (.var 0) (.var 1)) (.add (.add (.var 2) (.var 4)) (.add (.var 3) (.var 5)))) (.mul (.var 0) (.add (.var 2) (.var 4)))) (.mul (.var 1) (.add (.var 3) (.var 5)))) (.add (.sub (.sub (.mul (.add (.var 0) (.var 1)) (.add (.var 2) (.var 3))) (.mul (.var 0) (.var 2))) (.mul (.var 1) (.var 3))) (.sub (.sub (.mul (.add (.var 0) (.var 1)) (.add (.var 4) (.var 5))) (.mul (.var 0) (.var 4))) (.mul (.var 1) (.var 5)))) (by kernel_rfl))
def norm2 (x : Fq2) : Fq := x.a * x.a + x.b * x.b
def conj2 (x : Fq2) : Fq2 := ⟨x.a, 0 - x.b⟩
def scale2 (x : Fq2) (k : Fq) : Fq2 := ⟨x.a * k, x.b * k⟩
def inv2 (x : Fq2) : Fq2 := scale2 (conj2 x) (inv (norm2 x))
def small (a b : Nat) : Fq2 := ⟨Zp.of a, Zp.of b⟩
theorem sq_no_neg (x : Fq) : x * x + 1 ≠ 0 := by
  intro h
  have hx : x ≠ 0 := by
    rintro rfl
    rw [mul_zero', zero_add] at h
    exact one_ne prime_pp h
  have h1 := fermat prime_pp hx
  have h2 : x * x = -1 := (eq_of_sub (Eq.trans (show ((x * x) - (-1)) = (1 * (((x * x) + 1) - 0)) from ring_id (fun vi_ => vget vi_ [x]) (.sub (.mul (.var 0) (.var 0)) (.neg .one)) (.mul .one (.sub (.add (.mul (.var 0) (.var 0)) .one) .zero)) (by kernel_rfl)) (lz h)))
  obtain ⟨k, hk⟩ : ∃ k, pp - 1 = 2 * (2 * k + 1) := ⟨(pp - 3) / 4, by decide +kernel⟩
  rw [hk, pw_mul, show pw x 2 = x * x by rw [pw, pw, pw, one_mul], h2, pw, pw_mul, show pw (-1 : Fq) 2 = 1 from by decide +kernel, one_pw, one_mul] at h1
  exact absurd h1 (by decide +kernel)
theorem norm2_ne {x : Fq2} (hx : x ≠ 0) : norm2 x ≠ 0 := by
  intro h
  have h : x.a * x.a + x.b * x.b = 0 := h
  by_cases hb : x.b = 0
  · rw [hb, mul_zero', add_zero'] at h
    have ha : x.a = 0 := Classical.byContradiction fun ha => Fld.mul_ne ha ha h
    exact hx (Fq2.ext ha hb)
  · have hi := Fld.mul_finv x.b hb
    generalize Fld.finv x.b = v at hi
    refine sq_no_neg (x.a * v) ?_
    exact (eq_of_sub (Eq.trans (show ((((x.a * v) * (x.a * v)) + 1) - 0) = (((v * v) * (((x.a * x.a) + (x.b * x.b)) - 0)) + ((-((x.b * v) + 1)) * ((x.b * v) - 1))) from ring_id (fun vi_ => vget vi_ [x.a, x.b, v]) (.sub (.add (.mul (.mul (.var 0) (.var 2)) (.mul (.var 0) (.var 2))) .one) .zero) (.add (.mul (.mul (.var 2) (.var 2)) (.sub (.add (.mul (.var 0) (.var 0)) (.mul (.var 1) (.var 1))) .zero)) (.mul (.neg (.add (.mul (.var 1) (.var 2)) .one)) (.sub (.mul (.var 1) (.var 2)) .one))) (by kernel_rfl)) (lz2 (lz h) (lz hi))))
instance fq2Fld : Fld Fq2 where
  toCR := inferInstance
  finv := inv2
  mul_finv x hx := by
    have hi := Fld.mul_finv (norm2 x) (norm2_ne hx)
    have hi : (x.a * x.a + x.b * x.b) * inv (norm2 x) = 1 := hi
    show (⟨x.a * (x.a * inv (norm2 x)) - x.b * ((0 - x.b) * inv (norm2 x)), (x.a + x.b) * (x.a * inv (norm2 x) + (0 - x.b) * inv (norm2 x)) - x.a * (x.a * inv (norm2 x)) - x.b * ((0 - x.b) * inv (norm2 x))⟩ : Fq2) = ⟨1, 0⟩
    generalize inv (norm2 x) = n at hi
    refine Fq2.ext ?_ ?_
    · exact (eq_of_sub (Eq.trans (show (((x.a * (x.a * n)) - (x.b * ((0 - x.b) * n))) - 1) = (1 * ((((x.a * x.a) + (x.b * x.b)) * n) - 1)) from ring_id (fun vi_ => vget vi_ [x.a, x.b, n]) (.sub (.sub (.mul (.var 0) (.mul (.var 0) (.var 2))) (.mul (.var 1) (.mul (.sub .zero (.var 1)) (.var 2)))) .one) (.mul .one (.sub (.mul (.add (.mul (.var 0) (.var 0)) (.mul (.var 1) (.var 1))) (.var 2)) .one)) (by kernel_rfl)) (lz hi)))
    · exact (show ((((x.a + x.b) * ((x.a * n) + ((0 - x.b) * n))) - (x.a * (x.a * n))) - (x.b * ((0 - x.b) * n))) = 0 from ring_id (fun vi_ => vget vi_ [x.a, x.b, n]) (.sub (.sub (.mul (.add (.var 0) (.var 1)) (.add (.mul (.var 0) (.var 2)) (.mul (.sub .zero (.var 1)) (.var 2)))) (.mul (.var 0) (.mul (.var 0) (.var 2)))) (.mul (.var 1) (.mul (.sub .zero (.var 1)) (.var 2)))) .zero (by kernel_rfl))
  one_ne h := one_ne prime_pp (congrArg Fq2.a h)
theorem sq2 (x : Fq2) : (⟨(x.a + x.b) * (x.a - x.b), x.a * x.b + x.a * x.b⟩ : Fq2) = x * x :=
  Fq2.ext (show ((x.a + x.b) * (x.a - x.b)) = ((x.a * x.a) - (x.b * x.b)) from ring_id (fun vi_ => vget vi_ [x.a, x.b]) (.mul (.add (.var 0) (.var 1)) (.sub (.var 0) (.var 1))) (.sub (.mul (.var 0) (.var 0)) (.mul (.var 1) (.var 1))) (by kernel_rfl)) (show ((x.a * x.b) + (x.a * x.b)) = ((((x.a + x.b) * (x.a + x.b)) - (x.a * x.a)) - (x.b * x.b)) from ring_id (fun vi_ => vget vi_ [x.a, x.b]) (.add (.mul (.var 0) (.var 1)) (.mul (.var 0) (.var 1))) (.sub (.sub (.mul (.add (.var 0) (.var 1)) (.add (.var 0) (.var 1))) (.mul (.var 0) (.var 0))) (.mul (.var 1) (.var 1))) (by kernel_rfl))
end Go.Cu
namespace Go.Cw
open Go Go.Cu Go.Ec Go.Vm Go.RowKit Go.Proofs
attribute [local irreducible] W OpsW Det Fresh New Writes Vm.Pure Makes Changes ExternTo BuildTo ZeroTo FieldTo IndexTo BinTo SliceTo Vm.Enters
def cellsF (x : Fq2) : List Value := Cu.cellsF x.a ++ Cu.cellsF x.b
def encF (x : Fq2) : Value := .agg (cellsF x).toArray
abbrev Pt := Fq2 × Fq2
abbrev Jac := Fq2 × Fq2 × Fq2
def encP (p : Pt) : Value := .agg (cellsF p.1 ++ cellsF p.2).toArray
def encJ (p : Jac) : Value := .agg (cellsF p.1 ++ cellsF p.2.1 ++ cellsF p.2.2).toArray
def cellsJ (j : Jac) : List Value := cellsF j.1 ++ cellsF j.2.1 ++ cellsF j.2.2
def cellsP (p : Pt) : List Value := cellsF p.1 ++ cellsF p.2
theorem eqTo46 (d : Nat) (x y : Fq2) : EqTo Tryd.prog (d + 4) 46 (encF x) (encF y) (decide (x = y)) := by
  have h := eq_two (P := Tryd.prog) (d := d + 3) (t := 46) (xs := (Cu.cellsF x.a ++ Cu.cellsF x.b).toArray) (ys := (Cu.cellsF y.a ++ Cu.cellsF y.b).toArray) (by kernel_rfl) (by kernel_rfl) (nm := "A") (ft := 29) (off := 0) (nm' := "B") (ft' := 29) (off' := 6) (by kernel_rfl) (by decide) (by decide)
    (fun w => by kernel_rfl) (fun w => by kernel_rfl) (eqTo29 d x.a y.a) (fun w => by kernel_rfl) (fun w => by kernel_rfl) (eqTo29 d x.b y.b)
  have hb : (decide (x.a = y.a) && decide (x.b = y.b)) = decide (x = y) := by
    rw [Bool.eq_iff_iff]; simp [Fq2.ext_iff]
  rw [hb] at h
  exact h
theorem eqTo48 (d : Nat) (p q : Pt) : EqTo Tryd.prog (d + 5) 48 (encP p) (encP q) (decide (p = q)) := by
  have h := eq_two (P := Tryd.prog) (d := d + 4) (t := 48) (xs := (cellsF p.1 ++ cellsF p.2).toArray) (ys := (cellsF q.1 ++ cellsF q.2).toArray) (by kernel_rfl) (by kernel_rfl) (nm := "X") (ft := 46) (off := 0) (nm' := "Y") (ft' := 46) (off' := 12) (by kernel_rfl) (by decide) (by decide)
    (fun w => by kernel_rfl) (fun w => by kernel_rfl) (eqTo46 d p.1 q.1) (fun w => by kernel_rfl) (fun w => by kernel_rfl) (eqTo46 d p.2 q.2)
  have hb : (decide (p.1 = q.1) && decide (p.2 = q.2)) = decide (p = q) := by
    rw [Bool.eq_iff_iff]; simp [Prod.ext_iff]
  rw [hb] at h
  exact h
theorem eq46 {x y : Operand} {a b : Fq2} : BinTo Tryd.prog .eql 46 x y (encF a) (encF b) (.bool (decide (a = b))) := bin_of_eq (by kernel_rfl) (eqTo46 9996 a b)
theorem ne46 {x y : Operand} {a b : Fq2} : BinTo Tryd.prog .neq 46 x y (encF a) (encF b) (.bool (!decide (a = b))) := bin_of_ne (by kernel_rfl) (eqTo46 9996 a b)
theorem eq48 {x y : Operand} {a b : Pt} : BinTo Tryd.prog .eql 48 x y (encP a) (encP b) (.bool (decide (a = b))) := bin_of_eq (by kernel_rfl) (eqTo48 9995 a b)
theorem ne48 {x y : Operand} {a b : Pt} : BinTo Tryd.prog .neq 48 x y (encP a) (encP b) (.bool (!decide (a = b))) := bin_of_ne (by kernel_rfl) (eqTo48 9995 a b)
section
variable {K : List Nat} {G : Hp} {w0 : World} {d : Option Tmp} {ty xt yt : TypeId} {pos : String} {after : Array Edge} {g : Option (Nat × Bool)} {F : Fr} {H : Hp} {x y : Operand}
theorem det_eql46 {a b : Fq2} (hx : ev F x = some (encF a)) (hy : ev F y = some (encF b)) : Det Tryd.prog K G w0 ⟨d, .binOp .eql 46 x y yt, ty, pos, after, g⟩ F H (.bool (decide (a = b))) := det_binTo hx hy eq46
theorem det_neq46 {a b : Fq2} (hx : ev F x = some (encF a)) (hy : ev F y = some (encF b)) : Det Tryd.prog K G w0 ⟨d, .binOp .neq 46 x y yt, ty, pos, after, g⟩ F H (.bool (!decide (a = b))) := det_binTo hx hy ne46
theorem det_eql48 {a b : Pt} (hx : ev F x = some (encP a)) (hy : ev F y = some (encP b)) : Det Tryd.prog K G w0 ⟨d, .binOp .eql 48 x y yt, ty, pos, after, g⟩ F H (.bool (decide (a = b))) := det_binTo hx hy eq48
theorem det_neq48 {a b : Pt} (hx : ev F x = some (encP a)) (hy : ev F y = some (encP b)) : Det Tryd.prog K G w0 ⟨d, .binOp .neq 48 x y yt, ty, pos, after, g⟩ F H (.bool (!decide (a = b))) := det_binTo hx hy ne48
theorem z46r : TyZ Tryd.prog 46 (encF 0) (cellsF 0) := ⟨fun _ => by kernel_rfl, rfl⟩
theorem tyW46 : TyA Tryd.prog 46 12 := ⟨by kernel_rfl, by kernel_rfl⟩
theorem szW46 : sizeIn Tryd.prog 46 = some 12 := by kernel_rfl
theorem det_loadW46 {p : Fq2} {b e : Nat} {fr : Nat × Nat} (hx : ev F x = some (.pointer (some ⟨b, 0, none⟩))) (hm : (b, Obj.cells (cellsF p).toArray e fr) ∈ H) : Det Tryd.prog K G w0 ⟨d, .load 46 x, ty, pos, after, g⟩ F H (encF p) := det_loadW tyW46 rfl hx hm
theorem fr_boxW46 {p : Fq2} (hx : ev F x = some (encF p)) : Fresh Tryd.prog K G w0 ⟨d, .box 46 x, ty, pos, after, g⟩ F (fun b => .pointer (some ⟨b, 0, none⟩)) (blk (cellsF p) 46) := fr_box hx rfl
theorem OpsW.storeW46 {n : Nat} {ops : Array Oper} {rest : List Oper} {R : Fr → Hp → Prop} {H' : Hp} {p q : Fq2} {b e : Nat} (hx : ev F x = some (.pointer (some ⟨b, 0, none⟩))) (hy : ev F y = some (encF p)) (hu : Upd H b (blk (cellsF q) e) (blk (cellsF p) e) H') (h : OpsW Tryd.prog n K G w0 ops rest R F H') :
    OpsW Tryd.prog n K G w0 ops (⟨none, .store 46 x y, ty, pos, after, none⟩ :: rest) R F H := Vm.OpsW.storeW szW46 rfl rfl rfl hx hy hu h
theorem z48r : TyZ Tryd.prog 48 (encP (0, 0)) (cellsP (0, 0)) := ⟨fun _ => by kernel_rfl, rfl⟩
theorem tyW48 : TyA Tryd.prog 48 24 := ⟨by kernel_rfl, by kernel_rfl⟩
theorem szW48 : sizeIn Tryd.prog 48 = some 24 := by kernel_rfl
theorem det_loadW48 {p : Pt} {b e : Nat} {fr : Nat × Nat} (hx : ev F x = some (.pointer (some ⟨b, 0, none⟩))) (hm : (b, Obj.cells (cellsP p).toArray e fr) ∈ H) : Det Tryd.prog K G w0 ⟨d, .load 48 x, ty, pos, after, g⟩ F H (encP p) := det_loadW tyW48 rfl hx hm
theorem fr_boxW48 {p : Pt} (hx : ev F x = some (encP p)) : Fresh Tryd.prog K G w0 ⟨d, .box 48 x, ty, pos, after, g⟩ F (fun b => .pointer (some ⟨b, 0, none⟩)) (blk (cellsP p) 48) := fr_box hx rfl
theorem OpsW.storeW48 {n : Nat} {ops : Array Oper} {rest : List Oper} {R : Fr → Hp → Prop} {H' : Hp} {p q : Pt} {b e : Nat} (hx : ev F x = some (.pointer (some ⟨b, 0, none⟩))) (hy : ev F y = some (encP p)) (hu : Upd H b (blk (cellsP q) e) (blk (cellsP p) e) H') (h : OpsW Tryd.prog n K G w0 ops rest R F H') :
    OpsW Tryd.prog n K G w0 ops (⟨none, .store 48 x y, ty, pos, after, none⟩ :: rest) R F H := Vm.OpsW.storeW szW48 rfl rfl rfl hx hy hu h
theorem z112r : TyZ Tryd.prog 112 (encJ (0, 0, 0)) (cellsJ (0, 0, 0)) := ⟨fun _ => by kernel_rfl, rfl⟩
theorem tyW112 : TyA Tryd.prog 112 36 := ⟨by kernel_rfl, by kernel_rfl⟩
theorem szW112 : sizeIn Tryd.prog 112 = some 36 := by kernel_rfl
theorem det_loadW112 {p : Jac} {b e : Nat} {fr : Nat × Nat} (hx : ev F x = some (.pointer (some ⟨b, 0, none⟩))) (hm : (b, Obj.cells (cellsJ p).toArray e fr) ∈ H) : Det Tryd.prog K G w0 ⟨d, .load 112 x, ty, pos, after, g⟩ F H (encJ p) := det_loadW tyW112 rfl hx hm
theorem fr_boxW112 {p : Jac} (hx : ev F x = some (encJ p)) : Fresh Tryd.prog K G w0 ⟨d, .box 112 x, ty, pos, after, g⟩ F (fun b => .pointer (some ⟨b, 0, none⟩)) (blk (cellsJ p) 112) := fr_box hx rfl
theorem OpsW.storeW112 {n : Nat} {ops : Array Oper} {rest : List Oper} {R : Fr → Hp → Prop} {H' : Hp} {p q : Jac} {b e : Nat} (hx : ev F x = some (.pointer (some ⟨b, 0, none⟩))) (hy : ev F y = some (encJ p)) (hu : Upd H b (blk (cellsJ q) e) (blk (cellsJ p) e) H') (h : OpsW Tryd.prog n K G w0 ops rest R F H') :
    OpsW Tryd.prog n K G w0 ops (⟨none, .store 112 x y, ty, pos, after, none⟩ :: rest) R F H := Vm.OpsW.storeW szW112 rfl rfl rfl hx hy hu h
def cellsR (x : Fs) : List Value := w4 (lim (montr x))
theorem z67r : TyZ Tryd.prog 67 (encR 0) (cellsR 0) := ⟨fun _ => by kernel_rfl, rfl⟩
theorem tyW67 : TyA Tryd.prog 67 4 := ⟨by kernel_rfl, by kernel_rfl⟩
theorem szW67 : sizeIn Tryd.prog 67 = some 4 := by kernel_rfl
theorem det_loadW67 {p : Fs} {b e : Nat} {fr : Nat × Nat} (hx : ev F x = some (.pointer (some ⟨b, 0, none⟩))) (hm : (b, Obj.cells (cellsR p).toArray e fr) ∈ H) : Det Tryd.prog K G w0 ⟨d, .load 67 x, ty, pos, after, g⟩ F H (encR p) := det_loadW tyW67 rfl hx hm
theorem fr_boxW67 {p : Fs} (hx : ev F x = some (encR p)) : Fresh Tryd.prog K G w0 ⟨d, .box 67 x, ty, pos, after, g⟩ F (fun b => .pointer (some ⟨b, 0, none⟩)) (blk (cellsR p) 67) := fr_box hx rfl
theorem OpsW.storeW67 {n : Nat} {ops : Array Oper} {rest : List Oper} {R : Fr → Hp → Prop} {H' : Hp} {p q : Fs} {b e : Nat} (hx : ev F x = some (.pointer (some ⟨b, 0, none⟩))) (hy : ev F y = some (encR p)) (hu : Upd H b (blk (cellsR q) e) (blk (cellsR p) e) H') (h : OpsW Tryd.prog n K G w0 ops rest R F H') :
    OpsW Tryd.prog n K G w0 ops (⟨none, .store 67 x y, ty, pos, after, none⟩ :: rest) R F H := Vm.OpsW.storeW szW67 rfl rfl rfl hx hy hu h
end
end Go.Cw

/- The field with i: what its functions compute: the walks. Conditions: none. -/
namespace Go.Cw
open Go Go.Vm Go.RowKit Go.Proofs Go.Cu
attribute [local irreducible] W OpsW Det Fresh New Writes Vm.Pure Makes Changes ExternTo BuildTo ZeroTo FieldTo IndexTo BinTo SliceTo Vm.Enters
set_option linter.unusedVariables false
set_option linter.unusedSimpArgs false
variable {T : Nat → TypeId × Nat × Nat}

theorem bld46 {a b : Fq} : BuildTo Tryd.prog 46 [(0, Cu.encF a), (1, Cu.encF b)] (encF ⟨a, b⟩) := BuildTo.of fun _ => by kernel_rfl
theorem bz46 : ZeroTo Tryd.prog 46 (encF 0) := ZeroTo.of fun _ => by kernel_rfl
theorem en84 : Vm.Enters Tryd.prog 84 := Vm.Enters.of fun _ _ => by kernel_rfl
theorem en66 : Vm.Enters Tryd.prog 66 := Vm.Enters.of fun _ _ => by kernel_rfl
theorem en100 : Vm.Enters Tryd.prog 100 := Vm.Enters.of fun _ _ => by kernel_rfl
theorem en29 : Vm.Enters Tryd.prog 29 := Vm.Enters.of fun _ _ => by kernel_rfl
theorem fl46_0 : TyF Tryd.prog 46 0 0 6 := ⟨⟨29, by kernel_rfl, by kernel_rfl⟩, by decide⟩
theorem fl46_1 : TyF Tryd.prog 46 1 6 6 := ⟨⟨29, by kernel_rfl, by kernel_rfl⟩, by decide⟩
theorem sz46 : sizeIn Tryd.prog 46 = some 12 := by kernel_rfl
theorem ty46 : TyA Tryd.prog 46 12 := ⟨by kernel_rfl, by kernel_rfl⟩
theorem Add_ok {x y : Fq2} {w : World} (hG : Blocks (GH T) w)  : Vm.Pure Tryd.prog 28 #[encF x, encF y] w (encF (x + y)) := by
  refine pure_of_W (n := 16) (args := [encF x, encF y]) Tryd.func28 rfl Tryd.ntmps28 (Nat.le_of_ble_eq_true rfl) hG ?_
  refine sStart ?_
  refine sSeq ?_
  refine W.region ?_
  refine OpsW.fresh (fr_boxW46 rfl) rfl fun b2 => ?_
  refine OpsW.fresh (fr_boxW46 rfl) rfl fun b3 => ?_
  refine OpsW.fresh (fr_alloc z46r) rfl fun b4 => ?_
  refine sNext ?_
  refine W.keep (F' := [(4, _), (3, _), (2, _)]) ⟨rfl, rfl, rfl, trivial⟩ ?_
  refine sSeq ?_
  refine W.draw mixed 11 [[], [0], [], [2], [0, 1, 2, 3], [], [5], [], [7], [0, 1, 2, 3, 4, 5, 6, 7, 8], [0, 1, 2, 3, 4, 5, 6, 7, 8, 9], [0, 1, 2, 3, 4, 5, 6, 7, 8, 9, 10]] (cl_lt (by decide)) ?_
  refine HeadR.start (cl_lt (by decide)) ?_
  refine HeadR.det rfl (fun β hβ => (det_fieldAddr fl46_0 rfl)) ?_
  refine HeadR.det rfl (fun β hβ => (det_loadA ty29 rfl (List.Mem.tail _ (List.Mem.tail _ (List.Mem.head _))) rfl)) ?_
  refine HeadR.det rfl (fun β hβ => (det_fieldAddr fl46_0 rfl)) ?_
  refine HeadR.det rfl (fun β hβ => (det_loadA ty29 rfl (List.Mem.tail _ (List.Mem.head _)) rfl)) ?_
  refine HeadR.det rfl (fun β hβ => (det_call en18 rfl (fun w hb ho => Cu.Add_ok ho.blocks))) ?_
  refine HeadR.det rfl (fun β hβ => (det_fieldAddr fl46_1 rfl)) ?_
  refine HeadR.det rfl (fun β hβ => (det_loadA ty29 rfl (List.Mem.tail _ (List.Mem.tail _ (List.Mem.head _))) rfl)) ?_
  refine HeadR.det rfl (fun β hβ => (det_fieldAddr fl46_1 rfl)) ?_
  refine HeadR.det rfl (fun β hβ => (det_loadA ty29 rfl (List.Mem.tail _ (List.Mem.head _)) rfl)) ?_
  refine HeadR.det rfl (fun β hβ => (det_call en18 rfl (fun w hb ho => Cu.Add_ok ho.blocks))) ?_
  refine HeadR.det rfl (fun β hβ => (det_build rfl bld46)) ?_
  refine HeadR.done ⟨by kernel_rfl, fun β hβ => ?_⟩
  refine OpsW.norm (F' := [(5, _), (6, _), (7, _), (8, _), (9, _), (10, _), (11, _), (12, _), (13, _), (14, _), (15, _), (4, _), (3, _), (2, _)]) (H' := [(_, _), (_, _), (_, _)]) rfl rfl ?_
  refine OpsW.storeW46 rfl rfl (Upd.here) ?_
  refine sNext ?_
  refine W.keep (F' := [(4, _)]) ⟨rfl, trivial⟩ ?_
  refine sRet ?_
  exact done1 Tryd.results28 (rv_cellA ty46 rfl (List.Mem.head _) rfl) rfl
theorem Sub_ok {x y : Fq2} {w : World} (hG : Blocks (GH T) w)  : Vm.Pure Tryd.prog 95 #[encF x, encF y] w (encF (x - y)) := by
  refine pure_of_W (n := 16) (args := [encF x, encF y]) Tryd.func95 rfl Tryd.ntmps95 (Nat.le_of_ble_eq_true rfl) hG ?_
  refine sStart ?_
  refine sSeq ?_
  refine W.region ?_
  refine OpsW.fresh (fr_boxW46 rfl) rfl fun b2 => ?_
  refine OpsW.fresh (fr_boxW46 rfl) rfl fun b3 => ?_
  refine OpsW.fresh (fr_alloc z46r) rfl fun b4 => ?_
  refine sNext ?_
  refine W.keep (F' := [(4, _), (3, _), (2, _)]) ⟨rfl, rfl, rfl, trivial⟩ ?_
  refine sSeq ?_
  refine W.draw mixed 11 [[], [0], [], [2], [0, 1, 2, 3], [], [5], [], [7], [0, 1, 2, 3, 4, 5, 6, 7, 8], [0, 1, 2, 3, 4, 5, 6, 7, 8, 9], [0, 1, 2, 3, 4, 5, 6, 7, 8, 9, 10]] (cl_lt (by decide)) ?_
  refine HeadR.start (cl_lt (by decide)) ?_
  refine HeadR.det rfl (fun β hβ => (det_fieldAddr fl46_0 rfl)) ?_
  refine HeadR.det rfl (fun β hβ => (det_loadA ty29 rfl (List.Mem.tail _ (List.Mem.tail _ (List.Mem.head _))) rfl)) ?_
  refine HeadR.det rfl (fun β hβ => (det_fieldAddr fl46_0 rfl)) ?_
  refine HeadR.det rfl (fun β hβ => (det_loadA ty29 rfl (List.Mem.tail _ (List.Mem.head _)) rfl)) ?_
  refine HeadR.det rfl (fun β hβ => (det_call en62 rfl (fun w hb ho => Cu.Sub_ok ho.blocks))) ?_
  refine HeadR.det rfl (fun β hβ => (det_fieldAddr fl46_1 rfl)) ?_
  refine HeadR.det rfl (fun β hβ => (det_loadA ty29 rfl (List.Mem.tail _ (List.Mem.tail _ (List.Mem.head _))) rfl)) ?_
  refine HeadR.det rfl (fun β hβ => (det_fieldAddr fl46_1 rfl)) ?_
  refine HeadR.det rfl (fun β hβ => (det_loadA ty29 rfl (List.Mem.tail _ (List.Mem.head _)) rfl)) ?_
  refine HeadR.det rfl (fun β hβ => (det_call en62 rfl (fun w hb ho => Cu.Sub_ok ho.blocks))) ?_
  refine HeadR.det rfl (fun β hβ => (det_build rfl bld46)) ?_
  refine HeadR.done ⟨by kernel_rfl, fun β hβ => ?_⟩
  refine OpsW.norm (F' := [(5, _), (6, _), (7, _), (8, _), (9, _), (10, _), (11, _), (12, _), (13, _), (14, _), (15, _), (4, _), (3, _), (2, _)]) (H' := [(_, _), (_, _), (_, _)]) rfl rfl ?_
  refine OpsW.storeW46 rfl rfl (Upd.here) ?_
  refine sNext ?_
  refine W.keep (F' := [(4, _)]) ⟨rfl, trivial⟩ ?_
  refine sRet ?_
  exact done1 Tryd.results95 (rv_cellA ty46 rfl (List.Mem.head _) rfl) rfl
theorem Mul_ok {x y : Fq2} {w : World} (hG : Blocks (GH T) w)  : Vm.Pure Tryd.prog 27 #[encF x, encF y] w (encF (x * y)) := by
  refine pure_of_W (n := 38) (args := [encF x, encF y]) Tryd.func27 rfl Tryd.ntmps27 (Nat.le_of_ble_eq_true rfl) hG ?_
  refine sStart ?_
  refine sSeq ?_
  refine W.region ?_
  refine OpsW.fresh (fr_boxW46 rfl) rfl fun b2 => ?_
  refine OpsW.fresh (fr_boxW46 rfl) rfl fun b3 => ?_
  refine OpsW.fresh (fr_alloc z46r) rfl fun b4 => ?_
  refine sNext ?_
  refine W.keep (F' := [(4, _), (3, _), (2, _)]) ⟨rfl, rfl, rfl, trivial⟩ ?_
  refine sSeq ?_
  refine W.draw mixed 12 [[], [0], [], [2], [0, 1, 2, 3], [], [5], [], [7], [0, 1, 2, 3, 4, 5, 6, 7, 8], [], [], [0, 1, 2, 3, 4, 5, 6, 7, 8, 9, 10, 11], [0, 1, 2, 3, 4, 5, 6, 7, 8, 9, 10, 11, 12]] (cl_lt (by decide)) ?_
  refine HeadR.start (cl_lt (by decide)) ?_
  refine HeadR.det rfl (fun β hβ => (det_fieldAddr fl46_0 rfl)) ?_
  refine HeadR.det rfl (fun β hβ => (det_loadA ty29 rfl (List.Mem.tail _ (List.Mem.tail _ (List.Mem.head _))) rfl)) ?_
  refine HeadR.det rfl (fun β hβ => (det_fieldAddr fl46_0 rfl)) ?_
  refine HeadR.det rfl (fun β hβ => (det_loadA ty29 rfl (List.Mem.tail _ (List.Mem.head _)) rfl)) ?_
  refine HeadR.det rfl (fun β hβ => (det_call en17 rfl (fun w hb ho => Cu.Mul_ok ho.blocks))) ?_
  refine HeadR.det rfl (fun β hβ => (det_fieldAddr fl46_1 rfl)) ?_
  refine HeadR.det rfl (fun β hβ => (det_loadA ty29 rfl (List.Mem.tail _ (List.Mem.tail _ (List.Mem.head _))) rfl)) ?_
  refine HeadR.det rfl (fun β hβ => (det_fieldAddr fl46_1 rfl)) ?_
  refine HeadR.det rfl (fun β hβ => (det_loadA ty29 rfl (List.Mem.tail _ (List.Mem.head _)) rfl)) ?_
  refine HeadR.det rfl (fun β hβ => (det_call en17 rfl (fun w hb ho => Cu.Mul_ok ho.blocks))) ?_
  refine HeadR.fresh rfl (fun β hβ => (fr_alloc z29).new) ?_
  refine HeadR.fresh rfl (fun β hβ => (fr_alloc z29).new) ?_
  refine HeadR.done ⟨by kernel_rfl, fun β hβ => ?_⟩
  refine OpsW.norm (F' := [(8, _), (9, _), (10, _), (11, _), (12, _), (13, _), (14, _), (15, _), (16, _), (17, _), (5, .pointer (some ⟨(β 5).1, 0, none⟩)), (6, .pointer (some ⟨(β 6).1, 0, none⟩)), (4, _), (3, _), (2, _)]) (H' := [(_, _), (_, _), (_, _), (_, _), (_, _)]) rfl rfl ?_
  generalize (β 5).1 = b5
  generalize (β 6).1 = b6
  refine OpsW.store sz29 rfl rfl rfl rfl rfl (Upd.here) rfl ?_
  refine OpsW.store sz29 rfl rfl rfl rfl rfl (Upd.there (Upd.here)) rfl ?_
  refine sNext ?_
  refine W.keep (F' := [(5, _), (6, _), (4, _), (3, _), (2, _)]) ⟨rfl, rfl, rfl, rfl, rfl, trivial⟩ ?_
  refine sSeq ?_
  refine W.draw mixed 12 [[], [0], [], [2], [0, 1, 2, 3], [], [5], [], [7], [0, 1, 2, 3, 4, 5, 6, 7, 8], [0, 1, 2, 3, 4, 5, 6, 7, 8, 9], [], [0, 1, 2, 3, 4, 5, 6, 7, 8, 9, 10, 11]] (cl_lt (by decide)) ?_
  refine HeadR.start (cl_lt (by decide)) ?_
  refine HeadR.det rfl (fun β hβ => (det_fieldAddr fl46_0 rfl)) ?_
  refine HeadR.det rfl (fun β hβ => (det_loadA ty29 rfl (List.Mem.tail _ (List.Mem.tail _ (List.Mem.tail _ (List.Mem.tail _ (List.Mem.head _))))) rfl)) ?_
  refine HeadR.det rfl (fun β hβ => (det_fieldAddr fl46_1 rfl)) ?_
  refine HeadR.det rfl (fun β hβ => (det_loadA ty29 rfl (List.Mem.tail _ (List.Mem.tail _ (List.Mem.tail _ (List.Mem.tail _ (List.Mem.head _))))) rfl)) ?_
  refine HeadR.det rfl (fun β hβ => (det_call en18 rfl (fun w hb ho => Cu.Add_ok ho.blocks))) ?_
  refine HeadR.det rfl (fun β hβ => (det_fieldAddr fl46_0 rfl)) ?_
  refine HeadR.det rfl (fun β hβ => (det_loadA ty29 rfl (List.Mem.tail _ (List.Mem.tail _ (List.Mem.tail _ (List.Mem.head _)))) rfl)) ?_
  refine HeadR.det rfl (fun β hβ => (det_fieldAddr fl46_1 rfl)) ?_
  refine HeadR.det rfl (fun β hβ => (det_loadA ty29 rfl (List.Mem.tail _ (List.Mem.tail _ (List.Mem.tail _ (List.Mem.head _)))) rfl)) ?_
  refine HeadR.det rfl (fun β hβ => (det_call en18 rfl (fun w hb ho => Cu.Add_ok ho.blocks))) ?_
  refine HeadR.det rfl (fun β hβ => (det_call en17 rfl (fun w hb ho => Cu.Mul_ok ho.blocks))) ?_
  refine HeadR.fresh rfl (fun β hβ => (fr_alloc z29).new) ?_
  refine HeadR.done ⟨by kernel_rfl, fun β hβ => ?_⟩
  refine OpsW.norm (F' := [(18, _), (19, _), (20, _), (21, _), (22, _), (23, _), (24, _), (25, _), (26, _), (27, _), (28, _), (7, .pointer (some ⟨(β 7).1, 0, none⟩)), (5, _), (6, _), (4, _), (3, _), (2, _)]) (H' := [(_, _), (_, _), (_, _), (_, _), (_, _), (_, _)]) rfl rfl ?_
  generalize (β 7).1 = b7
  refine OpsW.store sz29 rfl rfl rfl rfl rfl (Upd.here) rfl ?_
  refine sNext ?_
  refine W.keep (F' := [(7, _), (5, _), (6, _), (4, _)]) ⟨rfl, rfl, rfl, rfl, trivial⟩ ?_
  refine sSeq ?_
  refine W.draw mixed 9 [[], [], [0, 1], [], [], [0, 1, 2, 3, 4], [], [0, 1, 2, 3, 4, 5, 6], [0, 1, 2, 3, 4, 5, 6, 7], [0, 1, 2, 3, 4, 5, 6, 7, 8]] (cl_lt (by decide)) ?_
  refine HeadR.start (cl_lt (by decide)) ?_
  refine HeadR.det rfl (fun β hβ => (det_loadA ty29 rfl (List.Mem.tail _ (List.Mem.head _)) rfl)) ?_
  refine HeadR.det rfl (fun β hβ => (det_loadA ty29 rfl (List.Mem.tail _ (List.Mem.tail _ (List.Mem.head _))) rfl)) ?_
  refine HeadR.det rfl (fun β hβ => (det_call en62 rfl (fun w hb ho => Cu.Sub_ok ho.blocks))) ?_
  refine HeadR.det rfl (fun β hβ => (det_loadA ty29 rfl (List.Mem.head _) rfl)) ?_
  refine HeadR.det rfl (fun β hβ => (det_loadA ty29 rfl (List.Mem.tail _ (List.Mem.head _)) rfl)) ?_
  refine HeadR.det rfl (fun β hβ => (det_call en62 rfl (fun w hb ho => Cu.Sub_ok ho.blocks))) ?_
  refine HeadR.det rfl (fun β hβ => (det_loadA ty29 rfl (List.Mem.tail _ (List.Mem.tail _ (List.Mem.head _))) rfl)) ?_
  refine HeadR.det rfl (fun β hβ => (det_call en62 rfl (fun w hb ho => Cu.Sub_ok ho.blocks))) ?_
  refine HeadR.det rfl (fun β hβ => (det_build rfl bld46)) ?_
  refine HeadR.done ⟨by kernel_rfl, fun β hβ => ?_⟩
  refine OpsW.norm (F' := [(29, _), (30, _), (31, _), (32, _), (33, _), (34, _), (35, _), (36, _), (37, _), (7, _), (5, _), (6, _), (4, _)]) (H' := [(_, _), (_, _), (_, _), (_, _), (_, _), (_, _)]) rfl rfl ?_
  refine OpsW.storeW46 rfl rfl (Upd.there (Upd.there (Upd.there (Upd.here)))) ?_
  refine sNext ?_
  refine W.keep (F' := [(4, _)]) ⟨rfl, trivial⟩ ?_
  refine sRet ?_
  exact done1 Tryd.results27 (rv_cellA ty46 rfl (List.Mem.tail _ (List.Mem.tail _ (List.Mem.tail _ (List.Mem.head _)))) rfl) rfl
theorem Neg_ok {x : Fq2} {w : World} (hG : Blocks (GH T) w)  : Vm.Pure Tryd.prog 33 #[encF x] w (encF (0 - x)) := by
  refine pure_of_W (n := 10) (args := [encF x]) Tryd.func33 rfl Tryd.ntmps33 (Nat.le_of_ble_eq_true rfl) hG ?_
  refine sStart ?_
  refine sSeq ?_
  refine W.region ?_
  refine OpsW.fresh (fr_boxW46 rfl) rfl fun b1 => ?_
  refine OpsW.fresh (fr_alloc z46r) rfl fun b2 => ?_
  refine sNext ?_
  refine W.keep (F' := [(2, _), (1, _)]) ⟨rfl, rfl, trivial⟩ ?_
  refine sSeq ?_
  refine W.draw mixed 7 [[], [0], [0, 1], [], [3], [0, 1, 2, 3, 4], [0, 1, 2, 3, 4, 5], [0, 1, 2, 3, 4, 5, 6]] (cl_lt (by decide)) ?_
  refine HeadR.start (cl_lt (by decide)) ?_
  refine HeadR.det rfl (fun β hβ => (det_fieldAddr fl46_0 rfl)) ?_
  refine HeadR.det rfl (fun β hβ => (det_loadA ty29 rfl (List.Mem.tail _ (List.Mem.head _)) rfl)) ?_
  refine HeadR.det rfl (fun β hβ => (det_call en23 rfl (fun w hb ho => Cu.Neg_ok ho.blocks))) ?_
  refine HeadR.det rfl (fun β hβ => (det_fieldAddr fl46_1 rfl)) ?_
  refine HeadR.det rfl (fun β hβ => (det_loadA ty29 rfl (List.Mem.tail _ (List.Mem.head _)) rfl)) ?_
  refine HeadR.det rfl (fun β hβ => (det_call en23 rfl (fun w hb ho => Cu.Neg_ok ho.blocks))) ?_
  refine HeadR.det rfl (fun β hβ => (det_build rfl bld46)) ?_
  refine HeadR.done ⟨by kernel_rfl, fun β hβ => ?_⟩
  refine OpsW.norm (F' := [(3, _), (4, _), (5, _), (6, _), (7, _), (8, _), (9, _), (2, _), (1, _)]) (H' := [(_, _), (_, _)]) rfl rfl ?_
  refine OpsW.storeW46 rfl rfl (Upd.here) ?_
  refine sNext ?_
  refine W.keep (F' := [(2, _)]) ⟨rfl, trivial⟩ ?_
  refine sRet ?_
  exact done1 Tryd.results33 (rv_cellA ty46 rfl (List.Mem.head _) rfl) rfl
theorem Conj_ok {x : Fq2} {w : World} (hG : Blocks (GH T) w)  : Vm.Pure Tryd.prog 84 #[encF x] w (encF (conj2 x)) := by
  refine pure_of_W (n := 9) (args := [encF x]) Tryd.func84 rfl Tryd.ntmps84 (Nat.le_of_ble_eq_true rfl) hG ?_
  refine sStart ?_
  refine sSeq ?_
  refine W.region ?_
  refine OpsW.fresh (fr_boxW46 rfl) rfl fun b1 => ?_
  refine OpsW.fresh (fr_alloc z46r) rfl fun b2 => ?_
  refine sNext ?_
  refine W.keep (F' := [(2, _), (1, _)]) ⟨rfl, rfl, trivial⟩ ?_
  refine sSeq ?_
  refine W.draw mixed 6 [[], [0], [], [2], [2, 3], [0, 1, 2, 3, 4], [0, 1, 2, 3, 4, 5]] (cl_lt (by decide)) ?_
  refine HeadR.start (cl_lt (by decide)) ?_
  refine HeadR.det rfl (fun β hβ => (det_fieldAddr fl46_0 rfl)) ?_
  refine HeadR.det rfl (fun β hβ => (det_loadA ty29 rfl (List.Mem.tail _ (List.Mem.head _)) rfl)) ?_
  refine HeadR.det rfl (fun β hβ => (det_fieldAddr fl46_1 rfl)) ?_
  refine HeadR.det rfl (fun β hβ => (det_loadA ty29 rfl (List.Mem.tail _ (List.Mem.head _)) rfl)) ?_
  refine HeadR.det rfl (fun β hβ => (det_call en23 rfl (fun w hb ho => Cu.Neg_ok ho.blocks))) ?_
  refine HeadR.det rfl (fun β hβ => (det_build rfl bld46)) ?_
  refine HeadR.done ⟨by kernel_rfl, fun β hβ => ?_⟩
  refine OpsW.norm (F' := [(3, _), (4, _), (5, _), (6, _), (7, _), (8, _), (2, _), (1, _)]) (H' := [(_, _), (_, _)]) rfl rfl ?_
  refine OpsW.storeW46 rfl rfl (Upd.here) ?_
  refine sNext ?_
  refine W.keep (F' := [(2, _)]) ⟨rfl, trivial⟩ ?_
  refine sRet ?_
  exact done1 Tryd.results84 (rv_cellA ty46 rfl (List.Mem.head _) rfl) rfl
theorem Square_ok {x : Fq2} {w : World} (hG : Blocks (GH T) w)  : Vm.Pure Tryd.prog 26 #[encF x] w (encF (x * x)) := by
  refine pure_of_W (n := 24) (args := [encF x]) Tryd.func26 rfl Tryd.ntmps26 (Nat.le_of_ble_eq_true rfl) hG ?_
  refine sStart ?_
  refine sSeq ?_
  refine W.region ?_
  refine OpsW.fresh (fr_boxW46 rfl) rfl fun b1 => ?_
  refine OpsW.fresh (fr_alloc z46r) rfl fun b2 => ?_
  refine sNext ?_
  refine W.keep (F' := [(2, _), (1, _)]) ⟨rfl, rfl, trivial⟩ ?_
  refine sSeq ?_
  refine W.region ?_
  refine OpsW.det (det_fieldAddr fl46_0 rfl) rfl ?_
  refine OpsW.det (det_loadA ty29 rfl (List.Mem.tail _ (List.Mem.head _)) rfl) rfl ?_
  refine OpsW.det (det_fieldAddr fl46_1 rfl) rfl ?_
  refine OpsW.det (det_loadA ty29 rfl (List.Mem.tail _ (List.Mem.head _)) rfl) rfl ?_
  refine OpsW.det (det_call en17 rfl (fun w hb ho => Cu.Mul_ok ho.blocks)) rfl ?_
  refine OpsW.fresh (fr_alloc z29) rfl fun b3 => ?_
  refine OpsW.store sz29 rfl rfl rfl rfl rfl (Upd.here) rfl ?_
  refine sNext ?_
  refine W.keep (F' := [(3, _), (2, _), (1, _)]) ⟨rfl, rfl, rfl, trivial⟩ ?_
  refine sSeq ?_
  refine W.draw mixed 15 [[], [0], [], [2], [0, 1, 2, 3], [], [5], [], [7], [0, 1, 2, 3, 4, 5, 6, 7, 8], [0, 1, 2, 3, 4, 5, 6, 7, 8, 9], [], [], [0, 1, 2, 3, 4, 5, 6, 7, 8, 9, 10, 11, 12], [0, 1, 2, 3, 4, 5, 6, 7, 8, 9, 10, 11, 12, 13], [0, 1, 2, 3, 4, 5, 6, 7, 8, 9, 10, 11, 12, 13, 14]] (cl_lt (by decide)) ?_
  refine HeadR.start (cl_lt (by decide)) ?_
  refine HeadR.det rfl (fun β hβ => (det_fieldAddr fl46_0 rfl)) ?_
  refine HeadR.det rfl (fun β hβ => (det_loadA ty29 rfl (List.Mem.tail _ (List.Mem.tail _ (List.Mem.head _))) rfl)) ?_
  refine HeadR.det rfl (fun β hβ => (det_fieldAddr fl46_1 rfl)) ?_
  refine HeadR.det rfl (fun β hβ => (det_loadA ty29 rfl (List.Mem.tail _ (List.Mem.tail _ (List.Mem.head _))) rfl)) ?_
  refine HeadR.det rfl (fun β hβ => (det_call en18 rfl (fun w hb ho => Cu.Add_ok ho.blocks))) ?_
  refine HeadR.det rfl (fun β hβ => (det_fieldAddr fl46_0 rfl)) ?_
  refine HeadR.det rfl (fun β hβ => (det_loadA ty29 rfl (List.Mem.tail _ (List.Mem.tail _ (List.Mem.head _))) rfl)) ?_
  refine HeadR.det rfl (fun β hβ => (det_fieldAddr fl46_1 rfl)) ?_
  refine HeadR.det rfl (fun β hβ => (det_loadA ty29 rfl (List.Mem.tail _ (List.Mem.tail _ (List.Mem.head _))) rfl)) ?_
  refine HeadR.det rfl (fun β hβ => (det_call en62 rfl (fun w hb ho => Cu.Sub_ok ho.blocks))) ?_
  refine HeadR.det rfl (fun β hβ => (det_call en17 rfl (fun w hb ho => Cu.Mul_ok ho.blocks))) ?_
  refine HeadR.det rfl (fun β hβ => (det_loadA ty29 rfl (List.Mem.head _) rfl)) ?_
  refine HeadR.det rfl (fun β hβ => (det_loadA ty29 rfl (List.Mem.head _) rfl)) ?_
  refine HeadR.det rfl (fun β hβ => (det_call en18 rfl (fun w hb ho => Cu.Add_ok ho.blocks))) ?_
  refine HeadR.det rfl (fun β hβ => (det_build rfl bld46)) ?_
  refine HeadR.done ⟨by kernel_rfl, fun β hβ => ?_⟩
  refine OpsW.norm (F' := [(9, _), (10, _), (11, _), (12, _), (13, _), (14, _), (15, _), (16, _), (17, _), (18, _), (19, _), (20, _), (21, _), (22, _), (23, _), (3, _), (2, _), (1, _)]) (H' := [(_, _), (_, _), (_, _)]) rfl rfl ?_
  refine OpsW.storeW46 rfl rfl (Upd.there (Upd.here)) ?_
  refine sNext ?_
  refine W.keep (F' := [(2, _)]) ⟨rfl, trivial⟩ ?_
  refine sRet ?_
  exact done1 Tryd.results26 (rv_cellA ty46 rfl (List.Mem.tail _ (List.Mem.head _)) rfl) (congrArg encF (sq2 x))
theorem Scale_ok {x : Fq2} {k : Fq} {w : World} (hG : Blocks (GH T) w)  : Vm.Pure Tryd.prog 100 #[encF x, Cu.encF k] w (encF (scale2 x k)) := by
  refine pure_of_W (n := 14) (args := [encF x, Cu.encF k]) Tryd.func100 rfl Tryd.ntmps100 (Nat.le_of_ble_eq_true rfl) hG ?_
  refine sStart ?_
  refine sSeq ?_
  refine W.region ?_
  refine OpsW.fresh (fr_boxW46 rfl) rfl fun b2 => ?_
  refine OpsW.fresh (fr_box rfl rfl) rfl fun b3 => ?_
  refine OpsW.fresh (fr_alloc z46r) rfl fun b4 => ?_
  refine sNext ?_
  refine W.keep (F' := [(4, _), (3, _), (2, _)]) ⟨rfl, rfl, rfl, trivial⟩ ?_
  refine sSeq ?_
  refine W.draw mixed 9 [[], [0], [], [0, 1, 2], [], [4], [], [0, 1, 2, 3, 4, 5, 6], [0, 1, 2, 3, 4, 5, 6, 7], [0, 1, 2, 3, 4, 5, 6, 7, 8]] (cl_lt (by decide)) ?_
  refine HeadR.start (cl_lt (by decide)) ?_
  refine HeadR.det rfl (fun β hβ => (det_fieldAddr fl46_0 rfl)) ?_
  refine HeadR.det rfl (fun β hβ => (det_loadA ty29 rfl (List.Mem.tail _ (List.Mem.tail _ (List.Mem.head _))) rfl)) ?_
  refine HeadR.det rfl (fun β hβ => (det_loadA ty29 rfl (List.Mem.tail _ (List.Mem.head _)) rfl)) ?_
  refine HeadR.det rfl (fun β hβ => (det_call en17 rfl (fun w hb ho => Cu.Mul_ok ho.blocks))) ?_
  refine HeadR.det rfl (fun β hβ => (det_fieldAddr fl46_1 rfl)) ?_
  refine HeadR.det rfl (fun β hβ => (det_loadA ty29 rfl (List.Mem.tail _ (List.Mem.tail _ (List.Mem.head _))) rfl)) ?_
  refine HeadR.det rfl (fun β hβ => (det_loadA ty29 rfl (List.Mem.tail _ (List.Mem.head _)) rfl)) ?_
  refine HeadR.det rfl (fun β hβ => (det_call en17 rfl (fun w hb ho => Cu.Mul_ok ho.blocks))) ?_
  refine HeadR.det rfl (fun β hβ => (det_build rfl bld46)) ?_
  refine HeadR.done ⟨by kernel_rfl, fun β hβ => ?_⟩
  refine OpsW.norm (F' := [(5, _), (6, _), (7, _), (8, _), (9, _), (10, _), (11, _), (12, _), (13, _), (4, _), (3, _), (2, _)]) (H' := [(_, _), (_, _), (_, _)]) rfl rfl ?_
  refine OpsW.storeW46 rfl rfl (Upd.here) ?_
  refine sNext ?_
  refine W.keep (F' := [(4, _)]) ⟨rfl, trivial⟩ ?_
  refine sRet ?_
  exact done1 Tryd.results100 (rv_cellA ty46 rfl (List.Mem.head _) rfl) rfl
theorem Norm_ok {x : Fq2} {w : World} (hG : Blocks (GH T) w)  : Vm.Pure Tryd.prog 66 #[encF x] w (Cu.encF (norm2 x)) := by
  refine pure_of_W (n := 10) (args := [encF x]) Tryd.func66 rfl Tryd.ntmps66 (Nat.le_of_ble_eq_true rfl) hG ?_
  refine sStart ?_
  refine sSeq ?_
  refine W.region ?_
  refine OpsW.fresh (fr_boxW46 rfl) rfl fun b1 => ?_
  refine OpsW.fresh (fr_alloc z29) rfl fun b2 => ?_
  refine sNext ?_
  refine W.keep (F' := [(2, _), (1, _)]) ⟨rfl, rfl, trivial⟩ ?_
  refine sSeq ?_
  refine W.draw mixed 7 [[], [0], [0, 1], [], [3], [0, 1, 2, 3, 4], [0, 1, 2, 3, 4, 5], [0, 1, 2, 3, 4, 5, 6]] (cl_lt (by decide)) ?_
  refine HeadR.start (cl_lt (by decide)) ?_
  refine HeadR.det rfl (fun β hβ => (det_fieldAddr fl46_0 rfl)) ?_
  refine HeadR.det rfl (fun β hβ => (det_loadA ty29 rfl (List.Mem.tail _ (List.Mem.head _)) rfl)) ?_
  refine HeadR.det rfl (fun β hβ => (det_call en16 rfl (fun w hb ho => Cu.Square_ok ho.blocks))) ?_
  refine HeadR.det rfl (fun β hβ => (det_fieldAddr fl46_1 rfl)) ?_
  refine HeadR.det rfl (fun β hβ => (det_loadA ty29 rfl (List.Mem.tail _ (List.Mem.head _)) rfl)) ?_
  refine HeadR.det rfl (fun β hβ => (det_call en16 rfl (fun w hb ho => Cu.Square_ok ho.blocks))) ?_
  refine HeadR.det rfl (fun β hβ => (det_call en18 rfl (fun w hb ho => Cu.Add_ok ho.blocks))) ?_
  refine HeadR.done ⟨by kernel_rfl, fun β hβ => ?_⟩
  refine OpsW.norm (F' := [(3, _), (4, _), (5, _), (6, _), (7, _), (8, _), (9, _), (2, _), (1, _)]) (H' := [(_, _), (_, _)]) rfl rfl ?_
  refine OpsW.store sz29 rfl rfl rfl rfl rfl (Upd.here) rfl ?_
  refine sNext ?_
  refine W.keep (F' := [(2, _)]) ⟨rfl, trivial⟩ ?_
  refine sRet ?_
  exact done1 Tryd.results66 (rv_cellA ty29 rfl (List.Mem.head _) rfl) rfl
theorem Inv_ok {x : Fq2} {w : World} (hG : Blocks (GH T) w)  : Vm.Pure Tryd.prog 97 #[encF x] w (encF (inv2 x)) := by
  refine pure_of_W (n := 9) (args := [encF x]) Tryd.func97 rfl Tryd.ntmps97 (Nat.le_of_ble_eq_true rfl) hG ?_
  refine sStart ?_
  refine sSeq ?_
  refine W.region ?_
  refine OpsW.fresh (fr_boxW46 rfl) rfl fun b1 => ?_
  refine OpsW.fresh (fr_alloc z46r) rfl fun b2 => ?_
  refine sNext ?_
  refine W.keep (F' := [(2, _), (1, _)]) ⟨rfl, rfl, trivial⟩ ?_
  refine sSeq ?_
  refine W.draw mixed 6 [[], [0], [], [0, 1, 2], [0, 1, 2, 3], [0, 1, 2, 3, 4], [0, 1, 2, 3, 4, 5]] (cl_lt (by decide)) ?_
  refine HeadR.start (cl_lt (by decide)) ?_
  refine HeadR.det rfl (fun β hβ => (det_loadW46 rfl (List.Mem.tail _ (List.Mem.head _)))) ?_
  refine HeadR.det rfl (fun β hβ => (det_call en84 rfl (fun w hb ho => Conj_ok ho.blocks))) ?_
  refine HeadR.det rfl (fun β hβ => (det_loadW46 rfl (List.Mem.tail _ (List.Mem.head _)))) ?_
  refine HeadR.det rfl (fun β hβ => (det_call en66 rfl (fun w hb ho => Norm_ok ho.blocks))) ?_
  refine HeadR.det rfl (fun β hβ => (det_call en67 rfl (fun w hb ho => Cu.Inv_ok ho.blocks))) ?_
  refine HeadR.det rfl (fun β hβ => (det_call en100 rfl (fun w hb ho => Scale_ok ho.blocks))) ?_
  refine HeadR.done ⟨by kernel_rfl, fun β hβ => ?_⟩
  refine OpsW.norm (F' := [(3, _), (4, _), (5, _), (6, _), (7, _), (8, _), (2, _), (1, _)]) (H' := [(_, _), (_, _)]) rfl rfl ?_
  refine OpsW.storeW46 rfl rfl (Upd.here) ?_
  refine sNext ?_
  refine W.keep (F' := [(2, _)]) ⟨rfl, trivial⟩ ?_
  refine sRet ?_
  exact done1 Tryd.results97 (rv_cellA ty46 rfl (List.Mem.head _) rfl) rfl
theorem Zero_ok {x : Fq2} {w : World} (hG : Blocks (GH T) w)  : Vm.Pure Tryd.prog 94 #[encF x] w (.bool (decide (x = 0))) := by
  refine pure_of_W (n := 6) (args := [encF x]) Tryd.func94 rfl Tryd.ntmps94 (Nat.le_of_ble_eq_true rfl) hG ?_
  refine sStart ?_
  refine sSeq ?_
  refine W.region ?_
  refine OpsW.fresh (fr_boxW46 rfl) rfl fun b1 => ?_
  refine OpsW.det (det_assign rfl) rfl ?_
  refine sNext ?_
  refine W.keep (F' := [(1, _)]) ⟨rfl, trivial⟩ ?_
  refine sSeq ?_
  refine W.region ?_
  refine OpsW.det (det_loadW46 rfl (List.Mem.head _)) rfl ?_
  refine OpsW.det (det_zero bz46) rfl ?_
  refine OpsW.det (det_eql46 rfl rfl) rfl ?_
  refine OpsW.det (det_assign rfl) rfl ?_
  refine sNext ?_
  refine W.keep (F' := [(2, _)]) ⟨rfl, trivial⟩ ?_
  refine sRet ?_
  exact done1 Tryd.results94 (rv_tmp rfl) rfl
theorem Small_ok {m n : Nat} (hm : m < 18446744073709551616) (hn : n < 18446744073709551616) {w : World} (hG : Blocks (GH T) w)  : Vm.Pure Tryd.prog 29 #[u64 m, u64 n] w (encF (small m n)) := by
  refine pure_of_W (n := 10) (args := [u64 m, u64 n]) Tryd.func29 rfl Tryd.ntmps29 (Nat.le_of_ble_eq_true rfl) hG ?_
  refine sStart ?_
  refine sSeq ?_
  refine W.region ?_
  refine OpsW.fresh (fr_alloc z46r) rfl fun b4 => ?_
  refine sNext ?_
  refine sSeq ?_
  refine W.region ?_
  refine OpsW.det (det_move rfl) rfl ?_
  refine OpsW.det (det_call en19 rfl (fun w hb ho => Cu.Of_ok hm ho.blocks)) rfl ?_
  refine OpsW.det (det_move rfl) rfl ?_
  refine OpsW.det (det_call en19 rfl (fun w hb ho => Cu.Of_ok hn ho.blocks)) rfl ?_
  refine OpsW.det (det_build rfl bld46) rfl ?_
  refine OpsW.storeW46 rfl rfl (Upd.here) ?_
  refine sNext ?_
  refine W.keep (F' := [(4, _)]) ⟨rfl, trivial⟩ ?_
  refine sRet ?_
  exact done1 Tryd.results29 (rv_cellA ty46 rfl (List.Mem.head _) rfl) rfl
theorem four_ok  {w : World} (hG : Blocks (GH T) w)  : Vm.Pure Tryd.prog 72 #[] w (encF (small 4 4)) := by
  refine pure_of_W (n := 2) (args := []) Tryd.func72 rfl Tryd.ntmps72 (Nat.le_of_ble_eq_true rfl) hG ?_
  refine sStart ?_
  refine sSeq ?_
  refine W.region ?_
  refine OpsW.fresh (fr_alloc z46r) rfl fun b0 => ?_
  refine sNext ?_
  refine sSeq ?_
  refine W.region ?_
  refine OpsW.det (det_call en29 rfl (fun w hb ho => Small_ok (m := 4) (n := 4) (by decide) (by decide) ho.blocks)) rfl ?_
  refine OpsW.storeW46 rfl rfl (Upd.here) ?_
  refine sNext ?_
  refine W.keep (F' := [(0, _)]) ⟨rfl, trivial⟩ ?_
  refine sRet ?_
  exact done1 Tryd.results72 (rv_cellA ty46 rfl (List.Mem.head _) rfl) rfl
theorem one_ok  {w : World} (hG : Blocks (GH T) w)  : Vm.Pure Tryd.prog 99 #[] w (encF (small 1 0)) := by
  refine pure_of_W (n := 2) (args := []) Tryd.func99 rfl Tryd.ntmps99 (Nat.le_of_ble_eq_true rfl) hG ?_
  refine sStart ?_
  refine sSeq ?_
  refine W.region ?_
  refine OpsW.fresh (fr_alloc z46r) rfl fun b0 => ?_
  refine sNext ?_
  refine sSeq ?_
  refine W.region ?_
  refine OpsW.det (det_call en29 rfl (fun w hb ho => Small_ok (m := 1) (n := 0) (by decide) (by decide) ho.blocks)) rfl ?_
  refine OpsW.storeW46 rfl rfl (Upd.here) ?_
  refine sNext ?_
  refine W.keep (F' := [(0, _)]) ⟨rfl, trivial⟩ ?_
  refine sRet ?_
  exact done1 Tryd.results99 (rv_cellA ty46 rfl (List.Mem.head _) rfl) rfl

end Go.Cw

/- The field with i: numbers read, roots: the walks. Conditions: none. -/
namespace Go.Cw
open Go Go.Vm Go.RowKit Go.Proofs Go.Cu
attribute [local irreducible] W OpsW Det Fresh New Writes Vm.Pure Makes Changes ExternTo BuildTo ZeroTo FieldTo IndexTo BinTo SliceTo Vm.Enters
set_option linter.unusedVariables false
set_option linter.unusedSimpArgs false
variable {T : Nat → TypeId × Nat × Nat}

def odd2 (x : Fq2) : Bool := if x.a = 0 then oddF x.b else oddF x.a
theorem odd2_yes {x : Fq2} (h : decide (x.a = 0) = true) : odd2 x = oddF x.b := if_pos (of_decide_eq_true h)
theorem odd2_no {x : Fq2} (h : decide (x.a = 0) = false) : odd2 x = oddF x.a := if_neg (of_decide_eq_false h)
/-- 96 bytes: b first. -/
def read2 (l : List Nat) : Fq2 × Int := if l.length ≠ 96 then (0, 10) else if (readF (l.take 48)).2 ≠ 0 ∨ (readF (l.drop 48)).2 ≠ 0 then (0, 12) else (⟨(readF (l.drop 48)).1, (readF (l.take 48)).1⟩, 0)
theorem read2_len {l : List Nat} (h : l.length ≠ 96) : read2 l = (0, 10) := if_pos h
theorem read2_no {l : List Nat} (h : l.length = 96) (h2 : (readF (l.take 48)).2 ≠ 0 ∨ (readF (l.drop 48)).2 ≠ 0) : read2 l = (0, 12) := by unfold read2; rw [if_neg (by omega), if_pos h2]
theorem read2_yes {l : List Nat} (h : l.length = 96) (h1 : (readF (l.take 48)).2 = 0) (h2 : (readF (l.drop 48)).2 = 0) : read2 l = (⟨(readF (l.drop 48)).1, (readF (l.take 48)).1⟩, 0) := by
  unfold read2; rw [if_neg (by omega), if_neg (fun h => h.elim (fun h => h h1) (fun h => h h2))]
theorem read2_post {l : List Nat} {x : Fq2} {e : Int} (h : read2 l = (x, e)) : Value.tuple #[encF x, .int .i64 e] = .tuple #[encF (read2 l).1, .int .i64 (read2 l).2] := by rw [h]
/-- A piece of a slice of bytes. -/
theorem Bs_take {G' : Hp} {b o cap k : Nat} {l : List Nat} {ad : Option Addr} (hB : Bs G' (.slice (some ⟨b, o, none⟩) l.length cap) l) (hk : k ≤ l.length) : Bs G' (.slice (some ⟨b, o, none⟩) k cap) (l.take k) := by
  have hl : (l.take k).length = k := by rw [List.length_take]; omega
  refine ⟨⟨_, _, by rw [hl]⟩, fun c hc => hB.small c (List.mem_of_mem_take hc), fun h => ?_⟩
  obtain ⟨b', o', cap', cs, e, fr, hv, hm, hcap, hcs⟩ := hB.all (by omega)
  simp only [Value.slice.injEq, Option.some.injEq, Addr.mk.injEq] at hv
  obtain ⟨⟨rfl, rfl, _⟩, _, rfl⟩ := hv
  exact ⟨b, o, cap, cs, e, fr, by rw [hl], hm, by omega, fun i hi => by rw [hcs i (by omega), List.getElem_take]⟩
theorem Bs_drop {G' : Hp} {b o cap k : Nat} {l : List Nat} (hB : Bs G' (.slice (some ⟨b, o, none⟩) l.length cap) l) (hk : k < l.length) : Bs G' (.slice (some ⟨b, o + k, none⟩) (l.length - k) (cap - k)) (l.drop k) := by
  have hl : (l.drop k).length = l.length - k := List.length_drop
  refine ⟨⟨_, _, by rw [hl]⟩, fun c hc => hB.small c (List.mem_of_mem_drop hc), fun h => ?_⟩
  obtain ⟨b', o', cap', cs, e, fr, hv, hm, hcap, hcs⟩ := hB.all (by omega)
  simp only [Value.slice.injEq, Option.some.injEq, Addr.mk.injEq] at hv
  obtain ⟨⟨rfl, rfl, _⟩, _, rfl⟩ := hv
  exact ⟨b, o + k, cap - k, cs, e, fr, by rw [hl], hm, by omega, fun i hi => by rw [Nat.add_assoc, hcs (k + i) (by omega), List.getElem_drop]⟩

/-- The root by halves: f tries, the first with n. -/
def s2from (x : Fq2) (h : Fq) : Nat → Fq → Fq2 × Bool
  | 0, _ => (0, false)
  | f + 1, n => if (sqrtF ((x.a + n) * h)).2 = true ∧ (sqrtF ((x.a + n) * h)).1 ≠ 0 then (⟨(sqrtF ((x.a + n) * h)).1, x.b * h * inv (sqrtF ((x.a + n) * h)).1⟩, true) else s2from x h f (0 - n)
def sqrt2 (x : Fq2) : Fq2 × Bool :=
  if x.b = 0 then (if (sqrtF x.a).2 = true then (⟨(sqrtF x.a).1, 0⟩, true) else (⟨0, (sqrtF (0 - x.a)).1⟩, true))
  else if (sqrtF (norm2 x)).2 = true then s2from x (inv (Zp.of 2)) 2 (sqrtF (norm2 x)).1 else (0, false)
theorem sqrt2_a {x : Fq2} (h : decide (x.b = 0) = true) (h2 : (sqrtF x.a).2 = true) : sqrt2 x = (⟨(sqrtF x.a).1, 0⟩, true) := (if_pos (of_decide_eq_true h)).trans (if_pos h2)
theorem sqrt2_b {x : Fq2} (h : decide (x.b = 0) = true) (h2 : (sqrtF x.a).2 = false) : sqrt2 x = (⟨0, (sqrtF (0 - x.a)).1⟩, true) := (if_pos (of_decide_eq_true h)).trans (if_neg (by rw [h2]; decide))
theorem sqrt2_c {x : Fq2} (h : decide (x.b = 0) = false) (h2 : (!(sqrtF (norm2 x)).2) = true) : sqrt2 x = (0, false) := (if_neg (of_decide_eq_false h)).trans (if_neg (by simpa using h2))
theorem sqrt2_d {x : Fq2} (h : decide (x.b = 0) = false) (h2 : (!(sqrtF (norm2 x)).2) = false) : sqrt2 x = s2from x (inv (Zp.of 2)) 2 (sqrtF (norm2 x)).1 := (if_neg (of_decide_eq_false h)).trans (if_pos (by simpa using h2))
theorem s2_hit {x : Fq2} {h n : Fq} {i : Nat} {r : Fq2 × Bool} (hi : i < 2) (hr : r = s2from x h (2 - i) n) (h1 : (sqrtF ((x.a + n) * h)).2 = true) (h2 : (!decide ((sqrtF ((x.a + n) * h)).1 = 0)) = true) :
    r = (⟨(sqrtF ((x.a + n) * h)).1, x.b * h * inv (sqrtF ((x.a + n) * h)).1⟩, true) := by
  rw [hr, show 2 - i = (2 - (i + 1)) + 1 by omega, s2from, if_pos ⟨h1, by simpa using h2⟩]
theorem s2_no {x : Fq2} {h n : Fq} {i : Nat} {r : Fq2 × Bool} (hi : i < 2) (hr : r = s2from x h (2 - i) n) (h1 : (sqrtF ((x.a + n) * h)).2 = false) : r = s2from x h (2 - (i + 1)) (0 - n) := by
  rw [hr, show 2 - i = (2 - (i + 1)) + 1 by omega, s2from, if_neg (by rw [h1]; simp)]
theorem s2_zero {x : Fq2} {h n : Fq} {i : Nat} {r : Fq2 × Bool} (hi : i < 2) (hr : r = s2from x h (2 - i) n) (h2 : (!decide ((sqrtF ((x.a + n) * h)).1 = 0)) = false) : r = s2from x h (2 - (i + 1)) (0 - n) := by
  rw [hr, show 2 - i = (2 - (i + 1)) + 1 by omega, s2from, if_neg (by
    have h2 : (sqrtF ((x.a + n) * h)).1 = 0 := by simpa using h2
    rw [h2]; simp)]
theorem s2_end {x : Fq2} {h n : Fq} {i : Nat} {r : Fq2 × Bool} (hi : i ≤ 2) (hi2 : ¬ i < 2) (hr : r = s2from x h (2 - i) n) : r = (0, false) := by
  rw [hr, show 2 - i = 0 by omega, s2from]
theorem sqrt2_post {x y : Fq2} {b : Bool} (h : sqrt2 x = (y, b)) : Value.tuple #[encF y, .bool b] = .tuple #[encF (sqrt2 x).1, .bool (sqrt2 x).2] := by rw [h]

theorem bld46_0 {a : Fq} : BuildTo Tryd.prog 46 [(0, Cu.encF a)] (encF ⟨a, 0⟩) := BuildTo.of fun _ => by kernel_rfl
theorem bld46_1 {b : Fq} : BuildTo Tryd.prog 46 [(1, Cu.encF b)] (encF ⟨0, b⟩) := BuildTo.of fun _ => by kernel_rfl
theorem ty32 : TyC Tryd.prog 32 := ⟨by kernel_rfl, by kernel_rfl⟩
theorem Read_ok {G' : Hp} {v : Value} {l : List Nat} (hB : Bs G' v l) {w : World} (hG : Blocks (G' ++ GH T) w)  : Vm.Pure Tryd.prog 25 #[v] w (.tuple #[encF (read2 l).1, .int .i64 (read2 l).2]) := by
  obtain ⟨ad, cap, hvv⟩ := hB.shape
  refine pure_of_W (n := 34) (args := [v]) Tryd.func25 rfl Tryd.ntmps25 (Nat.le_of_ble_eq_true rfl) hG ?_
  refine sStart ?_
  refine sSeq ?_
  subst hvv
  refine W.region ?_
  refine OpsW.fresh (fr_alloc z46r) rfl fun b2 => ?_
  refine OpsW.det (det_assign rfl) rfl ?_
  refine sNext ?_
  refine W.keep (F' := [(2, _), (0, _)]) ⟨rfl, rfl, trivial⟩ ?_
  refine sSeq ?_
  refine sSeq ?_
  refine W.region ?_
  refine OpsW.det (det_move rfl) rfl ?_
  refine OpsW.det (det_len u22 rfl) rfl ?_
  refine OpsW.det (det_neq rfl rfl) rfl ?_
  refine sNext ?_
  refine W.keep (F' := [(10, _), (2, _), (0, _)]) ⟨rfl, rfl, rfl, trivial⟩ ?_
  refine W.cond rfl (fun hc10 => ?_) (fun hc10 => ?_)
  · skip
    have hne : l.length ≠ 96 := by have h := hc10; simp at h; omega
    refine sSeq ?_
    refine W.region ?_
    refine OpsW.det (det_zero bz46) rfl ?_
    refine OpsW.storeW46 rfl rfl (Upd.here) ?_
    refine OpsW.det (det_assign rfl) rfl ?_
    refine sNext ?_
    refine W.keep (F' := [(3, _), (2, _)]) ⟨rfl, rfl, trivial⟩ ?_
    refine sRet ?_
    exact done2 Tryd.results25 (rv_cellA ty46 rfl (List.Mem.head _) rfl) (rv_tmp rfl) (read2_post (read2_len hne))
  · skip
    have h96 : l.length = 96 := by have h := hc10; simp at h; omega
    obtain ⟨bk, o, cap', cs, e, fr, hv, hm, hcap, hcs⟩ := hB.all (by omega)
    simp only [Value.slice.injEq] at hv
    obtain ⟨rfl, _, rfl⟩ := hv
    have h1 := Bs_take (ad := none) hB (k := 48) (by omega)
    have h2 := Bs_drop hB (k := 48) (by omega)
    refine sSkip ?_
    refine sSeq ?_
    refine W.region ?_
    refine OpsW.det (det_move rfl) rfl ?_
    refine OpsW.det ((det_slice (lo := none) (hi := some (.const (.int .i64 48))) (l := 0) (h := 48) u22 sz5 rfl rfl ⟨_, rfl⟩ (by omega) (by omega) (by omega)).to (v := .slice (some ⟨bk, o, none⟩) 48 cap) (by simp)) rfl ?_
    refine OpsW.det (det_call en15 rfl (fun w hb ho => Cu.Read_ok (G' := G') (l := l.take 48) h1 ho.blocks)) rfl ?_
    refine OpsW.det (det_move rfl) rfl ?_
    refine OpsW.det (det_extract rfl rfl) rfl ?_
    refine OpsW.det (det_extract rfl rfl) rfl ?_
    refine OpsW.fresh (fr_alloc z29) rfl fun b4 => ?_
    refine OpsW.store sz29 rfl rfl rfl rfl rfl (Upd.here) rfl ?_
    refine OpsW.det (det_assign rfl) rfl ?_
    refine sNext ?_
    refine W.keep (F' := [(5, _), (4, _), (2, _), (0, _)]) ⟨rfl, rfl, rfl, rfl, trivial⟩ ?_
    refine sSeq ?_
    refine W.region ?_
    refine OpsW.det (det_move rfl) rfl ?_
    refine OpsW.det ((det_slice (lo := some (.const (.int .i64 48))) (hi := none) (l := 48) (h := l.length) u22 sz5 rfl ⟨_, rfl⟩ rfl (by omega) (by omega) (by omega)).to (v := .slice (some ⟨bk, o + 48, none⟩) (l.length - 48) (cap - 48)) (by rw [if_neg (by omega), Nat.mul_one])) rfl ?_
    refine OpsW.det (det_call en15 rfl (fun w hb ho => Cu.Read_ok (G' := G') (l := l.drop 48) h2 ho.blocks)) rfl ?_
    refine OpsW.det (det_move rfl) rfl ?_
    refine OpsW.det (det_extract rfl rfl) rfl ?_
    refine OpsW.det (det_extract rfl rfl) rfl ?_
    refine OpsW.fresh (fr_alloc z29) rfl fun b6 => ?_
    refine OpsW.store sz29 rfl rfl rfl rfl rfl (Upd.here) rfl ?_
    refine OpsW.det (det_assign rfl) rfl ?_
    refine sNext ?_
    refine W.keep (F' := [(7, _), (6, _), (5, _), (4, _), (2, _)]) ⟨rfl, rfl, rfl, rfl, rfl, trivial⟩ ?_
    refine sSeq ?_
    refine sSeq ?_
    refine W.region ?_
    refine OpsW.det (det_move rfl) rfl ?_
    refine OpsW.test ((det_neq (b := 0) rfl rfl)) rfl (fun hc25 => ?_) (fun hc25 => ?_)
    · skip
      refine OpsW.det (det_move rfl) rfl ?_
      refine OpsW.guard_no rfl rfl rfl ?_
      refine OpsW.guard_no rfl rfl rfl ?_
      refine OpsW.det (det_pick rfl rfl) rfl ?_
      refine sNext ?_
      refine W.keep (F' := [(29, _), (6, _), (4, _), (2, _)]) ⟨rfl, rfl, rfl, rfl, trivial⟩ ?_
      refine W.cond_true rfl ?_
      refine sSeq ?_
      refine W.region ?_
      refine OpsW.det (det_zero bz46) rfl ?_
      refine OpsW.storeW46 rfl rfl (Upd.there (Upd.there (Upd.here))) ?_
      refine OpsW.det (det_assign rfl) rfl ?_
      refine sNext ?_
      refine W.keep (F' := [(3, _), (2, _)]) ⟨rfl, rfl, trivial⟩ ?_
      refine sRet ?_
      exact done2 Tryd.results25 (rv_cellA ty46 rfl (List.Mem.tail _ (List.Mem.tail _ (List.Mem.head _))) rfl) (rv_tmp rfl) (read2_post (read2_no h96 (.inl (by have h := hc25; simpa using h))))
    · skip
      refine OpsW.det (det_move rfl) rfl ?_
      refine OpsW.guard_yes rfl rfl ?_
      refine OpsW.det (det_move rfl) rfl ?_
      refine OpsW.guard_yes rfl rfl ?_
      refine OpsW.det ((det_neq (b := 0) rfl rfl)) rfl ?_
      refine OpsW.det (det_pick rfl rfl) rfl ?_
      refine sNext ?_
      refine W.keep (F' := [(29, _), (6, _), (4, _), (2, _)]) ⟨rfl, rfl, rfl, rfl, trivial⟩ ?_
      refine W.cond rfl (fun hc29 => ?_) (fun hc29 => ?_)
      · skip
        refine sSeq ?_
        refine W.region ?_
        refine OpsW.det (det_zero bz46) rfl ?_
        refine OpsW.storeW46 rfl rfl (Upd.there (Upd.there (Upd.here))) ?_
        refine OpsW.det (det_assign rfl) rfl ?_
        refine sNext ?_
        refine W.keep (F' := [(3, _), (2, _)]) ⟨rfl, rfl, trivial⟩ ?_
        refine sRet ?_
        exact done2 Tryd.results25 (rv_cellA ty46 rfl (List.Mem.tail _ (List.Mem.tail _ (List.Mem.head _))) rfl) (rv_tmp rfl) (read2_post (read2_no h96 (.inr (by have h := hc29; simpa using h))))
      · skip
        refine sSkip ?_
        refine sSeq ?_
        refine W.region ?_
        refine OpsW.det (det_loadA ty29 rfl (List.Mem.head _) rfl) rfl ?_
        refine OpsW.det (det_loadA ty29 rfl (List.Mem.tail _ (List.Mem.head _)) rfl) rfl ?_
        refine OpsW.det (det_build rfl bld46) rfl ?_
        refine OpsW.storeW46 rfl rfl (Upd.there (Upd.there (Upd.here))) ?_
        refine OpsW.det (det_assign rfl) rfl ?_
        refine sNext ?_
        refine W.keep (F' := [(3, _), (2, _)]) ⟨rfl, rfl, trivial⟩ ?_
        refine sRet ?_
        exact done2 Tryd.results25 (rv_cellA ty46 rfl (List.Mem.tail _ (List.Mem.tail _ (List.Mem.head _))) rfl) (rv_tmp rfl) (read2_post (read2_yes h96 (by have h := hc25; simpa using h) (by have h := hc29; simpa using h)))
set_option maxHeartbeats 2000000 in
theorem Sqrt_ok {x : Fq2} {w : World} (hG : Blocks (GH T) w)  : Vm.Pure Tryd.prog 31 #[encF x] w (.tuple #[encF (sqrt2 x).1, .bool (sqrt2 x).2]) := by
  refine pure_of_W (n := 76) (args := [encF x]) Tryd.func31 rfl Tryd.ntmps31 (Nat.le_of_ble_eq_true rfl) hG ?_
  refine sStart ?_
  refine sSeq ?_
  refine W.region ?_
  refine OpsW.fresh (fr_boxW46 rfl) rfl fun b1 => ?_
  refine OpsW.fresh (fr_alloc z46r) rfl fun b2 => ?_
  refine OpsW.det (det_assign rfl) rfl ?_
  refine sNext ?_
  refine W.keep (F' := [(2, _), (1, _)]) ⟨rfl, rfl, trivial⟩ ?_
  refine sSeq ?_
  refine sSeq ?_
  refine W.region ?_
  refine OpsW.det (det_fieldAddr fl46_1 rfl) rfl ?_
  refine OpsW.det (det_loadA ty29 rfl (List.Mem.tail _ (List.Mem.head _)) rfl) rfl ?_
  refine OpsW.det (det_call en65 rfl (fun w hb ho => Cu.Zero_ok ho.blocks)) rfl ?_
  refine sNext ?_
  refine W.keep (F' := [(15, _), (2, _), (1, _)]) ⟨rfl, rfl, rfl, trivial⟩ ?_
  refine W.cond rfl (fun hc15 => ?_) (fun hc15 => ?_)
  · skip
    refine sSeq ?_
    refine sSeq ?_
    refine W.region ?_
    refine OpsW.det (det_fieldAddr fl46_0 rfl) rfl ?_
    refine OpsW.det (det_loadA ty29 rfl (List.Mem.tail _ (List.Mem.head _)) rfl) rfl ?_
    refine OpsW.det (det_call en21 rfl (fun w hb ho => Cu.Sqrt_ok ho.blocks)) rfl ?_
    refine OpsW.det (det_move rfl) rfl ?_
    refine OpsW.det (det_extract rfl rfl) rfl ?_
    refine OpsW.det (det_extract rfl rfl) rfl ?_
    refine OpsW.fresh (fr_alloc z29) rfl fun b4 => ?_
    refine OpsW.store sz29 rfl rfl rfl rfl rfl (Upd.here) rfl ?_
    refine OpsW.det (det_assign rfl) rfl ?_
    refine sNext ?_
    refine W.keep (F' := [(5, _), (4, _), (2, _), (1, _)]) ⟨rfl, rfl, rfl, rfl, trivial⟩ ?_
    refine sSeq ?_
    refine W.region ?_
    refine OpsW.det (det_move rfl) rfl ?_
    refine sNext ?_
    refine W.keep (F' := [(22, _), (4, _), (2, _), (1, _)]) ⟨rfl, rfl, rfl, rfl, trivial⟩ ?_
    refine W.cond rfl (fun hc22 => ?_) (fun hc22 => ?_)
    · skip
      refine sSeq ?_
      refine W.region ?_
      refine OpsW.det (det_loadA ty29 rfl (List.Mem.head _) rfl) rfl ?_
      refine OpsW.det (det_build rfl bld46_0) rfl ?_
      refine OpsW.storeW46 rfl rfl (Upd.there (Upd.here)) ?_
      refine OpsW.det (det_assign rfl) rfl ?_
      refine sNext ?_
      refine W.keep (F' := [(3, _), (2, _)]) ⟨rfl, rfl, trivial⟩ ?_
      refine sRet ?_
      exact done2 Tryd.results31 (rv_cellA ty46 rfl (List.Mem.tail _ (List.Mem.head _)) rfl) (rv_tmp rfl) (sqrt2_post (sqrt2_a hc15 hc22))
    · skip
      refine sSkip ?_
      refine sSeq ?_
      refine W.region ?_
      refine OpsW.det (det_fieldAddr fl46_0 rfl) rfl ?_
      refine OpsW.det (det_loadA ty29 rfl (List.Mem.tail _ (List.Mem.tail _ (List.Mem.head _))) rfl) rfl ?_
      refine OpsW.det (det_call en23 rfl (fun w hb ho => Cu.Neg_ok ho.blocks)) rfl ?_
      refine OpsW.det (det_call en21 rfl (fun w hb ho => Cu.Sqrt_ok ho.blocks)) rfl ?_
      refine OpsW.det (det_move rfl) rfl ?_
      refine OpsW.det (det_extract rfl rfl) rfl ?_
      refine OpsW.det (det_extract rfl rfl) rfl ?_
      refine OpsW.fresh (fr_alloc z29) rfl fun b6 => ?_
      refine OpsW.store sz29 rfl rfl rfl rfl rfl (Upd.here) rfl ?_
      refine OpsW.det (det_assign rfl) rfl ?_
      refine sNext ?_
      refine W.keep (F' := [(6, _), (2, _)]) ⟨rfl, rfl, trivial⟩ ?_
      refine sSeq ?_
      refine W.region ?_
      refine OpsW.det (det_loadA ty29 rfl (List.Mem.head _) rfl) rfl ?_
      refine OpsW.det (det_build rfl bld46_1) rfl ?_
      refine OpsW.storeW46 rfl rfl (Upd.there (Upd.there (Upd.here))) ?_
      refine OpsW.det (det_assign rfl) rfl ?_
      refine sNext ?_
      refine W.keep (F' := [(3, _), (2, _)]) ⟨rfl, rfl, trivial⟩ ?_
      refine sRet ?_
      exact done2 Tryd.results31 (rv_cellA ty46 rfl (List.Mem.tail _ (List.Mem.tail _ (List.Mem.head _))) rfl) (rv_tmp rfl) (sqrt2_post (sqrt2_b hc15 hc22))
  · skip
    refine sSkip ?_
    refine sSeq ?_
    refine W.region ?_
    refine OpsW.det (det_loadW46 rfl (List.Mem.tail _ (List.Mem.head _))) rfl ?_
    refine OpsW.det (det_call en66 rfl (fun w hb ho => Norm_ok ho.blocks)) rfl ?_
    refine OpsW.det (det_call en21 rfl (fun w hb ho => Cu.Sqrt_ok ho.blocks)) rfl ?_
    refine OpsW.det (det_move rfl) rfl ?_
    refine OpsW.det (det_extract rfl rfl) rfl ?_
    refine OpsW.det (det_extract rfl rfl) rfl ?_
    refine OpsW.fresh (fr_alloc z29) rfl fun b8 => ?_
    refine OpsW.store sz29 rfl rfl rfl rfl rfl (Upd.here) rfl ?_
    refine OpsW.det (det_assign rfl) rfl ?_
    refine sNext ?_
    refine W.keep (F' := [(9, _), (8, _), (2, _), (1, _)]) ⟨rfl, rfl, rfl, rfl, trivial⟩ ?_
    refine sSeq ?_
    refine sSeq ?_
    refine W.region ?_
    refine OpsW.det (det_move rfl) rfl ?_
    refine OpsW.det (det_not rfl) rfl ?_
    refine sNext ?_
    refine W.keep (F' := [(41, _), (8, _), (2, _), (1, _)]) ⟨rfl, rfl, rfl, rfl, trivial⟩ ?_
    refine W.cond rfl (fun hc41 => ?_) (fun hc41 => ?_)
    · skip
      refine sSeq ?_
      refine W.region ?_
      refine OpsW.det (det_zero bz46) rfl ?_
      refine OpsW.storeW46 rfl rfl (Upd.there (Upd.here)) ?_
      refine OpsW.det (det_assign rfl) rfl ?_
      refine sNext ?_
      refine W.keep (F' := [(3, _), (2, _)]) ⟨rfl, rfl, trivial⟩ ?_
      refine sRet ?_
      exact done2 Tryd.results31 (rv_cellA ty46 rfl (List.Mem.tail _ (List.Mem.head _)) rfl) (rv_tmp rfl) (sqrt2_post (sqrt2_c hc15 hc41))
    · skip
      have hS0 := sqrt2_d hc15 hc41
      obtain ⟨n0, hn0⟩ : ∃ n : Fq, n = (sqrtF (norm2 x)).1 := ⟨_, rfl⟩
      rw [← hn0] at hS0 ⊢
      refine sSkip ?_
      refine sSeq ?_
      refine W.region ?_
      refine OpsW.det (det_call en19 rfl (fun w hb ho => Cu.Of_ok (n := 2) (by decide) ho.blocks)) rfl ?_
      refine OpsW.det (det_call en67 rfl (fun w hb ho => Cu.Inv_ok ho.blocks)) rfl ?_
      obtain ⟨h0, hh0⟩ : ∃ h : Fq, h = inv (Zp.of 2) := ⟨_, rfl⟩
      rw [← hh0] at hS0 ⊢
      refine OpsW.fresh (fr_alloc z29) rfl fun b10 => ?_
      refine OpsW.store sz29 rfl rfl rfl rfl rfl (Upd.here) rfl ?_
      refine sNext ?_
      refine W.keep (F' := [(10, _), (8, _), (2, _), (1, _)]) ⟨rfl, rfl, rfl, rfl, trivial⟩ ?_
      refine sSeq ?_
      refine sSeq ?_
      refine W.region ?_
      refine OpsW.det (det_move rfl) rfl ?_
      refine sNext ?_
      refine sBlock ?_
      refine sLoop (σ := Nat × Fq) (fun s => [(45, .int .i64 (s.1 : Nat)), (10, .pointer (some ⟨b10, 0, none⟩)), (8, .pointer (some ⟨b8, 0, none⟩)), (2, .pointer (some ⟨b2, 0, none⟩)), (1, .pointer (some ⟨b1, 0, none⟩))]) (fun s => [(b10, blk (Cu.cellsF h0) 29), (b8, blk (Cu.cellsF s.2) 29), (b2, blk (cellsF 0) 46), (b1, blk (cellsF x) 46)]) (fun s => s.1 ≤ 2 ∧ sqrt2 x = s2from x h0 (2 - s.1) s.2) (fun s => 2 - s.1) (0, n0) ⟨Nat.zero_le _, hS0⟩ ⟨rfl, rfl, rfl, rfl, rfl, trivial⟩ (List.Sublist.refl _) ?_
      rintro ⟨i, n⟩ ⟨hi, hS⟩
      change i ≤ 2 at hi
      change sqrt2 x = s2from x h0 (2 - i) n at hS
      refine W.norm (F' := [(45, .int .i64 (i : Nat)), (10, .pointer (some ⟨b10, 0, none⟩)), (8, .pointer (some ⟨b8, 0, none⟩)), (2, .pointer (some ⟨b2, 0, none⟩)), (1, .pointer (some ⟨b1, 0, none⟩))]) (H' := [(b10, blk (Cu.cellsF h0) 29), (b8, blk (Cu.cellsF n) 29), (b2, blk (cellsF 0) 46), (b1, blk (cellsF x) 46)]) rfl rfl ?_
      refine sSeq ?_
      refine W.region ?_
      refine OpsW.det ((det_lss (a := ((i : Nat) : Int)) (b := 2) rfl rfl)) rfl ?_
      refine sNext ?_
      refine sSeq ?_
      refine W.cond rfl (fun hc46 => ?_) (fun hc46 => ?_)
      · skip
        have hi2 : i < 2 := by have h := hc46; simp only [decide_eq_true_eq] at h; omega
        refine sSkip ?_
        refine sSeq ?_
        refine sBlock ?_
        refine sSeq ?_
        refine sSeq ?_
        refine W.draw mixed 11 [[], [0], [], [0, 1, 2], [], [0, 1, 2, 3, 4], [0, 1, 2, 3, 4, 5], [0, 1, 2, 3, 4, 5, 6], [0, 1, 2, 3, 4, 5, 6, 7], [0, 1, 2, 3, 4, 5, 6, 7], [], [0, 1, 2, 3, 4, 5, 6, 7, 8, 10], [0, 1, 2, 3, 4, 5, 6, 7, 8, 9, 10, 11]] (cl_lt (by decide)) ?_
        refine HeadR.start (cl_lt (by decide)) ?_
        refine HeadR.det rfl (fun β hβ => (det_fieldAddr fl46_0 rfl)) ?_
        refine HeadR.det rfl (fun β hβ => (det_loadA ty29 rfl (List.Mem.tail _ (List.Mem.tail _ (List.Mem.tail _ (List.Mem.head _)))) rfl)) ?_
        refine HeadR.det rfl (fun β hβ => (det_loadA ty29 rfl (List.Mem.tail _ (List.Mem.head _)) rfl)) ?_
        refine HeadR.det rfl (fun β hβ => (det_call en18 rfl (fun w hb ho => Cu.Add_ok ho.blocks))) ?_
        refine HeadR.det rfl (fun β hβ => (det_loadA ty29 rfl (List.Mem.head _) rfl)) ?_
        refine HeadR.det rfl (fun β hβ => (det_call en17 rfl (fun w hb ho => Cu.Mul_ok ho.blocks))) ?_
        refine HeadR.det rfl (fun β hβ => (det_call en21 rfl (fun w hb ho => Cu.Sqrt_ok ho.blocks))) ?_
        refine HeadR.det rfl (fun β hβ => (det_move rfl)) ?_
        refine HeadR.det rfl (fun β hβ => (det_extract rfl rfl)) ?_
        refine HeadR.flt rfl (fun _ _ _ _ hs => flt_extract hs rfl rfl) ?_
        refine HeadR.fresh rfl (fun β hβ => (fr_alloc z29).new) ?_
        refine HeadR.done ⟨by kernel_rfl, fun β hβ => ?_⟩
        refine OpsW.norm (F' := [(48, _), (49, _), (50, _), (51, _), (52, _), (53, _), (54, _), (47, _), (55, _), (56, _), (11, .pointer (some ⟨(β 11).1, 0, none⟩)), (46, _), (45, _), (10, _), (8, _), (2, _), (1, _)]) (H' := [(_, _), (_, _), (_, _), (_, _), (_, _)]) rfl rfl ?_
        generalize (β 11).1 = b11
        refine OpsW.store sz29 rfl rfl rfl rfl rfl (Upd.here) rfl ?_
        refine OpsW.det (det_assign rfl) rfl ?_
        refine sNext ?_
        refine W.keep (F' := [(12, _), (11, _), (45, _), (10, _), (8, _), (2, _), (1, _)]) ⟨rfl, rfl, rfl, rfl, rfl, rfl, rfl, trivial⟩ ?_
        refine sSeq ?_
        rcases hb : (sqrtF ((x.a + n) * h0)).2 with _ | _
        · skip
          refine W.region ?_
          refine OpsW.det (det_move rfl) rfl ?_
          refine OpsW.det (det_move rfl) rfl ?_
          refine OpsW.guard_no rfl rfl rfl ?_
          refine OpsW.guard_no rfl rfl rfl ?_
          refine OpsW.guard_no rfl rfl rfl ?_
          refine OpsW.det (det_pick rfl rfl) rfl ?_
          refine sNext ?_
          refine W.keep (F' := [(62, _), (11, _), (45, _), (10, _), (8, _), (2, _), (1, _)]) ⟨rfl, rfl, rfl, rfl, rfl, rfl, rfl, trivial⟩ ?_
          refine W.cond_false rfl ?_
          refine sSkip ?_
          refine W.region ?_
          refine OpsW.det (det_loadA ty29 rfl (List.Mem.tail _ (List.Mem.tail _ (List.Mem.head _))) rfl) rfl ?_
          refine OpsW.det (det_call en23 rfl (fun w hb ho => Cu.Neg_ok ho.blocks)) rfl ?_
          refine OpsW.store sz29 rfl rfl rfl rfl rfl (Upd.there (Upd.there (Upd.here))) rfl ?_
          refine sLast ?_
          refine bNext ?_
          refine W.keep (F' := [(45, _), (10, _), (8, _), (2, _), (1, _)]) ⟨rfl, rfl, rfl, rfl, rfl, trivial⟩ ?_
          refine W.region ?_
          refine OpsW.det (det_addN (b := 1) rfl rfl (by omega)) rfl ?_
          refine OpsW.det (det_move rfl) rfl ?_
          refine sLast ?_
          exact rEnd (i + 1, 0 - n) ⟨hi2, s2_no hi2 hS hb⟩ ⟨rfl, rfl, rfl, rfl, rfl, trivial⟩ (List.Sublist.cons _ (List.Sublist.refl _)) (by omega)
        · skip
          refine W.region ?_
          refine OpsW.det (det_move rfl) rfl ?_
          refine OpsW.det (det_move rfl) rfl ?_
          refine OpsW.guard_yes rfl rfl ?_
          refine OpsW.det (det_loadA ty29 rfl (List.Mem.head _) rfl) rfl ?_
          refine OpsW.guard_yes rfl rfl ?_
          refine OpsW.det (det_call en65 rfl (fun w hb ho => Cu.Zero_ok ho.blocks)) rfl ?_
          refine OpsW.guard_yes rfl rfl ?_
          refine OpsW.det (det_not rfl) rfl ?_
          refine OpsW.det (det_pick rfl rfl) rfl ?_
          refine sNext ?_
          refine W.keep (F' := [(62, _), (11, _), (45, _), (10, _), (8, _), (2, _), (1, _)]) ⟨rfl, rfl, rfl, rfl, rfl, rfl, rfl, trivial⟩ ?_
          refine W.cond rfl (fun hc62 => ?_) (fun hc62 => ?_)
          · skip
            refine sSeq ?_
            refine W.draw mixed 9 [[], [], [1], [], [1, 2, 3], [], [1, 2, 3, 4, 5], [1, 2, 3, 4, 5, 6], [0, 1, 2, 3, 4, 5, 6, 7], [0, 1, 2, 3, 4, 5, 6, 7, 8], [0, 1, 2, 3, 4, 5, 6, 7, 8, 9]] (cl_lt (by decide)) ?_
            refine HeadR.start (cl_lt (by decide)) ?_
            refine HeadR.det rfl (fun β hβ => (det_loadA ty29 rfl (List.Mem.head _) rfl)) ?_
            refine HeadR.det rfl (fun β hβ => (det_fieldAddr fl46_1 rfl)) ?_
            refine HeadR.det rfl (fun β hβ => (det_loadA ty29 rfl (List.Mem.tail _ (List.Mem.tail _ (List.Mem.tail _ (List.Mem.tail _ (List.Mem.head _))))) rfl)) ?_
            refine HeadR.det rfl (fun β hβ => (det_loadA ty29 rfl (List.Mem.tail _ (List.Mem.head _)) rfl)) ?_
            refine HeadR.det rfl (fun β hβ => (det_call en17 rfl (fun w hb ho => Cu.Mul_ok ho.blocks))) ?_
            refine HeadR.det rfl (fun β hβ => (det_loadA ty29 rfl (List.Mem.head _) rfl)) ?_
            refine HeadR.det rfl (fun β hβ => (det_call en67 rfl (fun w hb ho => Cu.Inv_ok ho.blocks))) ?_
            refine HeadR.det rfl (fun β hβ => (det_call en17 rfl (fun w hb ho => Cu.Mul_ok ho.blocks))) ?_
            refine HeadR.det rfl (fun β hβ => (det_build rfl bld46)) ?_
            refine HeadR.done ⟨by kernel_rfl, fun β hβ => ?_⟩
            refine OpsW.norm (F' := [(63, _), (64, _), (65, _), (66, _), (67, _), (68, _), (69, _), (70, _), (71, _), (62, _), (11, _), (45, _), (10, _), (8, _), (2, _), (1, _)]) (H' := [(_, _), (_, _), (_, _), (_, _), (_, _)]) rfl rfl ?_
            refine OpsW.storeW46 rfl rfl (Upd.there (Upd.there (Upd.there (Upd.here)))) ?_
            refine OpsW.det (det_assign rfl) rfl ?_
            refine sNext ?_
            refine W.keep (F' := [(3, _), (2, _)]) ⟨rfl, rfl, trivial⟩ ?_
            refine sRet ?_
            refine retBlk ?_
            refine retLoop ?_
            refine retBlk ?_
            exact done2 Tryd.results31 (rv_cellA ty46 rfl (List.Mem.tail _ (List.Mem.tail _ (List.Mem.tail _ (List.Mem.head _)))) rfl) (rv_tmp rfl) (sqrt2_post (s2_hit hi2 hS hb hc62))
          · skip
            refine sSkip ?_
            refine W.region ?_
            refine OpsW.det (det_loadA ty29 rfl (List.Mem.tail _ (List.Mem.tail _ (List.Mem.head _))) rfl) rfl ?_
            refine OpsW.det (det_call en23 rfl (fun w hb ho => Cu.Neg_ok ho.blocks)) rfl ?_
            refine OpsW.store sz29 rfl rfl rfl rfl rfl (Upd.there (Upd.there (Upd.here))) rfl ?_
            refine sLast ?_
            refine bNext ?_
            refine W.keep (F' := [(45, _), (10, _), (8, _), (2, _), (1, _)]) ⟨rfl, rfl, rfl, rfl, rfl, trivial⟩ ?_
            refine W.region ?_
            refine OpsW.det (det_addN (b := 1) rfl rfl (by omega)) rfl ?_
            refine OpsW.det (det_move rfl) rfl ?_
            refine sLast ?_
            exact rEnd (i + 1, 0 - n) ⟨hi2, s2_zero hi2 hS hc62⟩ ⟨rfl, rfl, rfl, rfl, rfl, trivial⟩ (List.Sublist.cons _ (List.Sublist.refl _)) (by omega)
      · skip
        have hge : ¬ i < 2 := by have h := hc46; simp only [decide_eq_false_iff_not] at h; omega
        refine sExit ?_
        refine xLoop ?_
        refine xHere ?_
        refine W.keep (F' := [(2, _)]) ⟨rfl, trivial⟩ ?_
        refine sSeq ?_
        refine W.region ?_
        refine OpsW.det (det_zero bz46) rfl ?_
        refine OpsW.storeW46 rfl rfl (Upd.there (Upd.there (Upd.here))) ?_
        refine OpsW.det (det_assign rfl) rfl ?_
        refine sNext ?_
        refine W.keep (F' := [(3, _), (2, _)]) ⟨rfl, rfl, trivial⟩ ?_
        refine sRet ?_
        exact done2 Tryd.results31 (rv_cellA ty46 rfl (List.Mem.tail _ (List.Mem.tail _ (List.Mem.head _))) rfl) (rv_tmp rfl) (sqrt2_post (s2_end hi hge hS))

end Go.Cw
