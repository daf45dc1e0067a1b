/-
  Polynomials over a field, and the ring of the functions of a curve y^2 = x^3 + b: it has no divisors of nought, and no function has one pole less than two.
  Conditions: none; plain algebra.
-/
import Derived.Test.YtbchpfmfiokbgaaDoorRing
namespace Go.Ec
open Go.Cu
open CR
set_option linter.unusedVariables false
set_option linter.unusedSimpArgs false
set_option linter.unusedSectionVars false
set_option linter.constructorNameAsVariable false

class Fld (α : Type) extends CR α where
  finv : α → α
  mul_finv : ∀ a : α, a ≠ 0 → a * finv a = 1
  one_ne : (1 : α) ≠ 0

section
variable {α : Type} [CR α]
def coef : List α → Nat → α
  | [], _ => 0
  | a :: _, 0 => a
  | _ :: p, n + 1 => coef p n
def addL : List α → List α → List α
  | [], q => q
  | a :: p, [] => a :: p
  | a :: p, b :: q => (a + b) :: addL p q
theorem coef_addL : ∀ (p q : List α) (n : Nat), coef (addL p q) n = coef p n + coef q n
  | [], q, n => by show coef q n = 0 + coef q n; rw [zero_add]
  | a :: p, [], n => by show coef (a :: p) n = coef (a :: p) n + 0; rw [add_zero']
  | a :: p, b :: q, 0 => rfl
  | a :: p, b :: q, n + 1 => coef_addL p q n
def scl (c : α) : List α → List α
  | [] => []
  | a :: p => (c * a) :: scl c p
theorem coef_scl (c : α) : ∀ (p : List α) (n : Nat), coef (scl c p) n = c * coef p n
  | [], n => by show (0 : α) = c * 0; rw [mul_zero']
  | a :: p, 0 => rfl
  | a :: p, n + 1 => coef_scl c p n
def negL : List α → List α
  | [] => []
  | a :: p => (-a) :: negL p
theorem coef_negL : ∀ (p : List α) (n : Nat), coef (negL p) n = -coef p n
  | [], n => by show (0 : α) = -0; rw [neg_zero']
  | a :: p, 0 => rfl
  | a :: p, n + 1 => coef_negL p n
def mulL : List α → List α → List α
  | [], _ => []
  | a :: p, q => addL (scl a q) (0 :: mulL p q)
def Peq (p q : List α) : Prop := ∀ n, coef p n = coef q n
theorem coef_mulL_cons (a : α) (p q : List α) (n : Nat) : coef (mulL (a :: p) q) n = a * coef q n + coef (0 :: mulL p q) n := by rw [mulL, coef_addL, coef_scl]
theorem peq_cons {a : α} {p q : List α} (h : Peq p q) : ∀ n, coef (a :: p) n = coef (a :: q) n
  | 0 => rfl
  | n + 1 => h n
theorem mulL_nil : ∀ (p : List α) (n : Nat), coef (mulL p []) n = 0
  | [], n => rfl
  | a :: p, 0 => by rw [coef_mulL_cons]; show a * 0 + 0 = 0; rw [mul_zero', zero_add]
  | a :: p, n + 1 => by rw [coef_mulL_cons]; show a * 0 + coef (mulL p []) n = 0; rw [mul_zero', zero_add, mulL_nil p n]
theorem mulL_cons : ∀ (p : List α) (b : α) (q : List α) (n : Nat), coef (mulL p (b :: q)) n = b * coef p n + coef (0 :: mulL p q) n
  | [], b, q, 0 => by show (0 : α) = b * 0 + 0; rw [mul_zero', zero_add]
  | [], b, q, n + 1 => by show (0 : α) = b * 0 + 0; rw [mul_zero', zero_add]
  | a :: p, b, q, 0 => by rw [coef_mulL_cons]; show a * b + 0 = b * a + 0; rw [mul_comm]
  | a :: p, b, q, n + 1 => by
    rw [coef_mulL_cons]
    show a * coef q n + coef (mulL p (b :: q)) n = b * coef p n + coef (mulL (a :: p) q) n
    rw [mulL_cons p b q n, coef_mulL_cons, ← add_assoc, ← add_assoc, add_comm (a * coef q n)]
theorem mulL_comm : ∀ (p q : List α) (n : Nat), coef (mulL p q) n = coef (mulL q p) n
  | [], q, n => (mulL_nil q n).symm
  | a :: p, q, n => by rw [coef_mulL_cons, mulL_cons, peq_cons (mulL_comm p q) n]
theorem mulL_congr {q q' : List α} (h : Peq q q') : ∀ (p : List α) (n : Nat), coef (mulL p q) n = coef (mulL p q') n
  | [], n => rfl
  | a :: p, n => by rw [coef_mulL_cons, coef_mulL_cons, h n, peq_cons (mulL_congr h p) n]
theorem mulL_add : ∀ (p q r : List α) (n : Nat), coef (mulL p (addL q r)) n = coef (mulL p q) n + coef (mulL p r) n
  | [], q, r, n => by show (0 : α) = 0 + 0; rw [zero_add]
  | a :: p, q, r, n => by
    have h : coef (0 :: mulL p (addL q r)) n = coef (0 :: mulL p q) n + coef (0 :: mulL p r) n := by
      cases n with
      | zero => exact (zero_add (0 : α)).symm
      | succ n => exact mulL_add p q r n
    rw [coef_mulL_cons, coef_mulL_cons, coef_mulL_cons, coef_addL, mul_add, h]
    exact add_four _ _ _ _
theorem coef_zcons (p : List α) (h : ∀ n, coef p n = 0) : ∀ n, coef (0 :: p) n = 0
  | 0 => rfl
  | n + 1 => h n
theorem scl_mul (a : α) : ∀ (q r : List α) (n : Nat), coef (mulL (scl a q) r) n = a * coef (mulL q r) n
  | [], r, n => by show (0 : α) = a * 0; rw [mul_zero']
  | b :: q, r, n => by
    have h : coef (0 :: mulL (scl a q) r) n = a * coef (0 :: mulL q r) n := by
      cases n with
      | zero => exact (mul_zero' a).symm
      | succ n => exact scl_mul a q r n
    rw [scl, coef_mulL_cons, coef_mulL_cons, h, mul_add, mul_assoc]
theorem mulL_assoc : ∀ (p q r : List α) (n : Nat), coef (mulL (mulL p q) r) n = coef (mulL p (mulL q r)) n
  | [], q, r, n => rfl
  | a :: p, q, r, n => by
    rw [mulL, mulL_comm, mulL_add, mulL_comm r, mulL_comm r, scl_mul, coef_mulL_cons, coef_mulL_cons, zero_mul', zero_add, peq_cons (mulL_assoc p q r) n]
theorem one_mulL (q : List α) (n : Nat) : coef (mulL [1] q) n = coef q n := by
  rw [coef_mulL_cons, one_mul, coef_zcons _ (fun _ => rfl), add_zero']

instance polS : Setoid (List α) := ⟨Peq, fun _ _ => rfl, fun h n => (h n).symm, fun h h' n => (h n).trans (h' n)⟩
end

def Pol (α : Type) [CR α] : Type := Quotient (polS (α := α))

section
variable {α : Type} [CR α]
def Pol.mk (l : List α) : Pol α := Quotient.mk _ l
def Pol.add : Pol α → Pol α → Pol α := Quotient.lift₂ (fun p q => Pol.mk (addL p q)) (fun p q p' q' h1 h2 => Quotient.sound fun n => by rw [coef_addL, coef_addL, h1 n, h2 n])
def Pol.mul : Pol α → Pol α → Pol α := Quotient.lift₂ (fun p q => Pol.mk (mulL p q)) (fun p q p' q' h1 h2 => Quotient.sound fun n => by
  rw [mulL_congr h2, mulL_comm, mulL_congr h1, mulL_comm])
def Pol.neg : Pol α → Pol α := Quotient.lift (fun p => Pol.mk (negL p)) (fun p p' h => Quotient.sound fun n => by rw [coef_negL, coef_negL, h n])
instance : CR (Pol α) where
  add := Pol.add
  mul := Pol.mul
  neg := Pol.neg
  sub a b := Pol.add a (Pol.neg b)
  zero := Pol.mk []
  one := Pol.mk [1]
  add_comm a b := Quotient.inductionOn₂ a b fun p q => Quotient.sound fun n => by rw [coef_addL, coef_addL, add_comm]
  add_assoc a b c := Quotient.inductionOn₃ a b c fun p q r => Quotient.sound fun n => by rw [coef_addL, coef_addL, coef_addL, coef_addL, add_assoc]
  zero_add a := Quotient.inductionOn a fun p => Quotient.sound fun n => rfl
  neg_add a := Quotient.inductionOn a fun p => Quotient.sound fun n => by rw [coef_addL, coef_negL, neg_add]; rfl
  sub_eq _ _ := rfl
  mul_comm a b := Quotient.inductionOn₂ a b fun p q => Quotient.sound fun n => mulL_comm p q n
  mul_assoc a b c := Quotient.inductionOn₃ a b c fun p q r => Quotient.sound fun n => mulL_assoc p q r n
  one_mul a := Quotient.inductionOn a fun p => Quotient.sound fun n => one_mulL p n
  mul_add a b c := Quotient.inductionOn₃ a b c fun p q r => Quotient.sound fun n => by rw [mulL_add, coef_addL]
theorem peq_at {p q : List α} (h : p ≈ q) (n : Nat) : coef p n = coef q n := h n
def Pol.co (p : Pol α) (n : Nat) : α := Quotient.lift (fun l => coef l n) (fun _ _ h => peq_at h n) p
theorem Pol.ext {p q : Pol α} : (∀ n, p.co n = q.co n) → p = q := Quotient.inductionOn₂ p q fun _ _ h => Quotient.sound h
theorem co_add (p q : Pol α) (n : Nat) : (p + q).co n = p.co n + q.co n := Quotient.inductionOn₂ p q fun a b => coef_addL a b n
theorem co_neg (p : Pol α) (n : Nat) : (-p).co n = -p.co n := Quotient.inductionOn p fun a => coef_negL a n
theorem co_zero (n : Nat) : (0 : Pol α).co n = 0 := rfl
def cst (c : α) : Pol α := Pol.mk [c]
def PX : Pol α := Pol.mk [0, 1]
theorem co_cst (c : α) (n : Nat) : (cst c).co (n + 1) = 0 := rfl
theorem cst_add (a b : α) : cst (a + b) = cst a + cst b := rfl
theorem cst_neg (a : α) : cst (-a) = -cst a := rfl
theorem cst_sub (a b : α) : cst (a - b) = cst a - cst b := by rw [sub_eq, sub_eq, cst_add, cst_neg]
theorem cst_mul (a b : α) : cst (a * b) = cst a * cst b := Pol.ext fun n => by
  show coef [a * b] n = coef (mulL [a] [b]) n
  rw [coef_mulL_cons, coef_zcons _ (fun _ => rfl), add_zero']
  cases n with
  | zero => rfl
  | succ n => show (0 : α) = a * 0; rw [mul_zero']
theorem cst_one : cst (1 : α) = 1 := rfl
theorem cst_zero : cst (0 : α) = 0 := Pol.ext fun n => coef_zcons [] (fun _ => rfl) n

/-- n is the polynomial's degree. -/
def Deg (p : Pol α) (n : Nat) : Prop := p.co n ≠ 0 ∧ ∀ m, n < m → p.co m = 0
theorem Deg.of {p : Pol α} (h : p ≠ 0) : ∃ n, Deg p n := by
  have key : ∀ l : List α, (∀ n, coef l n = 0) ∨ ∃ n, coef l n ≠ 0 ∧ ∀ m, n < m → coef l m = 0 := by
    intro l
    induction l with
    | nil => exact .inl fun _ => rfl
    | cons a l ih =>
      rcases ih with ih | ⟨n, h1, h2⟩
      · by_cases ha : a = 0
        · subst ha; exact .inl (coef_zcons l ih)
        · exact .inr ⟨0, ha, fun m hm => by cases m with | zero => cases hm | succ m => exact ih m⟩
      · exact .inr ⟨n + 1, h1, fun m hm => by cases m with | zero => cases hm | succ m => exact h2 m (Nat.lt_of_succ_lt_succ hm)⟩
  revert h
  refine Quotient.inductionOn p fun l h => ?_
  rcases key l with hl | hl
  · exact absurd (Pol.ext (p := Pol.mk l) (q := 0) hl) h
  · exact hl
theorem Deg.ne {p : Pol α} {n : Nat} (h : Deg p n) : p ≠ 0 := by rintro rfl; exact h.1 rfl
theorem Deg.unique {p : Pol α} {n m : Nat} (h : Deg p n) (h' : Deg p m) : n = m := by
  rcases Nat.lt_trichotomy n m with hl | hl | hl
  · exact absurd (h.2 m hl) h'.1
  · exact hl
  · exact absurd (h'.2 n hl) h.1
theorem neg_ne {a : α} (h : a ≠ 0) : -a ≠ 0 := fun e => h (by have := congrArg (- ·) e; simpa only [neg_neg', neg_zero'] using this)
theorem Deg.neg {p : Pol α} {n : Nat} (h : Deg p n) : Deg (-p) n := ⟨by rw [co_neg]; exact neg_ne h.1, fun m hm => by rw [co_neg, h.2 m hm, neg_zero']⟩
theorem Deg.add {p q : Pol α} {n : Nat} (h : Deg p n) (hq : ∀ m, n ≤ m → q.co m = 0) : Deg (p + q) n :=
  ⟨by rw [co_add, hq n (Nat.le_refl n), add_zero']; exact h.1, fun m hm => by rw [co_add, h.2 m hm, hq m (Nat.le_of_lt hm), zero_add]⟩
theorem mulL_deg : ∀ (p : List α) (m : Nat) (q : List α) (n : Nat), (∀ k, m < k → coef p k = 0) → (∀ k, n < k → coef q k = 0) →
    coef (mulL p q) (m + n) = coef p m * coef q n ∧ ∀ k, m + n < k → coef (mulL p q) k = 0
  | [], m, q, n, _, _ => ⟨by show (0 : α) = 0 * _; rw [zero_mul'], fun _ _ => rfl⟩
  | a :: p, 0, q, n, hp, hq => by
    have hz : ∀ k, coef (mulL p q) k = 0 := fun k => by
      rw [mulL_comm, mulL_congr (q' := []) (fun j => hp (j + 1) (Nat.succ_pos j)), mulL_nil]
    refine ⟨?_, fun k hk => ?_⟩
    · rw [coef_mulL_cons, coef_zcons _ hz, add_zero', Nat.zero_add]; rfl
    · rw [coef_mulL_cons, coef_zcons _ hz, add_zero', hq k (by omega), mul_zero']
  | a :: p, m + 1, q, n, hp, hq => by
    obtain ⟨h1, h2⟩ := mulL_deg p m q n (fun k hk => hp (k + 1) (by omega)) hq
    refine ⟨?_, fun k hk => ?_⟩
    · rw [coef_mulL_cons, hq _ (by omega), mul_zero', zero_add, show m + 1 + n = (m + n) + 1 by omega]; exact h1
    · obtain ⟨k, rfl⟩ : ∃ j, k = j + 1 := ⟨k - 1, by omega⟩
      rw [coef_mulL_cons, hq _ (by omega), mul_zero', zero_add]; exact h2 k (by omega)
end

section
variable {α : Type} [Fld α]
theorem Fld.mul_ne {a b : α} (ha : a ≠ 0) (hb : b ≠ 0) : a * b ≠ 0 := fun h => hb (by
  have : a * b * Fld.finv a = 0 := by rw [h, zero_mul']
  rwa [mul_comm a, mul_assoc, Fld.mul_finv a ha, mul_one'] at this)
theorem Deg.mul {p q : Pol α} {m n : Nat} (h : Deg p m) (h' : Deg q n) : Deg (p * q) (m + n) := by
  revert h h'
  refine Quotient.inductionOn₂ p q fun a b h h' => ?_
  obtain ⟨h1, h2⟩ := mulL_deg a m b n h.2 h'.2
  exact ⟨by show coef (mulL a b) (m + n) ≠ 0; rw [h1]; exact Fld.mul_ne h.1 h'.1, h2⟩
theorem deg_X : Deg (PX : Pol α) 1 := ⟨Fld.one_ne, fun m hm => by
  obtain ⟨k, rfl⟩ : ∃ j, m = j + 2 := ⟨m - 2, by omega⟩
  rfl⟩
theorem deg_one : Deg (1 : Pol α) 0 := ⟨Fld.one_ne, fun m hm => by
  obtain ⟨k, rfl⟩ : ∃ j, m = j + 1 := ⟨m - 1, by omega⟩
  rfl⟩
theorem cst_high (c : α) {m : Nat} (h : 0 < m) : (cst c).co m = 0 := by
  obtain ⟨k, rfl⟩ : ∃ j, m = j + 1 := ⟨m - 1, by omega⟩
  rfl
theorem deg_Xsub (c : α) : Deg (PX - cst c) 1 := by
  rw [sub_eq, ← cst_neg]
  exact deg_X.add fun m hm => cst_high _ (by omega)
def EE (B : α) : Pol α := PX * PX * PX + cst B
theorem deg_E (B : α) : Deg (EE B) 3 := ((deg_X.mul deg_X).mul deg_X).add fun m hm => cst_high _ (by omega)
end

/-- The functions a + b y of the curve y^2 = x^3 + B. -/
structure Cd {α : Type} [CR α] (B : α) where
  a : Pol α
  b : Pol α

section
variable {α : Type} [Fld α] {B : α}
theorem Cd.ext : ∀ {u v : Cd B}, u.a = v.a → u.b = v.b → u = v
  | ⟨_, _⟩, ⟨_, _⟩, rfl, rfl => rfl
instance : CR (Cd B) where
  add u v := ⟨u.a + v.a, u.b + v.b⟩
  mul u v := ⟨u.a * v.a + u.b * v.b * EE B, u.a * v.b + u.b * v.a⟩
  neg u := ⟨-u.a, -u.b⟩
  sub u v := ⟨u.a - v.a, u.b - v.b⟩
  zero := ⟨0, 0⟩
  one := ⟨1, 0⟩
  add_comm u v := Cd.ext (add_comm _ _) (add_comm _ _)
  add_assoc u v w := Cd.ext (add_assoc _ _ _) (add_assoc _ _ _)
  zero_add u := Cd.ext (zero_add _) (zero_add _)
  neg_add u := Cd.ext (neg_add _) (neg_add _)
  sub_eq u v := Cd.ext (sub_eq _ _) (sub_eq _ _)
  mul_comm u v := Cd.ext (show ((u.a * v.a) + ((u.b * v.b) * (EE B))) = ((v.a * u.a) + ((v.b * u.b) * (EE B))) from ring_id (fun vi_ => vget vi_ [u.a, u.b, v.a, v.b, EE B]) (.add (.mul (.var 0) (.var 2)) (.mul (.mul (.var 1) (.var 3)) (.var 4))) (.add (.mul (.var 2) (.var 0)) (.mul (.mul (.var 3) (.var 1)) (.var 4))) (by kernel_rfl)) (show ((u.a * v.b) + (u.b * v.a)) = ((v.a * u.b) + (v.b * u.a)) from ring_id (fun vi_ => vget vi_ [u.a, u.b, v.a, v.b]) (.add (.mul (.var 0) (.var 3)) (.mul (.var 1) (.var 2))) (.add (.mul (.var 2) (.var 1)) (.mul (.var 3) (.var 0))) (by kernel_rfl))
  mul_assoc u v w := Cd.ext (show ((((u.a * v.a) + ((u.b * v.b) * (EE B))) * w.a) + ((((u.a * v.b) + (u.b * v.a)) * w.b) * (EE B))) = ((u.a * ((v.a * w.a) + ((v.b * w.b) * (EE B)))) + ((u.b * ((v.a * w.b) + (v.b * w.a))) * (EE B))) from ring_id (fun vi_ => vget vi_ [u.a, u.b, v.a, v.b, w.a, w.b, EE B]) (.add (.mul (.add (.mul (.var 0) (.var 2)) (.mul (.mul (.var 1) (.var 3)) (.var 6))) (.var 4)) (.mul (.mul (.add (.mul (.var 0) (.var 3)) (.mul (.var 1) (.var 2))) (.var 5)) (.var 6))) (.add (.mul (.var 0) (.add (.mul (.var 2) (.var 4)) (.mul (.mul (.var 3) (.var 5)) (.var 6)))) (.mul (.mul (.var 1) (.add (.mul (.var 2) (.var 5)) (.mul (.var 3) (.var 4)))) (.var 6))) (by kernel_rfl))
    (show ((((u.a * v.a) + ((u.b * v.b) * (EE B))) * w.b) + (((u.a * v.b) + (u.b * v.a)) * w.a)) = ((u.a * ((v.a * w.b) + (v.b * w.a))) + (u.b * ((v.a * w.a) + ((v.b * w.b) * (EE B))))) from ring_id (fun vi_ => vget vi_ [u.a, u.b, v.a, v.b, w.a, w.b, EE B]) (.add (.mul (.add (.mul (.var 0) (.var 2)) (.mul (.mul (.var 1) (.var 3)) (.var 6))) (.var 5)) (.mul (.add (.mul (.var 0) (.var 3)) (.mul (.var 1) (.var 2))) (.var 4))) (.add (.mul (.var 0) (.add (.mul (.var 2) (.var 5)) (.mul (.var 3) (.var 4)))) (.mul (.var 1) (.add (.mul (.var 2) (.var 4)) (.mul (.mul (.var 3) (.var 5)) (.var 6))))) (by kernel_rfl))
  one_mul u := Cd.ext (show ((1 * u.a) + ((0 * u.b) * (EE B))) = u.a from ring_id (fun vi_ => vget vi_ [u.a, u.b, EE B]) (.add (.mul .one (.var 0)) (.mul (.mul .zero (.var 1)) (.var 2))) (.var 0) (by kernel_rfl)) (show ((1 * u.b) + (0 * u.a)) = u.b from ring_id (fun vi_ => vget vi_ [u.a, u.b]) (.add (.mul .one (.var 1)) (.mul .zero (.var 0))) (.var 1) (by kernel_rfl))
  mul_add u v w := Cd.ext (show ((u.a * (v.a + w.a)) + ((u.b * (v.b + w.b)) * (EE B))) = (((u.a * v.a) + ((u.b * v.b) * (EE B))) + ((u.a * w.a) + ((u.b * w.b) * (EE B)))) from ring_id (fun vi_ => vget vi_ [u.a, u.b, v.a, v.b, w.a, w.b, EE B]) (.add (.mul (.var 0) (.add (.var 2) (.var 4))) (.mul (.mul (.var 1) (.add (.var 3) (.var 5))) (.var 6))) (.add (.add (.mul (.var 0) (.var 2)) (.mul (.mul (.var 1) (.var 3)) (.var 6))) (.add (.mul (.var 0) (.var 4)) (.mul (.mul (.var 1) (.var 5)) (.var 6)))) (by kernel_rfl))
    (show ((u.a * (v.b + w.b)) + (u.b * (v.a + w.a))) = (((u.a * v.b) + (u.b * v.a)) + ((u.a * w.b) + (u.b * w.a))) from ring_id (fun vi_ => vget vi_ [u.a, u.b, v.a, v.b, w.a, w.b]) (.add (.mul (.var 0) (.add (.var 3) (.var 5))) (.mul (.var 1) (.add (.var 2) (.var 4)))) (.add (.add (.mul (.var 0) (.var 3)) (.mul (.var 1) (.var 2))) (.add (.mul (.var 0) (.var 5)) (.mul (.var 1) (.var 4)))) (by kernel_rfl))
theorem Cd.mul_a (u v : Cd B) : (u * v).a = u.a * v.a + u.b * v.b * EE B := rfl
theorem Cd.mul_b (u v : Cd B) : (u * v).b = u.a * v.b + u.b * v.a := rfl
/-- The norm. -/
def nm (u : Cd B) : Pol α := u.a * u.a - EE B * (u.b * u.b)
theorem nm_mul (u v : Cd B) : nm (u * v) = nm u * nm v :=
  (show ((((u.a * v.a) + ((u.b * v.b) * (EE B))) * ((u.a * v.a) + ((u.b * v.b) * (EE B)))) - ((EE B) * (((u.a * v.b) + (u.b * v.a)) * ((u.a * v.b) + (u.b * v.a))))) = (((u.a * u.a) - ((EE B) * (u.b * u.b))) * ((v.a * v.a) - ((EE B) * (v.b * v.b)))) from ring_id (fun vi_ => vget vi_ [u.a, u.b, v.a, v.b, EE B]) (.sub (.mul (.add (.mul (.var 0) (.var 2)) (.mul (.mul (.var 1) (.var 3)) (.var 4))) (.add (.mul (.var 0) (.var 2)) (.mul (.mul (.var 1) (.var 3)) (.var 4)))) (.mul (.var 4) (.mul (.add (.mul (.var 0) (.var 3)) (.mul (.var 1) (.var 2))) (.add (.mul (.var 0) (.var 3)) (.mul (.var 1) (.var 2)))))) (.mul (.sub (.mul (.var 0) (.var 0)) (.mul (.var 4) (.mul (.var 1) (.var 1)))) (.sub (.mul (.var 2) (.var 2)) (.mul (.var 4) (.mul (.var 3) (.var 3))))) (by kernel_rfl))
theorem nm_deg {u : Cd B} (h : u ≠ 0) : ∃ n, Deg (nm u) n ∧ n ≠ 1 ∧ (n = 0 → u.b = 0 ∧ Deg u.a 0) := by
  by_cases hb : u.b = 0
  · have ha : u.a ≠ 0 := fun ha => h (Cd.ext ha hb)
    obtain ⟨m, hm⟩ := Deg.of ha
    have e : nm u = u.a * u.a := by
      unfold nm; rw [hb, mul_zero', mul_zero', sub_zero']
    refine ⟨m + m, e ▸ hm.mul hm, by omega, fun h0 => ⟨hb, ?_⟩⟩
    obtain rfl : m = 0 := by omega
    exact hm
  · obtain ⟨k, hk⟩ := Deg.of hb
    have h1 := ((deg_E B).mul (hk.mul hk)).neg
    by_cases ha : u.a = 0
    · have e : nm u = -(EE B * (u.b * u.b)) := by
        unfold nm; rw [ha, mul_zero', zero_sub']
      exact ⟨3 + (k + k), e ▸ h1, by omega, by omega⟩
    · obtain ⟨m, hm⟩ := Deg.of ha
      have h2 := hm.mul hm
      rcases Nat.lt_or_ge (m + m) (3 + (k + k)) with hl | hl
      · have e : nm u = -(EE B * (u.b * u.b)) + u.a * u.a := by unfold nm; rw [sub_eq, add_comm]
        exact ⟨3 + (k + k), e ▸ h1.add fun j hj => h2.2 j (by omega), by omega, by omega⟩
      · have e : nm u = u.a * u.a + -(EE B * (u.b * u.b)) := by unfold nm; rw [sub_eq]
        exact ⟨m + m, e ▸ h2.add fun j hj => h1.2 j (by omega), by omega, by omega⟩
theorem nm_zero : nm (0 : Cd B) = 0 := by show (0 : Pol α) * 0 - EE B * (0 * 0) = 0; rw [mul_zero', mul_zero', sub_self']
theorem Cd.mul_ne {u v : Cd B} (hu : u ≠ 0) (hv : v ≠ 0) : u * v ≠ 0 := by
  intro h
  obtain ⟨m, hm, _⟩ := nm_deg hu
  obtain ⟨n, hn, _⟩ := nm_deg hv
  have := hm.mul hn
  rw [← nm_mul, h, nm_zero] at this
  exact this.ne rfl
theorem Cd.cancel {w u v : Cd B} (hw : w ≠ 0) (h : w * u = w * v) : u = v := by
  apply Classical.byContradiction
  intro hne
  refine Cd.mul_ne hw (v := u - v) (fun e => hne (eq_of_sub e)) ?_
  rw [sub_eq, mul_add, mul_comm w (-v), neg_mul', mul_comm v, h, add_neg]
def kc (c : α) : Cd B := ⟨cst c, 0⟩
def CX : Cd B := ⟨PX, 0⟩
def CY : Cd B := ⟨0, 1⟩
theorem kc_add (x y : α) : (kc (x + y) : Cd B) = kc x + kc y := Cd.ext (cst_add x y) (zero_add (0 : Pol α)).symm
theorem kc_neg (x : α) : (kc (-x) : Cd B) = -kc x := Cd.ext (cst_neg x) neg_zero'.symm
theorem kc_sub (x y : α) : (kc (x - y) : Cd B) = kc x - kc y := Cd.ext (cst_sub x y) (sub_self' (0 : Pol α)).symm
theorem kc_mul (x y : α) : (kc (x * y) : Cd B) = kc x * kc y := by
  refine Cd.ext ?_ ?_
  · show cst (x * y) = cst x * cst y + 0 * 0 * EE B
    rw [cst_mul, mul_zero', zero_mul', add_zero']
  · show (0 : Pol α) = cst x * 0 + 0 * cst y
    rw [mul_zero', zero_mul', add_zero']
theorem kc_one : (kc 1 : Cd B) = 1 := rfl
theorem kc_zero : (kc 0 : Cd B) = 0 := Cd.ext cst_zero rfl
/-- The curve's equation. -/
theorem CY_sq : (CY * CY : Cd B) = CX * CX * CX + kc B := by
  refine Cd.ext ?_ ?_
  · show (0 : Pol α) * 0 + 1 * 1 * EE B = (PX * PX + 0 * 0 * EE B) * PX + (PX * 0 + 0 * PX) * 0 * EE B + cst B
    exact (show ((0 * 0) + ((1 * 1) * (((PX * PX) * PX) + (cst B)))) = (((((PX * PX) + ((0 * 0) * (((PX * PX) * PX) + (cst B)))) * PX) + ((((PX * 0) + (0 * PX)) * 0) * (((PX * PX) * PX) + (cst B)))) + (cst B)) from ring_id (fun vi_ => vget vi_ [PX, cst B]) (.add (.mul .zero .zero) (.mul (.mul .one .one) (.add (.mul (.mul (.var 0) (.var 0)) (.var 0)) (.var 1)))) (.add (.add (.mul (.add (.mul (.var 0) (.var 0)) (.mul (.mul .zero .zero) (.add (.mul (.mul (.var 0) (.var 0)) (.var 0)) (.var 1)))) (.var 0)) (.mul (.mul (.add (.mul (.var 0) .zero) (.mul .zero (.var 0))) .zero) (.add (.mul (.mul (.var 0) (.var 0)) (.var 0)) (.var 1)))) (.var 1)) (by kernel_rfl))
  · show (0 : Pol α) * 1 + 1 * 0 = (PX * PX + 0 * 0 * EE B) * 0 + (PX * 0 + 0 * PX) * PX + 0
    exact (show ((0 * 1) + (1 * 0)) = (((((PX * PX) + ((0 * 0) * (EE B))) * 0) + (((PX * 0) + (0 * PX)) * PX)) + 0) from ring_id (fun vi_ => vget vi_ [PX, EE B]) (.add (.mul .zero .one) (.mul .one .zero)) (.add (.add (.mul (.add (.mul (.var 0) (.var 0)) (.mul (.mul .zero .zero) (.var 1))) .zero) (.mul (.add (.mul (.var 0) .zero) (.mul .zero (.var 0))) (.var 0))) .zero) (by kernel_rfl))
/-- What divides the two functions that a point makes nought is a number. -/
theorem no_common {x y : α} {w s t : Cd B} (h1 : w * s = CX - kc x) (h2 : w * t = CY - kc y) : w.b = 0 ∧ Deg w.a 0 := by
  have n1 : nm (CX - kc x : Cd B) = (PX - cst x) * (PX - cst x) := by
    show (PX - cst x) * (PX - cst x) - EE B * ((0 - 0) * (0 - 0)) = _
    rw [sub_self', mul_zero', mul_zero', sub_zero']
  have n2 : nm (CY - kc y : Cd B) = -EE B + cst (y * y) := by
    show (0 - cst y) * (0 - cst y) - EE B * ((1 - 0) * (1 - 0)) = _
    rw [cst_mul]
    exact (show (((0 - (cst y)) * (0 - (cst y))) - ((EE B) * ((1 - 0) * (1 - 0)))) = ((-(EE B)) + ((cst y) * (cst y))) from ring_id (fun vi_ => vget vi_ [cst y, EE B]) (.sub (.mul (.sub .zero (.var 0)) (.sub .zero (.var 0))) (.mul (.var 1) (.mul (.sub .one .zero) (.sub .one .zero)))) (.add (.neg (.var 1)) (.mul (.var 0) (.var 0))) (by kernel_rfl))
  have d1 : Deg (nm (w * s)) 2 := by rw [h1, n1]; exact (deg_Xsub x).mul (deg_Xsub x)
  have d2 : Deg (nm (w * t)) 3 := by rw [h2, n2]; exact (deg_E B).neg.add fun m hm => cst_high _ (by omega)
  have hz : ∀ {u v : Cd B} {n : Nat}, Deg (nm (u * v)) n → u ≠ 0 ∧ v ≠ 0 := fun {u v n} hd => by
    constructor
    · rintro rfl; rw [zero_mul', nm_zero] at hd; exact hd.ne rfl
    · rintro rfl; rw [mul_zero', nm_zero] at hd; exact hd.ne rfl
  obtain ⟨i, hi, hi1, hi0⟩ := nm_deg (hz d1).1
  obtain ⟨j, hj, hj1, _⟩ := nm_deg (hz d1).2
  obtain ⟨l, hl, hl1, _⟩ := nm_deg (hz d2).2
  rw [nm_mul] at d1 d2
  have e1 := (hi.mul hj).unique d1
  have e2 := (hi.mul hl).unique d2
  exact hi0 (by omega)
end
end Go.Ec
