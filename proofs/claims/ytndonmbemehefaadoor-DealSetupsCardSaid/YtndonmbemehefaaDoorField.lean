/-
  Commutative rings, numbers modulo m among them; powers; identities by reflection.
  Conditions: none; plain arithmetic.
-/
import Derived.Test.YtndonmbemehefaaDoorZp
namespace Go.Cu
open Go
set_option linter.unusedVariables false
set_option linter.unusedSimpArgs false
set_option linter.unusedSectionVars false
set_option linter.constructorNameAsVariable false

class CR (α : Type) extends Add α, Mul α, Neg α, Sub α, Zero α, One α where
  add_comm : ∀ a b : α, a + b = b + a
  add_assoc : ∀ a b c : α, a + b + c = a + (b + c)
  zero_add : ∀ a : α, 0 + a = a
  neg_add : ∀ a : α, -a + a = 0
  sub_eq : ∀ a b : α, a - b = a + -b
  mul_comm : ∀ a b : α, a * b = b * a
  mul_assoc : ∀ a b c : α, a * b * c = a * (b * c)
  one_mul : ∀ a : α, 1 * a = a
  mul_add : ∀ a b c : α, a * (b + c) = a * b + a * c

section
variable {m : Nat} [Pos m]
theorem Zp.of_val (n : Nat) : (Zp.of n : Zp m).val = n % m := rfl
theorem Zp.zmod : (0 : Nat) % m = 0 := Nat.zero_mod m
theorem Zp.self (x : Zp m) : x.val % m = x.val := Nat.mod_eq_of_lt x.lt
instance : CR (Zp m) where
  add_comm a b := Zp.ext (by rw [Zp.add_val, Zp.add_val, Nat.add_comm])
  add_assoc a b c := Zp.ext (by simp only [Zp.add_val, Nat.mod_add_mod, Nat.add_mod_mod, Nat.add_assoc])
  zero_add a := Zp.ext (by rw [Zp.add_val, Zp.zero_val, Nat.zero_add, Zp.self])
  neg_add a := Zp.ext (by
    rw [Zp.add_val, Zp.neg_val, Zp.zero_val, Nat.mod_add_mod, Nat.sub_add_cancel (Nat.le_of_lt a.lt), Nat.mod_self])
  sub_eq a b := Zp.ext (by rw [Zp.add_val, Zp.neg_val, Zp.sub_val, Nat.add_mod_mod])
  mul_comm a b := Zp.ext (by rw [Zp.mul_val, Zp.mul_val, Nat.mul_comm])
  mul_assoc a b c := Zp.ext (by simp only [Zp.mul_val, Nat.mod_mul_mod, Nat.mul_mod_mod, Nat.mul_assoc])
  one_mul a := Zp.ext (by
    rw [Zp.mul_val]
    show (1 % m) * a.val % m = a.val
    rw [Nat.mod_mul_mod, Nat.one_mul, Zp.self])
  mul_add a b c := Zp.ext (by simp only [Zp.mul_val, Zp.add_val, Nat.mul_mod_mod, Nat.mul_add, Nat.add_mod_mod, Nat.mod_add_mod])
end

section
variable {α : Type} [CR α]
open CR
theorem add_zero' (a : α) : a + 0 = a := by rw [add_comm, zero_add]
theorem add_neg (a : α) : a + -a = 0 := by rw [add_comm, neg_add]
theorem mul_one' (a : α) : a * 1 = a := by rw [mul_comm, one_mul]
theorem add_mul' (a b c : α) : (a + b) * c = a * c + b * c := by rw [mul_comm, mul_add, mul_comm c, mul_comm c]
theorem add_left_cancel' {a b c : α} (h : a + b = a + c) : b = c := by
  have := congrArg (-a + ·) h
  simpa only [← add_assoc, neg_add, zero_add] using this
theorem mul_zero' (a : α) : a * 0 = 0 := by
  have h : a * 0 + a * 0 = a * 0 + 0 := by rw [← mul_add, zero_add, add_zero']
  exact add_left_cancel' h
theorem zero_mul' (a : α) : 0 * a = 0 := by rw [mul_comm, mul_zero']
theorem neg_zero' : -(0 : α) = 0 := by have := neg_add (0 : α); rwa [add_zero'] at this
theorem neg_mul' (a b : α) : -a * b = -(a * b) := by
  have h : a * b + -a * b = a * b + -(a * b) := by rw [← add_mul', add_neg, zero_mul', add_neg]
  exact add_left_cancel' h
theorem neg_neg' (a : α) : - -a = a := by
  have h : -a + - -a = -a + a := by rw [add_neg, neg_add]
  exact add_left_cancel' h
theorem neg_add_rev (a b : α) : -(a + b) = -a + -b := by
  have h : (a + b) + -(a + b) = (a + b) + (-a + -b) := by
    rw [add_neg, add_comm (-a), add_assoc, ← add_assoc b, add_neg, zero_add, add_neg]
  exact add_left_cancel' h
theorem sub_self' (a : α) : a - a = 0 := by rw [sub_eq, add_neg]
theorem sub_zero' (a : α) : a - 0 = a := by rw [sub_eq, neg_zero', add_zero']
theorem zero_sub' (a : α) : 0 - a = -a := by rw [sub_eq, zero_add]
theorem eq_of_sub {a b : α} (h : a - b = 0) : a = b := by
  have := congrArg (· + b) h
  simpa only [sub_eq, add_assoc, neg_add, add_zero', zero_add] using this

def pw (x : α) : Nat → α
  | 0 => 1
  | n + 1 => pw x n * x
theorem pw_add (x : α) (a : Nat) : ∀ b, pw x (a + b) = pw x a * pw x b
  | 0 => by rw [Nat.add_zero, pw, mul_one']
  | b + 1 => by rw [← Nat.add_assoc, pw, pw, pw_add x a b, mul_assoc]
theorem pw_two (x : α) (a : Nat) : pw x (2 * a) = pw x a * pw x a := by rw [Nat.two_mul, pw_add]
theorem pw_16 (x : α) (a : Nat) : pw x (16 * a) = (let y := pw x a * pw x a; let z := y * y; let u := z * z; u * u) := by
  rw [show 16 * a = 2 * (2 * (2 * (2 * a))) by omega, pw_two, pw_two, pw_two, pw_two]
theorem mul_pw (x y : α) : ∀ n, pw (x * y) n = pw x n * pw y n
  | 0 => by rw [pw, pw, pw, one_mul]
  | n + 1 => by rw [pw, pw, pw, mul_pw x y n, mul_assoc, mul_assoc, ← mul_assoc (pw y n), mul_comm (pw y n), mul_assoc x]
theorem one_pw : ∀ n, pw (1 : α) n = 1
  | 0 => rfl
  | n + 1 => by rw [pw, one_pw n, one_mul]
theorem pw_mul (x : α) (a : Nat) : ∀ b, pw x (a * b) = pw (pw x a) b
  | 0 => rfl
  | b + 1 => by rw [Nat.mul_succ, pw_add, pw_mul x a b, pw]
end
end Go.Cu
