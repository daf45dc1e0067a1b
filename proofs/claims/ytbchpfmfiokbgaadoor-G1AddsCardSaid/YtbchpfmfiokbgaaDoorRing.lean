/-
  Identities of commutative rings, by reflection.
  Conditions: none; plain algebra.
-/
import Derived.Test.YtbchpfmfiokbgaaDoorField
namespace Go.Cu
open CR
set_option linter.unusedVariables false
set_option linter.unusedSimpArgs false
set_option linter.unusedSectionVars false
set_option linter.constructorNameAsVariable false

section
variable {α : Type} [CR α]
def nat : Nat → α
  | 0 => 0
  | n + 1 => nat n + 1
theorem nat_add (a : Nat) : ∀ b : Nat, (nat (a + b) : α) = nat a + nat b
  | 0 => by rw [Nat.add_zero, nat, add_zero']
  | b + 1 => by rw [← Nat.add_assoc, nat, nat, nat_add a b, add_assoc]
theorem nat_mul (a : Nat) : ∀ b : Nat, (nat (a * b) : α) = nat a * nat b
  | 0 => by rw [Nat.mul_zero, nat, mul_zero']
  | b + 1 => by rw [Nat.mul_succ, nat, nat_add, nat_mul a b, mul_add, mul_one']
def zval : Int → α
  | .ofNat n => nat n
  | .negSucc n => -nat (n + 1)
theorem add_right_cancel' {a b c : α} (h : a + c = b + c) : a = b := by
  rw [add_comm a, add_comm b] at h; exact add_left_cancel' h
theorem zval_sub (x y : Nat) : (zval ((x : Int) - y) : α) = nat x - nat y := by
  rcases Nat.le_total y x with h | h
  · obtain ⟨k, rfl⟩ : ∃ k, x = k + y := ⟨x - y, by omega⟩
    rw [show ((k + y : Nat) : Int) - y = ((k : Nat) : Int) by omega, nat_add, sub_eq, add_assoc, add_neg, add_zero']
    rfl
  · obtain ⟨k, rfl⟩ : ∃ k, y = k + x := ⟨y - x, by omega⟩
    cases k with
    | zero => rw [show (x : Int) - ((0 + x : Nat) : Int) = ((0 : Nat) : Int) by omega, Nat.zero_add, sub_eq, add_neg]; rfl
    | succ k =>
      rw [show (x : Int) - ((k + 1 + x : Nat) : Int) = Int.negSucc k by omega, nat_add (k + 1) x, sub_eq, neg_add_rev, add_comm (-nat (k + 1)), ← add_assoc, add_neg, zero_add]
      rfl
theorem int_split (a : Int) : ∃ x y : Nat, a = (x : Int) - y := ⟨a.toNat, (-a).toNat, by omega⟩
theorem zval_add (a b : Int) : (zval (a + b) : α) = zval a + zval b := by
  obtain ⟨x, y, rfl⟩ := int_split a
  obtain ⟨z, w, rfl⟩ := int_split b
  rw [show (x : Int) - y + ((z : Int) - w) = ((x + z : Nat) : Int) - ((y + w : Nat) : Int) by omega, zval_sub, zval_sub, zval_sub, nat_add, nat_add]
  simp only [sub_eq, neg_add_rev]
  rw [add_assoc, add_assoc, ← add_assoc (nat z), add_comm (nat z), add_assoc (-nat y)]
theorem zval_neg (a : Int) : (zval (-a) : α) = -zval a := by
  obtain ⟨x, y, rfl⟩ := int_split a
  rw [show -((x : Int) - y) = (y : Int) - x by omega, zval_sub, zval_sub, sub_eq, sub_eq, neg_add_rev, neg_neg', add_comm]
theorem mul_neg' (a b : α) : a * -b = -(a * b) := by rw [mul_comm, neg_mul', mul_comm]
theorem shuffle (p q r s : α) : p + q + (-r + -s) = p + -s + (-r + q) := by
  rw [add_assoc, add_assoc, add_comm q, add_assoc (-r), add_comm (-s) (-r + q), add_assoc (-r), add_comm (-s) q]
theorem zval_mul (a b : Int) : (zval (a * b) : α) = zval a * zval b := by
  obtain ⟨x, y, rfl⟩ := int_split a
  obtain ⟨z, w, rfl⟩ := int_split b
  have e : ((x : Int) - y) * ((z : Int) - w) = ((x * z + y * w : Nat) : Int) - ((x * w + y * z : Nat) : Int) := by
    simp only [Int.sub_mul, Int.mul_sub, Int.natCast_add, Int.natCast_mul]; omega
  rw [e, zval_sub, zval_sub, zval_sub, nat_add, nat_add, nat_mul, nat_mul, nat_mul, nat_mul]
  simp only [sub_eq, neg_add_rev, mul_add, add_mul', neg_mul', mul_neg', neg_neg']
  exact shuffle _ _ _ _

inductive RE where
  | var (i : Nat)
  | num (n : Int)
  | zero
  | one
  | add (a b : RE)
  | mul (a b : RE)
  | neg (a : RE)
  | sub (a b : RE)
def RE.val (v : Nat → α) : RE → α
  | .var i => v i
  | .num n => zval n
  | .zero => 0
  | .one => 1
  | .add a b => a.val v + b.val v
  | .mul a b => a.val v * b.val v
  | .neg a => - a.val v
  | .sub a b => a.val v - b.val v

abbrev Mono := List Nat
def mmul : Mono → Mono → Mono
  | [], b => b
  | x :: a, [] => x :: a
  | x :: a, y :: b => (x + y) :: mmul a b
def mval (v : Nat → α) : Nat → Mono → α
  | _, [] => 1
  | i, e :: m => pw (v i) e * mval v (i + 1) m
theorem mval_mul (v : Nat → α) : ∀ (a b : Mono) (i : Nat), mval v i (mmul a b) = mval v i a * mval v i b
  | [], b, i => by rw [mmul, mval, one_mul]
  | x :: a, [], i => by rw [mmul, mval, mval, mul_one']
  | x :: a, y :: b, i => by
    rw [mmul, mval, mval, mval, mval_mul v a b, pw_add, mul_assoc, mul_assoc, ← mul_assoc (pw (v i) y), mul_comm (pw (v i) y), mul_assoc (mval v (i + 1) a)]
/-- Lexicographic order. -/
def mcmp : Mono → Mono → Ordering
  | [], [] => .eq
  | [], _ :: _ => .lt
  | _ :: _, [] => .gt
  | x :: a, y :: b => match Nat.blt x y with
    | true => .lt
    | false => match Nat.beq x y with
      | true => mcmp a b
      | false => .gt
theorem mcmp_eq : ∀ {a b : Mono}, mcmp a b = .eq → a = b
  | [], [], _ => rfl
  | [], _ :: _, h => by simp [mcmp] at h
  | _ :: _, [], h => by simp [mcmp] at h
  | x :: a, y :: b, h => by
    unfold mcmp at h
    split at h
    · cases h
    · split at h
      · rename_i h1
        rw [Nat.eq_of_beq_eq_true h1, mcmp_eq h]
      · cases h
abbrev Poly := List (Int × Mono)
def pval (v : Nat → α) : Poly → α
  | [] => 0
  | (c, m) :: p => zval c * mval v 0 m + pval v p
def pcons (c : Int) (m : Mono) (p : Poly) : Poly := match c with
  | .ofNat 0 => p
  | c => (c, m) :: p
theorem zval_zero : (zval 0 : α) = 0 := rfl
theorem pval_cons (v : Nat → α) (c : Int) (m : Mono) (p : Poly) : pval v (pcons c m p) = zval c * mval v 0 m + pval v p := by
  unfold pcons
  split
  · rw [show (zval (Int.ofNat 0) : α) = 0 from rfl, zero_mul', zero_add]
  · rfl
def pmerge : Nat → Poly → Poly → Poly
  | 0, p, q => p ++ q
  | _ + 1, [], q => q
  | _ + 1, p, [] => p
  | n + 1, (c, m) :: p, (d, k) :: q => match mcmp m k with
    | .gt => (c, m) :: pmerge n p ((d, k) :: q)
    | .lt => (d, k) :: pmerge n ((c, m) :: p) q
    | .eq => pcons (c + d) m (pmerge n p q)
theorem pval_app (v : Nat → α) : ∀ p q : Poly, pval v (p ++ q) = pval v p + pval v q
  | [], q => by rw [List.nil_append, pval, zero_add]
  | (c, m) :: p, q => by rw [List.cons_append, pval, pval, pval_app v p q, add_assoc]
theorem add_swap (x y z : α) : x + (y + z) = y + (x + z) := by rw [← add_assoc, add_comm x, add_assoc]
theorem add_four (a b c d : α) : a + b + (c + d) = a + c + (b + d) := by rw [add_assoc, add_swap b, ← add_assoc]
theorem pval_merge (v : Nat → α) : ∀ (n : Nat) (p q : Poly), pval v (pmerge n p q) = pval v p + pval v q
  | 0, p, q => pval_app v p q
  | n + 1, [], q => by rw [pmerge, pval, zero_add]
  | n + 1, (c, m) :: p, [] => by rw [pmerge, pval, pval, add_zero']; simp
  | n + 1, (c, m) :: p, (d, k) :: q => by
    unfold pmerge
    split
    · simp only [pval, pval_merge v n, add_assoc]
    · simp only [pval, pval_merge v n]
      rw [add_swap]
    · rename_i h
      rw [pval_cons, pval_merge v n, mcmp_eq h, zval_add, add_mul', pval, pval]
      exact add_four _ _ _ _
def pscale (c : Int) (m : Mono) : Poly → Poly
  | [] => []
  | (d, k) :: p => (c * d, mmul m k) :: pscale c m p
theorem pval_scale (v : Nat → α) (c : Int) (m : Mono) : ∀ p : Poly, pval v (pscale c m p) = zval c * mval v 0 m * pval v p
  | [] => by rw [pscale, pval, mul_zero']
  | (d, k) :: p => by
    rw [pscale, pval, pval, pval_scale v c m p, zval_mul, mval_mul, mul_add, mul_assoc, mul_assoc, ← mul_assoc (zval d), mul_comm (zval d), mul_assoc (mval v 0 m)]
    simp only [mul_assoc]
def pmul' (q : Poly) : Poly → Poly
  | [] => []
  | (c, m) :: p => let x := pscale c m q; let y := pmul' q p; pmerge (x.length + y.length) x y
theorem pval_mul (v : Nat → α) (q : Poly) : ∀ p : Poly, pval v (pmul' q p) = pval v p * pval v q
  | [] => by rw [pmul', pval, zero_mul']
  | (c, m) :: p => by rw [pmul', pval, add_mul', pval_merge, pval_scale, pval_mul v q p]
def pneg' : Poly → Poly
  | [] => []
  | (c, m) :: p => (-c, m) :: pneg' p
theorem pval_neg (v : Nat → α) : ∀ p : Poly, pval v (pneg' p) = -pval v p
  | [] => by rw [pneg', pval, neg_zero']
  | (c, m) :: p => by rw [pneg', pval, pval, pval_neg v p, zval_neg, neg_add_rev, neg_mul']
def vmono : Nat → Mono
  | 0 => [1]
  | i + 1 => 0 :: vmono i
theorem mval_vmono (v : Nat → α) : ∀ (i j : Nat), mval v j (vmono i) = v (j + i)
  | 0, j => by rw [vmono, mval, mval, mul_one', pw, pw, one_mul]; rfl
  | i + 1, j => by rw [vmono, mval, pw, one_mul, mval_vmono v i, show j + 1 + i = j + (i + 1) by omega]
def norm : RE → Poly
  | .var i => [(1, vmono i)]
  | .num n => pcons n [] []
  | .zero => []
  | .one => [(1, [])]
  | .add a b => let x := norm a; let y := norm b; pmerge (x.length + y.length) x y
  | .mul a b => pmul' (norm b) (norm a)
  | .neg a => pneg' (norm a)
  | .sub a b => let x := norm a; let y := pneg' (norm b); pmerge (x.length + y.length) x y
theorem zval_one : (zval 1 : α) = 1 := by show nat 0 + 1 = (1 : α); rw [nat, zero_add]
theorem norm_ok (v : Nat → α) : ∀ e : RE, pval v (norm e) = e.val v
  | .var i => by rw [norm, pval, pval, mval_vmono, zval_one, one_mul, add_zero', Nat.zero_add]; rfl
  | .num n => by rw [norm, pval_cons, pval, mval, mul_one', add_zero']; rfl
  | .zero => rfl
  | .one => by rw [norm, pval, pval, mval, mul_one', add_zero', zval_one]; rfl
  | .add a b => by rw [norm, pval_merge, norm_ok v a, norm_ok v b]; rfl
  | .mul a b => by rw [norm, pval_mul, norm_ok v a, norm_ok v b]; rfl
  | .neg a => by rw [norm, pval_neg, norm_ok v a]; rfl
  | .sub a b => by rw [norm, pval_merge, pval_neg, norm_ok v a, norm_ok v b, ← sub_eq]; rfl
/-- The i-th of a list of variables. -/
def vget : Nat → List α → α
  | _, [] => 0
  | 0, x :: _ => x
  | i + 1, _ :: l => vget i l
theorem lz {c l r : α} (h : l = r) : c * (l - r) = 0 := by rw [h, sub_self', mul_zero']
theorem lz2 {x y : α} (h : x = 0) (h' : y = 0) : x + y = 0 := by rw [h, h', zero_add]
def isNil : Poly → Bool
  | [] => true
  | _ :: _ => false
/-- An identity, checked by its normal form. -/
theorem ring_id (v : Nat → α) (a b : RE) (h : isNil (norm (.sub a b)) = true) : a.val v = b.val v := by
  have h1 := norm_ok v (.sub a b)
  cases hn : norm (.sub a b) with
  | nil => rw [hn, pval] at h1; exact eq_of_sub h1.symm
  | cons x p => rw [hn] at h; cases h
end
end Go.Cu
