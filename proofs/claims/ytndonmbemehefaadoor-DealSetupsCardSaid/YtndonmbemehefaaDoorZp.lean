/-
  Numbers modulo m, and how a number of Go's fields is laid into words.
  Conditions: none; plain arithmetic.
-/
import Derived.Test.YtndonmbemehefaaDoorVmGlue
namespace Go.Cu
open Go Go.Vm

/-- The modulus of the curve's field. -/
def pp : Nat := 0x1a0111ea397fe69a4b1ba7b6434bacd764774b84f38512bf6730d2a0f6b0f6241eabfffeb153ffffb9feffffffffaaab
/-- The group's order. -/
def rr : Nat := 0x73eda753299d7d483339d80809a1d80553bda402fffe5bfeffffffff00000001
theorem pp_pos : 0 < pp := by decide
theorem rr_pos : 0 < rr := by decide

/-- A number modulo m. -/
structure Zp (m : Nat) where
  val : Nat
  lt : val < m

theorem Zp.ext {m : Nat} : ∀ {x y : Zp m}, x.val = y.val → x = y
  | ⟨_, _⟩, ⟨_, _⟩, rfl => rfl

class Pos (m : Nat) : Prop where
  pos : 0 < m
instance : Pos pp := ⟨pp_pos⟩
instance : Pos rr := ⟨rr_pos⟩

section
variable {m : Nat} [Pos m]
def Zp.of (n : Nat) : Zp m := ⟨n % m, Nat.mod_lt _ Pos.pos⟩
def Zp.add (x y : Zp m) : Zp m := Zp.of (x.val + y.val)
def Zp.mul (x y : Zp m) : Zp m := Zp.of (x.val * y.val)
def Zp.neg (x : Zp m) : Zp m := Zp.of (m - x.val)
def Zp.sub (x y : Zp m) : Zp m := Zp.of (x.val + (m - y.val))
instance : Add (Zp m) := ⟨Zp.add⟩
instance : Mul (Zp m) := ⟨Zp.mul⟩
instance : Neg (Zp m) := ⟨Zp.neg⟩
instance : Sub (Zp m) := ⟨Zp.sub⟩
instance : Zero (Zp m) := ⟨Zp.of 0⟩
instance : One (Zp m) := ⟨Zp.of 1⟩
instance : DecidableEq (Zp m) := fun x y => decidable_of_iff (x.val = y.val) ⟨Zp.ext, fun h => by rw [h]⟩
theorem Zp.add_val (x y : Zp m) : (x + y).val = (x.val + y.val) % m := rfl
theorem Zp.mul_val (x y : Zp m) : (x * y).val = (x.val * y.val) % m := rfl
theorem Zp.neg_val (x : Zp m) : (-x).val = (m - x.val) % m := rfl
theorem Zp.sub_val (x y : Zp m) : (x - y).val = (x.val + (m - y.val)) % m := rfl
theorem Zp.zero_val : (0 : Zp m).val = 0 := Nat.zero_mod m
end

abbrev Fq := Zp pp
abbrev Fs := Zp rr

/-- Word number i. -/
def lim (m i : Nat) : Nat := m / 18446744073709551616 ^ i % 18446744073709551616
theorem lim_lt (m i : Nat) : lim m i < 18446744073709551616 := Nat.mod_lt _ (by decide)
def u64 (n : Nat) : Value := .int .u64 (n : Int)
def enc6 (m : Nat) : Value := .agg #[u64 (lim m 0), u64 (lim m 1), u64 (lim m 2), u64 (lim m 3), u64 (lim m 4), u64 (lim m 5)]
def enc4 (m : Nat) : Value := .agg #[u64 (lim m 0), u64 (lim m 1), u64 (lim m 2), u64 (lim m 3)]
/-- 2^384, 2^256. -/
def R6 : Nat := 0x1000000000000000000000000000000000000000000000000000000000000000000000000000000000000000000000000
def R4 : Nat := 0x10000000000000000000000000000000000000000000000000000000000000000
/-- The forms in which Go keeps the numbers. -/
def mont (x : Fq) : Nat := x.val * R6 % pp
def montr (x : Fs) : Nat := x.val * R4 % rr
theorem mont_lt (x : Fq) : mont x < pp := Nat.mod_lt _ pp_pos
theorem montr_lt (x : Fs) : montr x < rr := Nat.mod_lt _ rr_pos
def encF (x : Fq) : Value := enc6 (mont x)
def encR (x : Fs) : Value := enc4 (montr x)

/-- Six words' number. -/
def val6 (a0 a1 a2 a3 a4 a5 : Nat) : Nat := a0 + 18446744073709551616 * (a1 + 18446744073709551616 * (a2 + 18446744073709551616 * (a3 + 18446744073709551616 * (a4 + 18446744073709551616 * a5))))
theorem lim_of (m : Nat) : m % 18446744073709551616 = lim m 0 := by simp [lim]
theorem lim_succ (m i : Nat) : lim m (i + 1) = lim (m / 18446744073709551616) i := by
  unfold lim
  rw [Nat.pow_succ, Nat.mul_comm, Nat.div_div_eq_div_mul]
theorem div_val {a b : Nat} (h : a < 18446744073709551616) : (a + 18446744073709551616 * b) / 18446744073709551616 = b := by omega
theorem mod_val {a b : Nat} (h : a < 18446744073709551616) : (a + 18446744073709551616 * b) % 18446744073709551616 = a := by omega
/-- A number's words are those that make it. -/
theorem lim6 {a0 a1 a2 a3 a4 a5 : Nat} (h0 : a0 < 18446744073709551616) (h1 : a1 < 18446744073709551616) (h2 : a2 < 18446744073709551616) (h3 : a3 < 18446744073709551616) (h4 : a4 < 18446744073709551616) (h5 : a5 < 18446744073709551616) :
    enc6 (val6 a0 a1 a2 a3 a4 a5) = .agg #[u64 a0, u64 a1, u64 a2, u64 a3, u64 a4, u64 a5] := by
  unfold enc6 val6
  simp only [lim_succ, ← lim_of, div_val h0, mod_val h0, div_val h1, mod_val h1, div_val h2, mod_val h2, div_val h3, mod_val h3, div_val h4, mod_val h4, Nat.mod_eq_of_lt h5]
theorem val_lim6 {m : Nat} (h : m < R6) : val6 (lim m 0) (lim m 1) (lim m 2) (lim m 3) (lim m 4) (lim m 5) = m := by
  unfold val6
  simp only [lim_succ, ← lim_of]
  unfold R6 at h
  omega
def val4 (a0 a1 a2 a3 : Nat) : Nat := a0 + 18446744073709551616 * (a1 + 18446744073709551616 * (a2 + 18446744073709551616 * a3))
theorem lim4 {a0 a1 a2 a3 : Nat} (h0 : a0 < 18446744073709551616) (h1 : a1 < 18446744073709551616) (h2 : a2 < 18446744073709551616) (h3 : a3 < 18446744073709551616) :
    enc4 (val4 a0 a1 a2 a3) = .agg #[u64 a0, u64 a1, u64 a2, u64 a3] := by
  unfold enc4 val4
  simp only [lim_succ, ← lim_of, div_val h0, mod_val h0, div_val h1, mod_val h1, div_val h2, mod_val h2, Nat.mod_eq_of_lt h3]
theorem val_lim4 {m : Nat} (h : m < R4) : val4 (lim m 0) (lim m 1) (lim m 2) (lim m 3) = m := by
  unfold val4
  simp only [lim_succ, ← lim_of]
  unfold R4 at h
  omega
end Go.Cu
