/-
  The scalars: what the functions compute: the walks. Conditions: none.
-/
import Derived.Test.YtndonmbemehefaaDoorFr2
namespace Go.Cu
open Go Go.Vm Go.RowKit Go.Proofs 
attribute [local irreducible] W OpsW Det Fresh New Writes Vm.Pure Makes Changes ExternTo BuildTo ZeroTo FieldTo IndexTo BinTo SliceTo Vm.Enters
set_option linter.unusedVariables false
set_option linter.unusedSimpArgs false
variable {T : Nat → TypeId × Nat × Nat}

theorem montr_mul (x y : Fs) : montr x * montr y * inv_rr % rr = montr (x * y) := by
  unfold montr
  rw [Zp.mul_val, Nat.mul_mod, ← Nat.mul_mod (x.val * R4), ← Nat.mul_mod, Nat.mod_mul_mod,
    show x.val * R4 * (y.val * R4) * inv_rr = x.val * y.val * R4 * (R4 * inv_rr) from by ac_rfl, Nat.mul_mod, show R4 * inv_rr % rr = 1 from by decide +kernel, Nat.mul_one, Nat.mod_mod]
theorem montr_add (x y : Fs) : (montr x + montr y) % rr = montr (x + y) := by
  unfold montr
  rw [Zp.add_val, ← Nat.add_mod, ← Nat.add_mul, Nat.mod_mul_mod]
theorem montr_sub (x y : Fs) : (montr x + (rr - montr y)) % rr = montr (x - y) := by
  unfold montr
  rw [Zp.sub_val, Nat.mod_mul_mod]
  have h1 := Nat.mod_lt (y.val * R4) rr_pos
  have h2 := Nat.div_add_mod (y.val * R4) rr
  have hy := y.lt
  have h3 : (x.val + (rr - y.val)) * R4 + rr * (y.val * R4 / rr) = (x.val * R4 + (rr - y.val * R4 % rr)) + rr * (R4 - 1) := by
    have : (rr - y.val) * R4 + y.val * R4 = rr * R4 := by rw [← Nat.add_mul, Nat.sub_add_cancel (Nat.le_of_lt hy)]
    have h5 : rr * R4 = rr * (R4 - 1) + rr := by rw [← Nat.mul_succ]; rfl
    rw [Nat.add_mul]
    generalize rr * (R4 - 1) = z at *
    omega
  have h4 := congrArg (· % rr) h3
  simp only [Nat.add_mul_mod_self_left] at h4
  rw [h4, Nat.add_mod, Nat.mod_mod, ← Nat.add_mod]
theorem rof_words {n : Nat} (h : n < 18446744073709551616) : enc4 n = .agg #[u64 n, .int .u64 0, .int .u64 0, .int .u64 0] := by
  have := lim4 h (by decide : 0 < 18446744073709551616) (by decide : 0 < 18446744073709551616) (by decide : 0 < 18446744073709551616)
  have hv : val4 n 0 0 0 = n := by simp [val4]
  rw [hv] at this
  exact this
def R44 : Nat := val4 14526898881837571181 3129137299524312099 419701826671360399 524908885293268753
theorem zR : (.agg #[.int .u64 0, .int .u64 0, .int .u64 0, .int .u64 0] : Value) = encR 0 := by kernel_rfl


theorem fld35 {a b c d : Int} : FieldTo Tryd.prog 67 (.agg #[.int .u64 a, .int .u64 b, .int .u64 c, .int .u64 d]) 0 (.agg #[.int .u64 a, .int .u64 b, .int .u64 c, .int .u64 d]) := FieldTo.of fun _ => by kernel_rfl
end Go.Cu
