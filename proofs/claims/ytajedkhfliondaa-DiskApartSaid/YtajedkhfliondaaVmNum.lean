/-
  Integers' operations at natural numbers, in the logic of partial frames and heaps.
  Conditions: none; it is a library of lemmas over any program.
-/
import Derived.Test.YtajedkhfliondaaVmNorm
namespace Go.Vm
open Go Go.RowKit
section
variable {P : Program} {K : List Nat} {G : Hp} {w0 : World} {F : Fr} {H : Hp} {ty : TypeId} {pos : String} {after : Array Edge} {x y : Operand} {xt yt : TypeId} {d : Option Tmp} {g : Option (Nat × Bool)}
theorem wrap_i64 {a : Int} (h : -9223372036854775808 ≤ a ∧ a ≤ 9223372036854775807) : IntKind.i64.wrap a = a := by simp [IntKind.wrap, IntKind.signed, IntKind.bits]; omega
theorem wrap_u64 {a : Int} (h : 0 ≤ a ∧ a ≤ 18446744073709551615) : IntKind.u64.wrap a = a := by simp [IntKind.wrap, IntKind.signed, IntKind.bits]; omega
theorem Det.to {o : Oper} {u v : Value} (h : Det P K G w0 o F H u) (e : u = v) : Det P K G w0 o F H v := e ▸ h
theorem det_subZ {a b c : Int} (hx : ev F x = some (.int .i64 a)) (hy : ev F y = some (.int .i64 b)) (hc : a - b = c) (h : -9223372036854775808 ≤ c ∧ c ≤ 9223372036854775807) : Det P K G w0 ⟨d, .binOp .sub xt x y yt, ty, pos, after, g⟩ F H (.int .i64 c) :=
  (det_sub hx hy).to (by rw [hc, wrap_i64 h])
theorem det_addZ {a b c : Int} (hx : ev F x = some (.int .i64 a)) (hy : ev F y = some (.int .i64 b)) (hc : a + b = c) (h : -9223372036854775808 ≤ c ∧ c ≤ 9223372036854775807) : Det P K G w0 ⟨d, .binOp .add xt x y yt, ty, pos, after, g⟩ F H (.int .i64 c) :=
  (det_add hx hy).to (by rw [hc, wrap_i64 h])
theorem det_quoN {a b : Nat} (hx : ev F x = some (.int .i64 a)) (hy : ev F y = some (.int .i64 b)) (hb : b ≠ 0) (h : a ≤ 9223372036854775807) : Det P K G w0 ⟨d, .binOp .quo xt x y yt, ty, pos, after, g⟩ F H (.int .i64 ((a / b : Nat) : Int)) :=
  (det_quo hx hy (by omega)).to (by
    have : (a : Int).tdiv (b : Int) = ((a / b : Nat) : Int) := by rw [Int.tdiv_eq_ediv_of_nonneg (by omega)]; exact Int.natCast_ediv a b |>.symm
    have h2 := Nat.div_le_self a b
    rw [this]
    generalize a / b = q at h2
    rw [wrap_i64 (by omega)])
theorem det_remN {a b : Nat} (hx : ev F x = some (.int .i64 a)) (hy : ev F y = some (.int .i64 b)) (hb : b ≠ 0) : Det P K G w0 ⟨d, .binOp .rem xt x y yt, ty, pos, after, g⟩ F H (.int .i64 ((a % b : Nat) : Int)) :=
  (det_rem hx hy (by omega)).to (by
    rw [Int.tmod_eq_emod_of_nonneg (by omega), ← Int.natCast_emod])
theorem det_shrN {a b : Nat} {k : IntKind} (hx : ev F x = some (.int .u64 a)) (hy : ev F y = some (.int k b)) (hb : b ≤ 64) : Det P K G w0 ⟨d, .binOp .shr xt x y yt, ty, pos, after, g⟩ F H (.int .u64 ((a / 2 ^ b : Nat) : Int)) :=
  (det_shr hx hy (by omega)).to (by
    rw [show min (b : Int).toNat IntKind.u64.bits = b from by show min (b : Int).toNat 64 = b; omega]
    congr 1
    rw [Int.fdiv_eq_ediv_of_nonneg _ (by exact Int.natCast_nonneg (2 ^ b)), Int.natCast_ediv]; rfl)
theorem det_shlN {a b : Nat} {k : IntKind} (hx : ev F x = some (.int .u64 a)) (hy : ev F y = some (.int k b)) (hb : b ≤ 64) : Det P K G w0 ⟨d, .binOp .shl xt x y yt, ty, pos, after, g⟩ F H (.int .u64 ((a * 2 ^ b % 18446744073709551616 : Nat) : Int)) :=
  (det_shl hx hy (by omega)).to (by
    rw [show min (b : Int).toNat IntKind.u64.bits = b from by show min (b : Int).toNat 64 = b; omega]
    congr 1)
theorem bits_nat {a b : Nat} (ha : a < 18446744073709551616) (hb : b < 18446744073709551616) : bitsOf .and .u64 a b = ((a &&& b : Nat) : Int) ∧ bitsOf .or .u64 a b = ((a ||| b : Nat) : Int) := by
  have h1 : (BitVec.ofInt IntKind.u64.bits (a : Int)).toNat = a := by
    show (BitVec.ofInt 64 (a : Int)).toNat = a
    rw [BitVec.toNat_ofInt]; omega
  have h2 : (BitVec.ofInt IntKind.u64.bits (b : Int)).toNat = b := by
    show (BitVec.ofInt 64 (b : Int)).toNat = b
    rw [BitVec.toNat_ofInt]; omega
  constructor
  · unfold bitsOf
    simp only [BitVec.toNat_and, h1, h2]
    refine wrap_u64 ⟨by omega, ?_⟩
    have := Nat.and_lt_two_pow a (n := 64) (y := b) (by omega)
    omega
  · unfold bitsOf
    simp only [BitVec.toNat_or, h1, h2]
    refine wrap_u64 ⟨by omega, ?_⟩
    have := Nat.or_lt_two_pow (n := 64) (x := a) (y := b) (by omega) (by omega)
    omega
theorem det_maskN {a m k : Nat} (hx : ev F x = some (.int .u64 a)) (hy : ev F y = some (.int .u64 m)) (ha : a < 18446744073709551616) (hm : m = 2 ^ k - 1) (hk : k ≤ 64) : Det P K G w0 ⟨d, .binOp .and xt x y yt, ty, pos, after, g⟩ F H (.int .u64 ((a % 2 ^ k : Nat) : Int)) :=
  (det_and hx hy).to (by
    have : 2 ^ k ≤ 2 ^ 64 := Nat.pow_le_pow_right (by decide) hk
    rw [(bits_nat ha (by omega)).1, hm, Nat.and_two_pow_sub_one_eq_mod])
end
end Go.Vm
