/-
  The scalars: their bytes: the walks. Conditions: none.
-/
import Derived.Test.YtndonmbemehefaaDoorFr3
namespace Go.Cu
open Go Go.Vm Go.RowKit Go.Proofs 
attribute [local irreducible] W OpsW Det Fresh New Writes Vm.Pure Makes Changes ExternTo BuildTo ZeroTo FieldTo IndexTo BinTo SliceTo Vm.Enters
set_option linter.unusedVariables false
set_option linter.unusedSimpArgs false
variable {T : Nat → TypeId × Nat × Nat}

/-- Byte j of x, the lowest first. -/
def byt (x j : Nat) : Nat := x / 256 ^ j % 256
def u8 (n : Nat) : Value := .int .u8 (n : Int)
/-- The bytes of x from the n-th down to the k-th. -/
def bytes (x n : Nat) : Nat → List Value
  | 0 => []
  | k + 1 => bytes x n k ++ [u8 (byt x (n - 1 - k))]
theorem bytes_len (x n k : Nat) : (bytes x n k).length = k := by
  induction k with
  | zero => rfl
  | succ k ih => simp [bytes, ih]
theorem slice22 {v : Int} : SliceTo Tryd.prog 22 1 [(0, .int .u8 v)] [.int .u8 v] 5 := SliceTo.of fun _ => by kernel_rfl
theorem wrap_u8 {a : Nat} : IntKind.u8.wrap (a : Int) = ((a % 256 : Nat) : Int) := by simp [IntKind.wrap, IntKind.signed, IntKind.bits]
theorem ty22 : TyS Tryd.prog 22 5 1 1 [.int .u8 0] := ⟨by kernel_rfl, by kernel_rfl, by kernel_rfl, ⟨.int .u8 0, by kernel_rfl, by kernel_rfl⟩, rfl, by decide⟩
theorem byt_eq (x i : Nat) : x / 2 ^ (8 * i) % 256 = byt x i := by unfold byt; rw [Nat.pow_mul]
theorem isSl_at {el s len : Nat} {v : Value} {hp : Hp} {xs : List Value} (h : IsSl el s v len hp xs) (h0 : 0 < len) : ∃ p : Prm, v = .slice (some ⟨p.1, 0, none⟩) len p.2.1 ∧ hp = [(p.1, blk (xs ++ p.2.2) el)] ∧ (xs ++ p.2.2).length = p.2.1 * s := by
  cases h with
  | nil => omega
  | at_ h1 h2 h3 => exact ⟨(_, _, _), rfl, rfl, h2⟩




end Go.Cu
