/-
  The scalars: products: the walk. Conditions: numbers below the order.
-/
import Derived.Test.YtndonmbemehefaaDoorFr1
namespace Go.Cu
open Go Go.Vm Go.RowKit Go.Proofs 
attribute [local irreducible] W OpsW Det Fresh New Writes Vm.Pure Makes Changes ExternTo BuildTo ZeroTo FieldTo IndexTo BinTo SliceTo Vm.Enters
set_option linter.unusedVariables false
set_option linter.unusedSimpArgs false
variable {T : Nat → TypeId × Nat × Nat}

theorem idx33 {m i : Nat} (h : i < 4) : IndexTo Tryd.prog 65 (.agg #[u64 (lim (m) 0), u64 (lim (m) 1), u64 (lim (m) 2), u64 (lim (m) 3)]) (.int .i64 (i : Nat)) (u64 (lim m i)) := by
  have : i = 0 ∨ i = 1 ∨ i = 2 ∨ i = 3 := by omega
  rcases this with rfl | rfl | rfl | rfl <;> exact IndexTo.of fun _ => by kernel_rfl




end Go.Cu
