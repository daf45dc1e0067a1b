/-
  The scalars: how they are written: the walk. Conditions: none.
-/
import Derived.Test.YtndonmbemehefaaDoorFr4
import Derived.Test.YtndonmbemehefaaDoorVmCopy
namespace Go.Cu
open Go Go.Vm Go.RowKit Go.Proofs 
attribute [local irreducible] W OpsW Det Fresh New Writes Vm.Pure Makes Changes ExternTo BuildTo ZeroTo FieldTo IndexTo BinTo SliceTo Vm.Enters
set_option linter.unusedVariables false
set_option linter.unusedSimpArgs false
variable {T : Nat → TypeId × Nat × Nat}

theorem over_app : ∀ {new c : List Value}, new.length ≤ c.length → over new c = some (new ++ c.drop new.length)
  | [], c, _ => by simp [over]
  | v :: new, [], h => by simp at h
  | v :: new, x :: c, h => by
    have := over_app (new := new) (c := c) (by simpa using h)
    simp [over, this]
theorem splice_app {new c : List Value} (h : new.length ≤ c.length) : ∀ {a : List Value}, splice a.length new (a ++ c) = some (a ++ new ++ c.drop new.length)
  | [] => by simpa [splice] using over_app h
  | x :: a => by
    have := splice_app h (a := a)
    simp [splice, this]
theorem byt_lim {V w j : Nat} (hj : j < 8) : byt (lim V w) j = byt V (8 * w + j) := by
  unfold byt lim
  have h1 : 18446744073709551616 ^ w = 256 ^ (8 * w) := by rw [Nat.pow_mul]
  have h2 : (18446744073709551616 : Nat) = 256 ^ j * 256 ^ (8 - j) := by rw [← Nat.pow_add, show j + (8 - j) = 8 by omega]
  rw [h1, h2, Nat.mod_mul_right_div_self, Nat.div_div_eq_div_mul, ← Nat.pow_add]
  exact Nat.mod_mod_of_dvd _ (by rw [show 8 - j = (7 - j) + 1 by omega, Nat.pow_succ]; exact Nat.dvd_mul_left _ _)
theorem bytes_more (x n k : Nat) : ∀ j, bytes x n (k + j) = bytes x n k ++ (List.range j).map fun i => u8 (byt x (n - 1 - (k + i)))
  | 0 => by simp
  | j + 1 => by rw [← Nat.add_assoc, bytes, bytes_more x n k j, List.range_succ]; simp
theorem bytes_all (x n : Nat) : bytes x n n = (List.range n).map fun i => u8 (byt x (n - 1 - i)) := by
  have := bytes_more x n 0 n
  simpa [bytes] using this
theorem bytes_word {V i : Nat} (h : i < 4) : bytes V 32 (8 * i) ++ bytes (lim V (3 - i)) 8 8 = bytes V 32 (8 * (i + 1)) := by
  rw [Nat.mul_succ, bytes_more V 32 (8 * i) 8, bytes_all]
  congr 1
  refine List.map_congr_left fun j hj => ?_
  have hj : j < 8 := by simpa using hj
  rw [byt_lim (by omega)]
  congr 2
  omega
/-- The first i words' bytes, and noughts. -/
def bst (V i : Nat) : List Value := bytes V 32 (8 * i) ++ List.replicate (32 - 8 * i) (u8 0)
theorem bst_put {V i : Nat} (h : i < 4) : splice (8 * i) (bytes (lim V (3 - i)) 8 8) (bst V i) = some (bst V (i + 1)) := by
  have := splice_app (a := bytes V 32 (8 * i)) (new := bytes (lim V (3 - i)) 8 8) (c := List.replicate (32 - 8 * i) (u8 0)) (by rw [bytes_len, List.length_replicate]; omega)
  rw [bytes_len] at this
  unfold bst
  rw [this, bytes_word h, bytes_len, List.drop_replicate]
  congr 3
theorem bytes_one (x n k : Nat) : (bytes x n k).all (·.oneCell') = true := by
  induction k with
  | zero => rfl
  | succ k ih => rw [bytes, List.all_append, ih]; rfl
theorem u101 : Tryd.prog.underlying 101 = some (.array 32 5) := by kernel_rfl
theorem u22 : Tryd.prog.underlying 22 = some (.slice 5) := by kernel_rfl
theorem sz5 : sizeIn Tryd.prog 5 = some 1 := by kernel_rfl
theorem z101 : TyZ Tryd.prog 101 (.agg (bst 0 0).toArray) (bst 0 0) := ⟨fun _ => by kernel_rfl, by kernel_rfl⟩
theorem bst_4 {V : Nat} : bst V 4 = bytes V 32 32 := by unfold bst; simp
/-- How a scalar is written. -/
def rbytes (x : Fs) : List Value := bytes x.val 32 32
theorem rbytes_len (x : Fs) : (rbytes x).length = 32 := bytes_len _ _ _
theorem bst_len {V i : Nat} (h : i ≤ 4) : (bst V i).length = 32 := by unfold bst; rw [List.length_append, bytes_len, List.length_replicate]; omega
theorem cut_all : ∀ {n : Nat} {l : List Value}, l.length = n → takeN n l = some l
  | 0, l, h => by simp [takeN, List.eq_nil_of_length_eq_zero h]
  | n + 1, [], h => by simp at h
  | n + 1, c :: l, h => by simp [takeN, cut_all (n := n) (l := l) (by simpa using h)]
theorem splice_all {new c : List Value} (h : new.length = c.length) : splice 0 new c = some new := by
  have := splice_app (a := []) (new := new) (c := c) (by omega)
  simpa [h] using this
theorem bst_one {V i : Nat} : (bst V i).all (·.oneCell') = true := by
  unfold bst; rw [List.all_append, bytes_one, List.all_replicate]; simp; exact .inr rfl




end Go.Cu
