/-
  math/bits' Add64, Sub64, Mul64, as steps of a walk that names sums and carries by what they satisfy.
  Conditions: carries are 0 or 1, words are words.
-/
import Derived.Test.YtndonmbemehefaaDoorZp
import Derived.Test.YtndonmbemehefaaDoorProg
import Derived.Shelf.Bits.Mul64
import Derived.Shelf.Spec.BitsCarry
namespace Go.Cu
open Go Go.Vm Go.RowKit Go.Proofs
attribute [local irreducible] W OpsW Det Fresh New Writes Vm.Pure Makes Changes ExternTo BuildTo ZeroTo FieldTo IndexTo BinTo SliceTo Vm.Enters

theorem mixed : Tryd.prog.follows .mixedOrders = true := by kernel_rfl

theorem run_Add64 (x y c : Nat) (hc : c ≤ 1) : ExternTo Tryd.prog 57 [u64 x, u64 y, u64 c]
    (.tuple #[u64 ((x + y + c) % 18446744073709551616), u64 ((x + y + c) / 18446744073709551616)]) := by
  refine ExternTo.of fun w => ?_
  unfold u64
  rw [run_callFunc_extern Tryd.func57 (by kernel_rfl) (by kernel_rfl) (by kernel_rfl) (e := add64Entry) (by kernel_rfl), run_add64 x y c (by omega) (by omega) (by omega) (by omega)]
  simp only [Result.andThen]
  congr 5 <;> omega
theorem run_Sub64 (x y b : Nat) (hb : b ≤ 1) : ExternTo Tryd.prog 79 [u64 x, u64 y, u64 b]
    (.tuple #[u64 ((x + 18446744073709551616 - y - b) % 18446744073709551616), u64 (if x < y + b then 1 else 0)]) := by
  refine ExternTo.of fun w => ?_
  unfold u64
  rw [run_callFunc_extern Tryd.func79 (by kernel_rfl) (by kernel_rfl) (by kernel_rfl) (e := sub64Entry) (by kernel_rfl), run_sub64 x y b hb]
  rfl

set_option maxHeartbeats 1000000 in
theorem mul64_ok (x y : Nat) (hx : x < 18446744073709551616) (hy : y < 18446744073709551616) (w : World) :
    Calls Tryd.prog 56 #[.int .u64 x, .int .u64 y] w fun e w' => e = .returned (.tuple #[.int .u64 ((x * y / 18446744073709551616 : Nat) : Int), .int .u64 ((x * y % 18446744073709551616 : Nat) : Int)]) ∧ w' = w := by
  obtain ⟨bd, bt, bw, hhi⟩ := Lib.mul64_hi x y hx hy
  have ba := Lib.half_mul_le (a := x / 4294967296) (b := y / 4294967296) (by omega) (by omega)
  have bb := Lib.half_mul_le (a := x / 4294967296) (b := y % 4294967296) (by omega) (by omega)
  have bc := Lib.half_mul_le (a := x % 4294967296) (b := y / 4294967296) (by omega) (by omega)
  have ba' : x / 4294967296 * (y / 4294967296) < 18446744073709551616 := by omega
  have bb' : x / 4294967296 * (y % 4294967296) < 18446744073709551616 := by omega
  have bc' : x % 4294967296 * (y / 4294967296) < 18446744073709551616 := by omega
  have bh1 : x / 4294967296 * (y / 4294967296) + (x / 4294967296 * (y % 4294967296) + x % 4294967296 * (y % 4294967296) / 4294967296) / 4294967296 < 18446744073709551616 := by omega
  have bh : x / 4294967296 * (y / 4294967296) + (x / 4294967296 * (y % 4294967296) + x % 4294967296 * (y % 4294967296) / 4294967296) / 4294967296 + ((x / 4294967296 * (y % 4294967296) + x % 4294967296 * (y % 4294967296) / 4294967296) % 4294967296 + x % 4294967296 * (y / 4294967296)) / 4294967296 < 18446744073709551616 := by omega
  go_enter Tryd.func56, Tryd.ntmps56
  go_wp2
  simp only [Mul64.maskN x hx, Mul64.maskN y hy, Mul64.divN, Mul64.mulN, Mul64.addN, Mul64.wrapN _ bd, Mul64.wrapN _ bb', Mul64.wrapN _ bt, Mul64.maskN _ bt, Mul64.wrapN _ bc', Mul64.wrapN _ bw, Mul64.wrapN _ ba', Mul64.wrapN _ bh1, Mul64.wrapN _ bh, Mul64.wrapM (x * y)]
  rw [hhi]
  go_ret2
  exact ⟨rfl, rfl⟩
theorem enMul64 : Vm.Enters Tryd.prog 56 := Vm.Enters.of fun _ _ => by kernel_rfl
theorem Mul64_ok {x y : Nat} {w : World} (hx : x < 18446744073709551616) (hy : y < 18446744073709551616) :
    Pure Tryd.prog 56 #[u64 x, u64 y] w (.tuple #[u64 (x * y / 18446744073709551616), u64 (x * y % 18446744073709551616)]) :=
  Pure.of ((mul64_ok x y hx hy w).mono fun _ _ ⟨h1, h2⟩ => ⟨h1, by subst h2; exact Below.refl _ _⟩)

section
variable {n : Nat} {K : List Nat} {G : Hp} {w0 : World} {ops : Array Oper} {rest : List Oper} {R : Fr → Hp → Prop} {F : Fr} {H : Hp} {d : Nat} {x y z : Operand} {ats : Array TypeId} {ty : TypeId} {pos : String} {after : Array Edge}

/-- s + 2^64 c = a + b + e. -/
theorem OpsW.add64 {a b e : Nat} (hx : ev F x = some (u64 a)) (hy : ev F y = some (u64 b)) (hz : ev F z = some (u64 e)) (ha : a < 18446744073709551616) (hb : b < 18446744073709551616) (he : e ≤ 1) (hd : Nat.blt d n = true)
    (h : ∀ s c, s + 18446744073709551616 * c = a + b + e → s < 18446744073709551616 → c ≤ 1 → OpsW Tryd.prog n K G w0 ops rest R ((d, .tuple #[u64 s, u64 c]) :: F) H) :
    OpsW Tryd.prog n K G w0 ops (⟨some d, .call { callee := .value (.func 57), args := #[x, y, z], argTypes := ats }, ty, pos, after, none⟩ :: rest) R F H := by
  have h1 : evs F [x, y, z] = some [u64 a, u64 b, u64 e] := by simp only [evs, hx, hy, hz]
  have h2 := h ((a + b + e) % 18446744073709551616) ((a + b + e) / 18446744073709551616) (by omega) (by omega) (by omega)
  have h4 := run_Add64 a b e he
  generalize (Value.tuple #[u64 ((a + b + e) % 18446744073709551616), u64 ((a + b + e) / 18446744073709551616)]) = v at h2 h4
  exact OpsW.det (det_extern (xs := [x, y, z]) h1 h4) hd h2
/-- s + b + e = a + 2^64 c. -/
theorem OpsW.sub64 {a b e : Nat} (hx : ev F x = some (u64 a)) (hy : ev F y = some (u64 b)) (hz : ev F z = some (u64 e)) (ha : a < 18446744073709551616) (hb : b < 18446744073709551616) (he : e ≤ 1) (hd : Nat.blt d n = true)
    (h : ∀ s c, s + b + e = a + 18446744073709551616 * c → s < 18446744073709551616 → c ≤ 1 → OpsW Tryd.prog n K G w0 ops rest R ((d, .tuple #[u64 s, u64 c]) :: F) H) :
    OpsW Tryd.prog n K G w0 ops (⟨some d, .call { callee := .value (.func 79), args := #[x, y, z], argTypes := ats }, ty, pos, after, none⟩ :: rest) R F H := by
  have h1 : evs F [x, y, z] = some [u64 a, u64 b, u64 e] := by simp only [evs, hx, hy, hz]
  have h2 := h ((a + 18446744073709551616 - b - e) % 18446744073709551616) (if a < b + e then 1 else 0) (by split <;> omega) (by omega) (by split <;> omega)
  have h4 := run_Sub64 a b e he
  generalize (Value.tuple #[u64 ((a + 18446744073709551616 - b - e) % 18446744073709551616), u64 (if a < b + e then 1 else 0)]) = v at h2 h4
  exact OpsW.det (det_extern (xs := [x, y, z]) h1 h4) hd h2
theorem mul_top {a b : Nat} (ha : a < 18446744073709551616) (hb : b < 18446744073709551616) : a * b ≤ 340282366920938463426481119284349108225 := by
  have := Nat.mul_le_mul (Nat.le_sub_one_of_lt ha) (Nat.le_sub_one_of_lt hb)
  simpa using this
/-- lo + 2^64 hi = a b. -/
theorem OpsW.mul64 {a b : Nat} (hx : ev F x = some (u64 a)) (hy : ev F y = some (u64 b)) (ha : a < 18446744073709551616) (hb : b < 18446744073709551616) (hd : Nat.blt d n = true)
    (h : ∀ hi lo, lo + 18446744073709551616 * hi = a * b → lo < 18446744073709551616 → hi ≤ 18446744073709551614 → OpsW Tryd.prog n K G w0 ops rest R ((d, .tuple #[u64 hi, u64 lo]) :: F) H) :
    OpsW Tryd.prog n K G w0 ops (⟨some d, .call { callee := .value (.func 56), args := #[x, y], argTypes := ats }, ty, pos, after, none⟩ :: rest) R F H := by
  have h1 : evs F [x, y] = some [u64 a, u64 b] := by simp only [evs, hx, hy]
  have h2 := h (a * b / 18446744073709551616) (a * b % 18446744073709551616) (by omega) (by omega) (by have := mul_top ha hb; omega)
  have h4 : ∀ w, Pure _ _ _ w _ := fun w => Mul64_ok (w := w) ha hb
  generalize (Value.tuple #[u64 (a * b / 18446744073709551616), u64 (a * b % 18446744073709551616)]) = v at h2 h4
  exact OpsW.det (det_call (xs := [x, y]) enMul64 h1 fun w _ _ => h4 w) hd h2
variable {xt yt : TypeId}
/-- A sum that does not wrap. -/
theorem OpsW.addw {a b : Nat} (hx : ev F x = some (u64 a)) (hy : ev F y = some (u64 b)) (hlt : a + b < 18446744073709551616) (hd : Nat.blt d n = true)
    (h : ∀ s, s = a + b → OpsW Tryd.prog n K G w0 ops rest R ((d, u64 s) :: F) H) :
    OpsW Tryd.prog n K G w0 ops (⟨some d, .binOp .add xt x y yt, ty, pos, after, none⟩ :: rest) R F H := by
  refine OpsW.det (v := u64 (a + b)) ?_ hd (h _ rfl)
  have := det_add (P := Tryd.prog) (K := K) (G := G) (w0 := w0) (d := some d) (ty := ty) (pos := pos) (after := after) (g := none) (F := F) (H := H) (xt := xt) (yt := yt) hx hy
  rwa [show IntKind.u64.wrap ((a : Int) + (b : Int)) = ((a + b : Nat) : Int) from by rw [Mul64.addN, Mul64.wrapN _ hlt]] at this
/-- A product of words, wrapped. -/
theorem OpsW.mulw {a b : Nat} (hx : ev F x = some (u64 a)) (hy : ev F y = some (u64 b)) (hd : Nat.blt d n = true)
    (h : ∀ s, s = a * b % 18446744073709551616 → s < 18446744073709551616 → OpsW Tryd.prog n K G w0 ops rest R ((d, u64 s) :: F) H) :
    OpsW Tryd.prog n K G w0 ops (⟨some d, .binOp .mul xt x y yt, ty, pos, after, none⟩ :: rest) R F H := by
  refine OpsW.det (v := u64 (a * b % 18446744073709551616)) ?_ hd (h _ rfl (by omega))
  have := det_mul (P := Tryd.prog) (K := K) (G := G) (w0 := w0) (d := some d) (ty := ty) (pos := pos) (after := after) (g := none) (F := F) (H := H) (xt := xt) (yt := yt) hx hy
  rwa [show IntKind.u64.wrap ((a : Int) * (b : Int)) = ((a * b % 18446744073709551616 : Nat) : Int) from by rw [Mul64.mulN, Mul64.wrapM]] at this
/-- A test of a word against a number. -/
theorem det_eqw {a b : Nat} (hx : ev F x = some (u64 a)) (hy : ev F y = some (u64 b)) {dd : Option Tmp} {g : Option (Nat × Bool)} : Det Tryd.prog K G w0 ⟨dd, .binOp .eql xt x y yt, ty, pos, after, g⟩ F H (.bool (a == b)) := by
  have := det_eql (P := Tryd.prog) (K := K) (G := G) (w0 := w0) (d := dd) (ty := ty) (pos := pos) (after := after) (g := g) (F := F) (H := H) (xt := xt) (yt := yt) hx hy
  rwa [show (((a : Int) == (b : Int)) : Bool) = (a == b) from by rw [Bool.eq_iff_iff]; simp; omega] at this
end
end Go.Cu
