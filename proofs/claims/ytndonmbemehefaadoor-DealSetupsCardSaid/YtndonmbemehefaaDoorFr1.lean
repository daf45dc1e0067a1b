/-
  The scalars: sums and differences: the walks. Conditions: numbers below the order.
-/
import Derived.Test.YtndonmbemehefaaDoorFp4
import Derived.Test.YtndonmbemehefaaDoorLimb
namespace Go.Cu
open Go Go.Vm Go.RowKit Go.Proofs 
attribute [local irreducible] W OpsW Det Fresh New Writes Vm.Pure Makes Changes ExternTo BuildTo ZeroTo FieldTo IndexTo BinTo SliceTo Vm.Enters
set_option linter.unusedVariables false
set_option linter.unusedSimpArgs false
variable {T : Nat → TypeId × Nat × Nat}

theorem rlo_mod {v : Nat} (h : v < rr) : v % rr = v := Nat.mod_eq_of_lt h
theorem rhi_mod {v : Nat} (h : rr ≤ v) (h2 : v < 2 * rr) : v % rr = v - rr := by rw [Nat.mod_eq_sub_mod h, Nat.mod_eq_of_lt (by omega)]
theorem enc4_congr {m k : Nat} (h : ∀ j, j < 4 → lim m j = lim k j) : enc4 m = enc4 k := by
  unfold enc4; rw [h 0 (by decide), h 1 (by decide), h 2 (by decide), h 3 (by decide)]
theorem sub_w4 {f g : Nat → Nat} {n t : Nat} {r : Hp} (h : ∀ j, j < 4 → f j = g j) : List.Sublist ((n, blk (w4 f) t) :: r) ((n, blk (w4 g) t) :: r) := by rw [w4_congr h]; exact List.Sublist.refl _
theorem bor_4 {m k : Nat} (hm : m < R4) (hk : k < R4) : bor 4 m k = if m < k then 1 else 0 := by
  unfold bor; rw [R4_pow, Nat.mod_eq_of_lt hm, Nat.mod_eq_of_lt hk]
theorem car_4 {m k : Nat} (hm : m < rr) (hk : k < rr) : car 4 m k = 0 := by
  have h1 : m < R4 := Nat.lt_trans hm (by decide)
  have h2 : k < R4 := Nat.lt_trans hk (by decide)
  unfold car; rw [R4_pow, Nat.mod_eq_of_lt h1, Nat.mod_eq_of_lt h2]
  exact Nat.div_eq_of_lt (by unfold rr at hm hk; unfold R4; omega)
theorem z4_w4 : ([.int .u64 0, .int .u64 0, .int .u64 0, .int .u64 0] : List Value) = w4 (sel 0 0 0) := by kernel_rfl
theorem big4 {m j : Nat} (h : j < 4) : lim (m + R4) j = lim m j := by rw [← R4_pow]; exact lim_big h
theorem red_lo {V : Nat} (h : bor 4 V rr = 1) (hV : V < 2 * rr) : V % rr = V := by
  rw [bor_4 (Nat.lt_trans hV (by decide)) (by decide)] at h
  refine rlo_mod ?_
  by_cases hh : V < rr
  · exact hh
  · rw [if_neg hh] at h; cases h
theorem red_hi {V D : Nat} (hD : D + rr = V + R4) (h : bor 4 V rr ≠ 1) (hV : V < 2 * rr) : enc4 D = enc4 (V % rr) := by
  rw [bor_4 (Nat.lt_trans hV (by decide)) (by decide)] at h
  have hh : rr ≤ V := by
    rcases Nat.lt_or_ge V rr with hl | hl
    · rw [if_pos hl] at h; exact absurd rfl h
    · exact hl
  rw [rhi_mod hh hV, show D = (V - rr) + R4 by omega]
  exact enc4_congr fun j hj => big4 hj
theorem sub_pair4 {i m k D : Nat} (h : i < 4) (hD : D + k = m + R4) (hm : m < R4) :
    Value.tuple #[u64 ((lim m i + 18446744073709551616 - lim k i - bor i m k) % 18446744073709551616), u64 (if lim m i < lim k i + bor i m k then 1 else 0)] = .tuple #[u64 (lim D i), u64 (bor (i + 1) m k)] := by
  have h1 := sub_pair (i := i) (n := 4) (m := m) (k := k) h (by rw [R4_pow]; omega) (by rw [R4_pow]; exact hm)
  rwa [R4_pow, show m + R4 - k = D by omega] at h1
theorem add_pairE {m k S : Nat} (hS : S = m + k) (i : Nat) : Value.tuple #[u64 ((lim m i + lim k i + car i m k) % 18446744073709551616), u64 ((lim m i + lim k i + car i m k) / 18446744073709551616)] = .tuple #[u64 (lim S i), u64 (car (i + 1) m k)] := by
  rw [hS]; exact add_pair i m k
theorem sel_full {s m : Nat} : ∀ j, j < 4 → sel 4 s m j = lim s j := fun j hj => if_pos hj

theorem rsub_hi {m k D : Nat} (hD : D + k = m + R4) (h : bor 4 m k ≠ 1) (hm : m < rr) (hk : k < rr) : enc4 D = enc4 ((m + (rr - k)) % rr) := by
  rw [bor_4 (Nat.lt_trans hm (by decide)) (Nat.lt_trans hk (by decide))] at h
  have hh : k ≤ m := by
    rcases Nat.lt_or_ge m k with hl | hl
    · rw [if_pos hl] at h; exact absurd rfl h
    · exact hl
  rw [rhi_mod (by omega) (by omega), show D = (m + (rr - k) - rr) + R4 by omega]
  exact enc4_congr fun j hj => big4 hj
theorem rsub_lo {m k D E : Nat} (hD : D + k = m + R4) (hE : E = D + rr) (h : bor 4 m k = 1) (hm : m < rr) (hk : k < rr) : enc4 E = enc4 ((m + (rr - k)) % rr) := by
  rw [bor_4 (Nat.lt_trans hm (by decide)) (Nat.lt_trans hk (by decide))] at h
  have hh : m < k := by
    rcases Nat.lt_or_ge m k with hl | hl
    · exact hl
    · rw [if_neg (by omega)] at h; cases h
  have h4 : rr < R4 := by decide
  rw [rlo_mod (by omega), show E = (m + (rr - k)) + R4 by omega]
  exact enc4_congr fun j hj => big4 hj




end Go.Cu
