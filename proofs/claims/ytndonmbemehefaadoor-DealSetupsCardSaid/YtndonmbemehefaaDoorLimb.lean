/-
  Words' carries and borrows, in closed form. Conditions: none; plain arithmetic.
-/
import Derived.Test.YtndonmbemehefaaDoorMont
namespace Go.Cu
open Go Go.Vm
def car (i m k : Nat) : Nat := (m % 18446744073709551616 ^ i + k % 18446744073709551616 ^ i) / 18446744073709551616 ^ i
def bor (i m k : Nat) : Nat := if m % 18446744073709551616 ^ i < k % 18446744073709551616 ^ i then 1 else 0
theorem car_0 (m k : Nat) : car 0 m k = 0 := by simp [car, Nat.mod_one]
theorem bor_0 (m k : Nat) : bor 0 m k = 0 := by simp [bor, Nat.mod_one]
theorem bor_le (i m k : Nat) : bor i m k ≤ 1 := by unfold bor; split <;> omega
theorem car_le (i m k : Nat) : car i m k ≤ 1 := by
  unfold car
  have h0 : 0 < 18446744073709551616 ^ i := Nat.pow_pos (by decide)
  have h1 := Nat.mod_lt m h0
  have h2 := Nat.mod_lt k h0
  have := Nat.div_lt_of_lt_mul (show m % 18446744073709551616 ^ i + k % 18446744073709551616 ^ i < 18446744073709551616 ^ i * 2 by omega)
  omega
theorem mod_succ (m i : Nat) : m % 18446744073709551616 ^ (i + 1) = m % 18446744073709551616 ^ i + 18446744073709551616 ^ i * lim m i := by
  rw [Nat.pow_succ, Nat.mod_mul]; rfl
theorem add_step (i m k : Nat) : lim m i + lim k i + car i m k = lim (m + k) i + 18446744073709551616 * car (i + 1) m k := by
  have h0 : 0 < 18446744073709551616 ^ i := Nat.pow_pos (by decide)
  have h1 : (m + k) / 18446744073709551616 ^ i = m / 18446744073709551616 ^ i + k / 18446744073709551616 ^ i + car i m k := by
    unfold car
    have e1 := Nat.div_add_mod m (18446744073709551616 ^ i)
    have e2 := Nat.div_add_mod k (18446744073709551616 ^ i)
    have : m + k = (m % 18446744073709551616 ^ i + k % 18446744073709551616 ^ i) + 18446744073709551616 ^ i * (m / 18446744073709551616 ^ i + k / 18446744073709551616 ^ i) := by rw [Nat.mul_add]; omega
    rw [this, Nat.add_mul_div_left _ _ h0]; omega
  have h2 : car (i + 1) m k = (lim m i + lim k i + car i m k) / 18446744073709551616 := by
    conv => lhs; unfold car
    rw [mod_succ, mod_succ, Nat.pow_succ, ← Nat.div_div_eq_div_mul,
      show m % 18446744073709551616 ^ i + 18446744073709551616 ^ i * lim m i + (k % 18446744073709551616 ^ i + 18446744073709551616 ^ i * lim k i) = (m % 18446744073709551616 ^ i + k % 18446744073709551616 ^ i) + 18446744073709551616 ^ i * (lim m i + lim k i) by rw [Nat.mul_add]; omega,
      Nat.add_mul_div_left _ _ h0]
    unfold car
    rw [Nat.add_comm]
  have h3 : lim (m + k) i = (lim m i + lim k i + car i m k) % 18446744073709551616 := by
    unfold lim
    rw [h1]; omega
  rw [h2, h3]; omega
theorem lim_big {m i n : Nat} (h : i < n) : lim (m + 18446744073709551616 ^ n) i = lim m i := by
  unfold lim
  obtain ⟨k, rfl⟩ : ∃ k, n = i + 1 + k := ⟨n - i - 1, by omega⟩
  have h0 : 0 < 18446744073709551616 ^ i := Nat.pow_pos (by decide)
  rw [Nat.pow_add, Nat.pow_succ, Nat.mul_assoc, Nat.add_mul_div_left _ _ h0, Nat.add_mul_mod_self_left]
theorem sub_step {i n m k : Nat} (h : i < n) (hk : k ≤ m + 18446744073709551616 ^ n) (hm : m < 18446744073709551616 ^ n) :
    lim (m + 18446744073709551616 ^ n - k) i + lim k i + bor i m k = lim m i + 18446744073709551616 * bor (i + 1) m k := by
  have key : ∀ j, j ≤ n → bor j m k = car j (m + 18446744073709551616 ^ n - k) k := fun j hj => by
    have h0 : 0 < 18446744073709551616 ^ j := Nat.pow_pos (by decide)
    generalize hD : m + 18446744073709551616 ^ n - k = D
    have e : D + k = m + 18446744073709551616 ^ n := by omega
    have e2 : (D % 18446744073709551616 ^ j + k % 18446744073709551616 ^ j) % 18446744073709551616 ^ j = m % 18446744073709551616 ^ j := by
      rw [← Nat.add_mod, e]
      obtain ⟨c, rfl⟩ : ∃ c, n = j + c := ⟨n - j, by omega⟩
      rw [Nat.pow_add, Nat.add_mul_mod_self_left]
    have e3 := Nat.div_add_mod (D % 18446744073709551616 ^ j + k % 18446744073709551616 ^ j) (18446744073709551616 ^ j)
    rw [e2] at e3
    have hc := car_le j D k
    have hd := Nat.mod_lt D h0
    unfold bor
    unfold car at hc ⊢
    generalize (D % 18446744073709551616 ^ j + k % 18446744073709551616 ^ j) / 18446744073709551616 ^ j = c at *
    have : c = 0 ∨ c = 1 := by omega
    rcases this with rfl | rfl
    · rw [if_neg (by omega)]
    · rw [if_pos (by omega)]
  rw [key i (by omega), key (i + 1) (by omega), add_step, Nat.sub_add_cancel hk, lim_big h]
def sel (i s m j : Nat) : Nat := if j < i then lim s j else lim m j
theorem sel_0 {s m j : Nat} : sel 0 s m j = lim m j := if_neg (by omega)
theorem sel_at {i s m : Nat} : sel i s m i = lim m i := if_neg (by omega)
theorem sel_new {i s m : Nat} : sel (i + 1) s m i = lim s i := if_pos (by omega)
theorem sel_old {i s m j : Nat} (h : j ≠ i) : sel (i + 1) s m j = sel i s m j := by
  unfold sel
  by_cases hj : j < i
  · rw [if_pos hj, if_pos (by omega)]
  · rw [if_neg hj, if_neg (by omega)]
abbrev w4 (f : Nat → Nat) : List Value := [u64 (f 0), u64 (f 1), u64 (f 2), u64 (f 3)]
theorem at4 {f : Nat → Nat} {i k : Nat} (h : i < 4) (hk : k = i) : (w4 f)[k]? = some (u64 (f i)) := by
  subst hk
  have : k = 0 ∨ k = 1 ∨ k = 2 ∨ k = 3 := by omega
  rcases this with rfl | rfl | rfl | rfl <;> rfl
theorem put4 {f f' : Nat → Nat} {v i k : Nat} (h : i < 4) (hk : k = i) (hv : f' i = v) (hf : ∀ j, j ≠ i → f' j = f j) : splice k [u64 v] (w4 f) = some (w4 f') := by
  subst hk
  have : k = 0 ∨ k = 1 ∨ k = 2 ∨ k = 3 := by omega
  rcases this with rfl | rfl | rfl | rfl
  · show some [u64 v, u64 (f 1), u64 (f 2), u64 (f 3)] = some [u64 (f' 0), u64 (f' 1), u64 (f' 2), u64 (f' 3)]; rw [hv, hf 1 (by decide), hf 2 (by decide), hf 3 (by decide)]
  · show some [u64 (f 0), u64 v, u64 (f 2), u64 (f 3)] = some [u64 (f' 0), u64 (f' 1), u64 (f' 2), u64 (f' 3)]; rw [hv, hf 0 (by decide), hf 2 (by decide), hf 3 (by decide)]
  · show some [u64 (f 0), u64 (f 1), u64 v, u64 (f 3)] = some [u64 (f' 0), u64 (f' 1), u64 (f' 2), u64 (f' 3)]; rw [hv, hf 0 (by decide), hf 1 (by decide), hf 3 (by decide)]
  · show some [u64 (f 0), u64 (f 1), u64 (f 2), u64 v] = some [u64 (f' 0), u64 (f' 1), u64 (f' 2), u64 (f' 3)]; rw [hv, hf 0 (by decide), hf 1 (by decide), hf 2 (by decide)]
theorem w4_congr {f g : Nat → Nat} (h : ∀ j, j < 4 → f j = g j) : w4 f = w4 g := by
  unfold w4; rw [h 0 (by decide), h 1 (by decide), h 2 (by decide), h 3 (by decide)]
theorem add_pair (i m k : Nat) : Value.tuple #[u64 ((lim m i + lim k i + car i m k) % 18446744073709551616), u64 ((lim m i + lim k i + car i m k) / 18446744073709551616)] = .tuple #[u64 (lim (m + k) i), u64 (car (i + 1) m k)] := by
  have h := add_step i m k
  have h1 := lim_lt (m + k) i
  rw [show (lim m i + lim k i + car i m k) % 18446744073709551616 = lim (m + k) i by omega, show (lim m i + lim k i + car i m k) / 18446744073709551616 = car (i + 1) m k by omega]
theorem sub_pair {i n m k : Nat} (h : i < n) (hk : k ≤ m + 18446744073709551616 ^ n) (hm : m < 18446744073709551616 ^ n) :
    Value.tuple #[u64 ((lim m i + 18446744073709551616 - lim k i - bor i m k) % 18446744073709551616), u64 (if lim m i < lim k i + bor i m k then 1 else 0)] = .tuple #[u64 (lim (m + 18446744073709551616 ^ n - k) i), u64 (bor (i + 1) m k)] := by
  have h := sub_step h hk hm
  have h1 := lim_lt (m + 18446744073709551616 ^ n - k) i
  have h2 := bor_le (i + 1) m k
  have h3 := bor_le i m k
  have h4 := lim_lt k i
  have h5 := lim_lt m i
  generalize lim (m + 18446744073709551616 ^ n - k) i = d at *
  generalize bor (i + 1) m k = b' at *
  rw [show (lim m i + 18446744073709551616 - lim k i - bor i m k) % 18446744073709551616 = d by omega, show (if lim m i < lim k i + bor i m k then 1 else 0) = b' by split <;> omega]
theorem R4_pow : 18446744073709551616 ^ 4 = R4 := by decide
end Go.Cu
