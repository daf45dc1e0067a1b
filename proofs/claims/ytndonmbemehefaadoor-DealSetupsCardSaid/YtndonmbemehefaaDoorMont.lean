/-
  Montgomery's product: what the columns add up to. Conditions: none; plain arithmetic.
-/
import Derived.Test.YtndonmbemehefaaDoorZp
namespace Go.Cu
open Go Go.Vm
theorem prod_top {a b : Nat} (ha : a < 18446744073709551616) (hb : b < 18446744073709551616) : a * b ≤ 340282366920938463426481119284349108225 := by
  have := Nat.mul_le_mul (Nat.le_sub_one_of_lt ha) (Nat.le_sub_one_of_lt hb)
  simpa using this
theorem col0 {p lo hi s c w t : Nat} (e1 : lo + 18446744073709551616 * hi = p) (e2 : s + 18446744073709551616 * c = lo + t + 0) (e3 : w = hi + c) : s + 18446744073709551616 * w = p + t := by omega
theorem colz {p lo hi s c w t : Nat} (e1 : lo + 18446744073709551616 * hi = p) (e2 : s + 18446744073709551616 * c = lo + t + 0) (e3 : w = hi + c) (hz : s = 0) : 18446744073709551616 * w = p + t := by omega
theorem col {p lo hi ca s1 c1 w1 t s2 c2 w2 : Nat} (e1 : lo + 18446744073709551616 * hi = p) (e2 : s1 + 18446744073709551616 * c1 = lo + ca + 0) (e3 : w1 = hi + c1) (e4 : s2 + 18446744073709551616 * c2 = s1 + t + 0) (e5 : w2 = w1 + c2) :
    s2 + 18446744073709551616 * w2 = p + ca + t := by omega
theorem hi_lt {hi c : Nat} (h1 : hi ≤ 18446744073709551614) (h2 : c ≤ 1) : hi + c < 18446744073709551616 := by omega
theorem w_lt {hi c w : Nat} (h1 : hi ≤ 18446744073709551614) (h2 : c ≤ 1) (h3 : w = hi + c) : w < 18446744073709551616 := by omega
theorem col_lt {x y lo hi ca s1 c1 w1 t s2 c2 : Nat} (hx : x < 18446744073709551616) (hy : y < 18446744073709551616) (hca : ca < 18446744073709551616) (ht : t < 18446744073709551616) (e1 : lo + 18446744073709551616 * hi = x * y)
    (e2 : s1 + 18446744073709551616 * c1 = lo + ca + 0) (e3 : w1 = hi + c1) (e4 : s2 + 18446744073709551616 * c2 = s1 + t + 0) : w1 + c2 < 18446744073709551616 := by
  have := prod_top hx hy
  omega
theorem inv_step {p X Y M T T' i m : Nat} (hI : T * 18446744073709551616 ^ i = X * (Y % 18446744073709551616 ^ i) + M * p) (hs : 18446744073709551616 * T' = T + X * lim Y i + m * p) :
    T' * 18446744073709551616 ^ (i + 1) = X * (Y % 18446744073709551616 ^ (i + 1)) + (M + m * 18446744073709551616 ^ i) * p := by
  have h1 : Y % 18446744073709551616 ^ (i + 1) = Y % 18446744073709551616 ^ i + 18446744073709551616 ^ i * lim Y i := by
    rw [Nat.pow_succ, Nat.mod_mul]; rfl
  have h2 : T' * 18446744073709551616 ^ (i + 1) = (18446744073709551616 * T') * 18446744073709551616 ^ i := by
    rw [Nat.pow_succ]; ac_rfl
  rw [h2, hs, h1, Nat.add_mul, Nat.add_mul, hI, Nat.mul_add, Nat.add_mul, Nat.mul_assoc X, Nat.mul_comm (lim Y i), Nat.mul_assoc m, Nat.mul_comm p, ← Nat.mul_assoc m]
  omega
theorem inv_lt {M m i : Nat} (h1 : M < 18446744073709551616 ^ i) (h2 : m < 18446744073709551616) : M + m * 18446744073709551616 ^ i < 18446744073709551616 ^ (i + 1) := by
  have : (m + 1) * 18446744073709551616 ^ i ≤ 18446744073709551616 * 18446744073709551616 ^ i := Nat.mul_le_mul_right _ h2
  rw [Nat.pow_succ, Nat.mul_comm _ 18446744073709551616]
  rw [Nat.add_mul] at this
  omega
theorem inv_top {p X Y M T i : Nat} (hI : T * 18446744073709551616 ^ i = X * (Y % 18446744073709551616 ^ i) + M * p) (hM : M < 18446744073709551616 ^ i) (hX : X < p) : T < 2 * p := by
  have h0 : 0 < 18446744073709551616 ^ i := Nat.pow_pos (by decide)
  have h1 : X * (Y % 18446744073709551616 ^ i) ≤ p * 18446744073709551616 ^ i := Nat.mul_le_mul (Nat.le_of_lt hX) (Nat.le_of_lt (Nat.mod_lt _ h0))
  have h2 : M * p < p * 18446744073709551616 ^ i := by rw [Nat.mul_comm p]; exact Nat.mul_lt_mul_of_pos_right hM (by omega)
  have h3 : T * 18446744073709551616 ^ i < (2 * p) * 18446744073709551616 ^ i := by rw [Nat.mul_assoc]; omega
  exact Nat.lt_of_mul_lt_mul_right h3
/-- pp: n0. -/
theorem zero_pp {m s lo hi s' c : Nat} (hm : m = s * 9940570264628428797 % 18446744073709551616) (e1 : lo + 18446744073709551616 * hi = m * 13402431016077863595) (e2 : s' + 18446744073709551616 * c = lo + s + 0) (hs : s' < 18446744073709551616) : s' = 0 := by
  have := Nat.div_add_mod (s * 9940570264628428797) 18446744073709551616
  omega
theorem sum_pp {x0 x1 x2 x3 x4 x5 y m t0 t1 t2 t3 t4 t5 a0 a1 a2 a3 a4 a5 g0 g1 g2 g3 g4 g5 f0 f1 f2 f3 f4 f5 w0 w1 w2 w3 w4 u : Nat} (E0 : a0 + 18446744073709551616 * g0 = x0 * y + t0) (E1 : a1 + 18446744073709551616 * g1 = x1 * y + g0 + t1) (E2 : a2 + 18446744073709551616 * g2 = x2 * y + g1 + t2) (E3 : a3 + 18446744073709551616 * g3 = x3 * y + g2 + t3) (E4 : a4 + 18446744073709551616 * g4 = x4 * y + g3 + t4) (E5 : a5 + 18446744073709551616 * g5 = x5 * y + g4 + t5) (F0 : 18446744073709551616 * f0 = m * 13402431016077863595 + a0) (F1 : w0 + 18446744073709551616 * f1 = m * 2210141511517208575 + f0 + a1) (F2 : w1 + 18446744073709551616 * f2 = m * 7435674573564081700 + f1 + a2) (F3 : w2 + 18446744073709551616 * f3 = m * 7239337960414712511 + f2 + a3) (F4 : w3 + 18446744073709551616 * f4 = m * 5412103778470702295 + f3 + a4) (F5 : w4 + 18446744073709551616 * f5 = m * 1873798617647539866 + f4 + a5) (hu : u = g5 + f5) :
    18446744073709551616 * val6 w0 w1 w2 w3 w4 u = val6 t0 t1 t2 t3 t4 t5 + val6 x0 x1 x2 x3 x4 x5 * y + m * pp := by
  have hm : val6 x0 x1 x2 x3 x4 x5 * y = val6 (x0 * y) (x1 * y) (x2 * y) (x3 * y) (x4 * y) (x5 * y) := by unfold val6; simp only [Nat.add_mul, Nat.mul_assoc]
  rw [hm]
  unfold val6 pp
  omega
theorem top_pp {x0 x1 x2 x3 x4 x5 y m t0 t1 t2 t3 t4 t5 a0 a1 a2 a3 a4 a5 g0 g1 g2 g3 g4 g5 f0 f1 f2 f3 f4 f5 w0 w1 w2 w3 w4 : Nat} (E0 : a0 + 18446744073709551616 * g0 = x0 * y + t0) (E1 : a1 + 18446744073709551616 * g1 = x1 * y + g0 + t1) (E2 : a2 + 18446744073709551616 * g2 = x2 * y + g1 + t2) (E3 : a3 + 18446744073709551616 * g3 = x3 * y + g2 + t3) (E4 : a4 + 18446744073709551616 * g4 = x4 * y + g3 + t4) (E5 : a5 + 18446744073709551616 * g5 = x5 * y + g4 + t5) (F0 : 18446744073709551616 * f0 = m * 13402431016077863595 + a0) (F1 : w0 + 18446744073709551616 * f1 = m * 2210141511517208575 + f0 + a1) (F2 : w1 + 18446744073709551616 * f2 = m * 7435674573564081700 + f1 + a2) (F3 : w2 + 18446744073709551616 * f3 = m * 7239337960414712511 + f2 + a3) (F4 : w3 + 18446744073709551616 * f4 = m * 5412103778470702295 + f3 + a4) (F5 : w4 + 18446744073709551616 * f5 = m * 1873798617647539866 + f4 + a5) (hT : val6 t0 t1 t2 t3 t4 t5 < 2 * pp) (hX : val6 x0 x1 x2 x3 x4 x5 < pp) (hy : y < 18446744073709551616) (hm : m < 18446744073709551616) : g5 + f5 < 18446744073709551616 := by
  have h := sum_pp E0 E1 E2 E3 E4 E5 F0 F1 F2 F3 F4 F5 rfl
  have h1 : val6 x0 x1 x2 x3 x4 x5 * y ≤ pp * 18446744073709551615 := Nat.mul_le_mul (Nat.le_of_lt hX) (by omega)
  have h2 : val6 w0 w1 w2 w3 w4 (g5 + f5) < 2 * pp := by
    generalize val6 x0 x1 x2 x3 x4 x5 * y = z at h h1
    generalize val6 w0 w1 w2 w3 w4 (g5 + f5) = v at h ⊢
    generalize val6 t0 t1 t2 t3 t4 t5 = T at h hT
    unfold pp at *
    omega
  clear h h1 E0 F0 E1 F1 E2 F2 E3 F3 E4 F4 E5 F5
  unfold val6 pp at h2
  omega
def inv_pp : Nat := 3231460744492646417066832100176244795738767926513225105051837195607029917124509527734802654356338138714468589979680
theorem end_pp {X Y M T : Nat} (hI : T * 18446744073709551616 ^ 6 = X * (Y % 18446744073709551616 ^ 6) + M * pp) (hY : Y < pp) : T % pp = X * Y * inv_pp % pp := by
  rw [Nat.mod_eq_of_lt (show Y < 18446744073709551616 ^ 6 from Nat.lt_trans hY (by unfold pp; decide))] at hI
  have h1 : T * (18446744073709551616 ^ 6 * inv_pp) = X * Y * inv_pp + pp * (M * inv_pp) := by
    rw [← Nat.mul_assoc, hI, Nat.add_mul, Nat.mul_comm M, Nat.mul_assoc pp M]
  have h2 := congrArg (· % pp) h1
  simp only [Nat.add_mul_mod_self_left] at h2
  rw [← h2, Nat.mul_mod, show 18446744073709551616 ^ 6 * inv_pp % pp = 1 from by decide +kernel, Nat.mul_one, Nat.mod_mod]
/-- rr: n0. -/
theorem zero_rr {m s lo hi s' c : Nat} (hm : m = s * 18446744069414584319 % 18446744073709551616) (e1 : lo + 18446744073709551616 * hi = m * 18446744069414584321) (e2 : s' + 18446744073709551616 * c = lo + s + 0) (hs : s' < 18446744073709551616) : s' = 0 := by
  have := Nat.div_add_mod (s * 18446744069414584319) 18446744073709551616
  omega
theorem sum_rr {x0 x1 x2 x3 y m t0 t1 t2 t3 a0 a1 a2 a3 g0 g1 g2 g3 f0 f1 f2 f3 w0 w1 w2 u : Nat} (E0 : a0 + 18446744073709551616 * g0 = x0 * y + t0) (E1 : a1 + 18446744073709551616 * g1 = x1 * y + g0 + t1) (E2 : a2 + 18446744073709551616 * g2 = x2 * y + g1 + t2) (E3 : a3 + 18446744073709551616 * g3 = x3 * y + g2 + t3) (F0 : 18446744073709551616 * f0 = m * 18446744069414584321 + a0) (F1 : w0 + 18446744073709551616 * f1 = m * 6034159408538082302 + f0 + a1) (F2 : w1 + 18446744073709551616 * f2 = m * 3691218898639771653 + f1 + a2) (F3 : w2 + 18446744073709551616 * f3 = m * 8353516859464449352 + f2 + a3) (hu : u = g3 + f3) :
    18446744073709551616 * val4 w0 w1 w2 u = val4 t0 t1 t2 t3 + val4 x0 x1 x2 x3 * y + m * rr := by
  have hm : val4 x0 x1 x2 x3 * y = val4 (x0 * y) (x1 * y) (x2 * y) (x3 * y) := by unfold val4; simp only [Nat.add_mul, Nat.mul_assoc]
  rw [hm]
  unfold val4 rr
  omega
theorem top_rr {x0 x1 x2 x3 y m t0 t1 t2 t3 a0 a1 a2 a3 g0 g1 g2 g3 f0 f1 f2 f3 w0 w1 w2 : Nat} (E0 : a0 + 18446744073709551616 * g0 = x0 * y + t0) (E1 : a1 + 18446744073709551616 * g1 = x1 * y + g0 + t1) (E2 : a2 + 18446744073709551616 * g2 = x2 * y + g1 + t2) (E3 : a3 + 18446744073709551616 * g3 = x3 * y + g2 + t3) (F0 : 18446744073709551616 * f0 = m * 18446744069414584321 + a0) (F1 : w0 + 18446744073709551616 * f1 = m * 6034159408538082302 + f0 + a1) (F2 : w1 + 18446744073709551616 * f2 = m * 3691218898639771653 + f1 + a2) (F3 : w2 + 18446744073709551616 * f3 = m * 8353516859464449352 + f2 + a3) (hT : val4 t0 t1 t2 t3 < 2 * rr) (hX : val4 x0 x1 x2 x3 < rr) (hy : y < 18446744073709551616) (hm : m < 18446744073709551616) : g3 + f3 < 18446744073709551616 := by
  have h := sum_rr E0 E1 E2 E3 F0 F1 F2 F3 rfl
  have h1 : val4 x0 x1 x2 x3 * y ≤ rr * 18446744073709551615 := Nat.mul_le_mul (Nat.le_of_lt hX) (by omega)
  have h2 : val4 w0 w1 w2 (g3 + f3) < 2 * rr := by
    generalize val4 x0 x1 x2 x3 * y = z at h h1
    generalize val4 w0 w1 w2 (g3 + f3) = v at h ⊢
    generalize val4 t0 t1 t2 t3 = T at h hT
    unfold rr at *
    omega
  clear h h1 E0 F0 E1 F1 E2 F2 E3 F3
  unfold val4 rr at h2
  omega
def inv_rr : Nat := 12549076656233958353659347336803947287922716146853412054870763148006372261952
theorem end_rr {X Y M T : Nat} (hI : T * 18446744073709551616 ^ 4 = X * (Y % 18446744073709551616 ^ 4) + M * rr) (hY : Y < rr) : T % rr = X * Y * inv_rr % rr := by
  rw [Nat.mod_eq_of_lt (show Y < 18446744073709551616 ^ 4 from Nat.lt_trans hY (by unfold rr; decide))] at hI
  have h1 : T * (18446744073709551616 ^ 4 * inv_rr) = X * Y * inv_rr + rr * (M * inv_rr) := by
    rw [← Nat.mul_assoc, hI, Nat.add_mul, Nat.mul_comm M, Nat.mul_assoc rr M]
  have h2 := congrArg (· % rr) h1
  simp only [Nat.add_mul_mod_self_left] at h2
  rw [← h2, Nat.mul_mod, show 18446744073709551616 ^ 4 * inv_rr % rr = 1 from by decide +kernel, Nat.mul_one, Nat.mod_mod]
theorem mont_mul (x y : Fq) : mont x * mont y * inv_pp % pp = mont (x * y) := by
  unfold mont
  rw [Zp.mul_val, Nat.mul_mod, ← Nat.mul_mod (x.val * R6), ← Nat.mul_mod, Nat.mod_mul_mod,
    show x.val * R6 * (y.val * R6) * inv_pp = x.val * y.val * R6 * (R6 * inv_pp) from by ac_rfl, Nat.mul_mod, show R6 * inv_pp % pp = 1 from by decide +kernel, Nat.mul_one, Nat.mod_mod]
theorem mont_add (x y : Fq) : (mont x + mont y) % pp = mont (x + y) := by
  unfold mont
  rw [Zp.add_val, ← Nat.add_mod, ← Nat.add_mul, Nat.mod_mul_mod]
theorem mont_sub (x y : Fq) : (mont x + (pp - mont y)) % pp = mont (x - y) := by
  unfold mont
  rw [Zp.sub_val, Nat.mod_mul_mod]
  have h1 := Nat.mod_lt (y.val * R6) pp_pos
  have h2 := Nat.div_add_mod (y.val * R6) pp
  have hy := y.lt
  have h3 : (x.val + (pp - y.val)) * R6 + pp * (y.val * R6 / pp) = (x.val * R6 + (pp - y.val * R6 % pp)) + pp * (R6 - 1) := by
    have : (pp - y.val) * R6 + y.val * R6 = pp * R6 := by rw [← Nat.add_mul, Nat.sub_add_cancel (Nat.le_of_lt hy)]
    have h5 : pp * R6 = pp * (R6 - 1) + pp := by rw [← Nat.mul_succ]; rfl
    rw [Nat.add_mul]
    generalize pp * (R6 - 1) = z at *
    omega
  have h4 := congrArg (· % pp) h3
  simp only [Nat.add_mul_mod_self_left] at h4
  rw [h4, Nat.add_mod, Nat.mod_mod, ← Nat.add_mod]
end Go.Cu
