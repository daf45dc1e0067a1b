/-
  Primes, and when a number is one. Conditions: none; plain arithmetic.
-/
import Derived.Test.YtbchpfmfiokbgaaDoorField
namespace Go.Cu
set_option linter.unusedVariables false
set_option linter.unusedSimpArgs false
set_option linter.unusedSectionVars false
set_option linter.constructorNameAsVariable false
def Prime (p : Nat) : Prop := 2 ≤ p ∧ ∀ d, d ∣ p → d = 1 ∨ d = p
theorem exists_prime : ∀ n : Nat, 2 ≤ n → ∃ p, Prime p ∧ p ∣ n := by
  intro n
  induction n using Nat.strongRecOn with
  | _ n ih =>
    intro h
    by_cases hp : Prime n
    · exact ⟨n, hp, Nat.dvd_refl n⟩
    · have : ∃ d, d ∣ n ∧ d ≠ 1 ∧ d ≠ n := by
        apply Classical.byContradiction
        intro hne
        exact hp ⟨h, fun d hd => Classical.byContradiction fun hh => hne ⟨d, hd, fun e => hh (.inl e), fun e => hh (.inr e)⟩⟩
      obtain ⟨d, hd, h1, h2⟩ := this
      have hle := Nat.le_of_dvd (by omega) hd
      have h0 : d ≠ 0 := by rintro rfl; rw [Nat.zero_dvd] at hd; omega
      obtain ⟨p, hp, hpd⟩ := ih d (by omega) (by omega)
      exact ⟨p, hp, Nat.dvd_trans hpd hd⟩
theorem Prime.gcd {p a : Nat} (hp : Prime p) (h : ¬ p ∣ a) : Nat.gcd p a = 1 := by
  rcases hp.2 _ (Nat.gcd_dvd_left p a) with h1 | h1
  · exact h1
  · exact absurd (h1 ▸ Nat.gcd_dvd_right p a) h
theorem Prime.dvd_mul {p a b : Nat} (hp : Prime p) (h : p ∣ a * b) : p ∣ a ∨ p ∣ b := by
  by_cases ha : p ∣ a
  · exact .inl ha
  · exact .inr (Nat.Coprime.dvd_of_dvd_mul_left (hp.gcd ha) h)
theorem bezout (a b : Nat) : ∃ x y : Int, (a : Int) * x + b * y = (Nat.gcd a b : Nat) := by
  induction a, b using Nat.gcd.induction with
  | H0 n => exact ⟨0, 1, by simp⟩
  | H1 m n hm ih =>
    obtain ⟨x, y, h⟩ := ih
    refine ⟨y - (n / m : Nat) * x, x, ?_⟩
    rw [Nat.gcd_rec, ← h]
    have e : (n : Int) = (m : Int) * (n / m : Nat) + (n % m : Nat) := by
      have := Nat.div_add_mod n m
      exact_mod_cast this.symm
    rw [Int.mul_sub]
    conv => lhs; rw [e]
    rw [Int.add_mul, Int.mul_assoc]
    omega
section
variable {p : Nat} [Pos p]
theorem Zp.inv_exists (hp : Prime p) {x : Zp p} (hx : x ≠ 0) : ∃ y : Zp p, x * y = 1 := by
  have h0 : x.val ≠ 0 := fun h => hx (Zp.ext (by rw [h, Zp.zero_val]))
  have hnd : ¬ p ∣ x.val := fun h => absurd (Nat.le_of_dvd (by omega) h) (by have := x.lt; omega)
  obtain ⟨u, v, h⟩ := bezout p x.val
  rw [hp.gcd hnd] at h
  refine ⟨Zp.of (v % p).toNat, Zp.ext ?_⟩
  have hpos : (0 : Int) < p := by have := hp.1; omega
  have e1 : ((v % p).toNat : Int) = v % p := Int.toNat_of_nonneg (Int.emod_nonneg _ (by omega))
  rw [Zp.mul_val, Zp.of_val, Nat.mul_mod_mod]
  show _ = 1 % p
  have : ((x.val * (v % p).toNat : Nat) : Int) % p = (1 : Int) % p := by
    rw [Int.natCast_mul, e1, Int.mul_emod, Int.emod_emod_of_dvd _ (Int.dvd_refl _), ← Int.mul_emod]
    have h2 : (x.val : Int) * v = 1 + p * (-u) := by rw [Int.mul_neg]; have := h; push_cast at this; omega
    rw [h2, Int.add_mul_emod_self_left]
  exact_mod_cast this
open CR
theorem Zp.mul_ne (hp : Prime p) {x y : Zp p} (hx : x ≠ 0) (hy : y ≠ 0) : x * y ≠ 0 := by
  intro h
  obtain ⟨u, hu⟩ := Zp.inv_exists hp hx
  refine hy ?_
  have : (x * u) * y = u * (x * y) := by rw [mul_comm x u, mul_assoc]
  rw [hu, one_mul, h, mul_zero'] at this
  exact this
def prodL (l : List (Zp p)) : Zp p := l.foldr (· * ·) 1
theorem prodL_perm {l l' : List (Zp p)} (h : l.Perm l') : prodL l = prodL l' := by
  induction h with
  | nil => rfl
  | cons x _ ih => show x * prodL _ = x * prodL _; rw [ih]
  | swap x y l => show y * (x * prodL l) = x * (y * prodL l); rw [← mul_assoc, mul_comm y, mul_assoc]
  | trans _ _ h1 h2 => exact h1.trans h2
theorem prodL_map (x : Zp p) : ∀ l : List (Zp p), prodL (l.map (x * ·)) = pw x l.length * prodL l
  | [] => by show (1 : Zp p) = 1 * 1; rw [one_mul]
  | y :: l => by
    show x * y * prodL (l.map (x * ·)) = pw x (l.length + 1) * (y * prodL l)
    rw [prodL_map x l, pw, mul_comm (pw x l.length) x, mul_assoc, mul_assoc, ← mul_assoc y, mul_comm y, mul_assoc]
theorem prodL_ne (hp : Prime p) (h1 : (1 : Zp p) ≠ 0) : ∀ l : List (Zp p), (∀ y ∈ l, y ≠ 0) → prodL l ≠ 0
  | [], _ => h1
  | y :: l, h => Zp.mul_ne hp (h y List.mem_cons_self) (prodL_ne hp h1 l fun z hz => h z (List.mem_cons_of_mem _ hz))
def allNz (p : Nat) [Pos p] : List (Zp p) := (List.range (p - 1)).map fun i => Zp.of (i + 1)
theorem one_ne (hp : Prime p) : (1 : Zp p) ≠ 0 := by
  intro h
  have h1 := congrArg Zp.val h
  rw [Zp.zero_val] at h1
  have h2 : (1 : Zp p).val = 1 % p := rfl
  rw [h2, Nat.mod_eq_of_lt hp.1] at h1
  cases h1
theorem mem_allNz {y : Zp p} : y ∈ allNz p ↔ y ≠ 0 := by
  unfold allNz
  rw [List.mem_map]
  constructor
  · rintro ⟨i, hi, rfl⟩ h
    have hi := List.mem_range.1 hi
    have h1 := congrArg Zp.val h
    rw [Zp.zero_val, Zp.of_val, Nat.mod_eq_of_lt (by omega)] at h1
    cases h1
  · intro h
    have h0 : y.val ≠ 0 := fun e => h (Zp.ext (by rw [e, Zp.zero_val]))
    refine ⟨y.val - 1, List.mem_range.2 (by have := y.lt; omega), Zp.ext ?_⟩
    rw [Zp.of_val, Nat.sub_add_cancel (by omega), Nat.mod_eq_of_lt y.lt]
theorem nodup_allNz (hp : Prime p) : (allNz p).Nodup := by
  unfold allNz
  rw [List.nodup_iff_pairwise_ne, List.pairwise_map]
  refine List.Pairwise.imp_of_mem ?_ (List.nodup_iff_pairwise_ne.1 List.nodup_range)
  intro a b ha hb hab he
  have ha := List.mem_range.1 ha
  have hb := List.mem_range.1 hb
  have h1 := congrArg Zp.val he
  rw [Zp.of_val, Zp.of_val, Nat.mod_eq_of_lt (by omega), Nat.mod_eq_of_lt (by omega)] at h1
  omega
/-- Fermat's little theorem. -/
theorem fermat (hp : Prime p) {x : Zp p} (hx : x ≠ 0) : pw x (p - 1) = 1 := by
  obtain ⟨u, hu⟩ := Zp.inv_exists hp hx
  have hinj : ∀ a b : Zp p, x * a = x * b → a = b := fun a b h => by
    have := congrArg (u * ·) h
    simp only [← mul_assoc, mul_comm u x, hu, one_mul] at this
    exact this
  have hnd : ((allNz p).map (x * ·)).Nodup := by
    rw [List.nodup_iff_pairwise_ne, List.pairwise_map]
    exact List.Pairwise.imp (fun h e => h (hinj _ _ e)) (List.nodup_iff_pairwise_ne.1 (nodup_allNz hp))
  have hperm : ((allNz p).map (x * ·)).Perm (allNz p) := by
    rw [List.perm_ext_iff_of_nodup hnd (nodup_allNz hp)]
    intro y
    rw [mem_allNz, List.mem_map]
    constructor
    · rintro ⟨z, hz, rfl⟩; exact Zp.mul_ne hp hx (mem_allNz.1 hz)
    · intro hy
      refine ⟨u * y, mem_allNz.2 fun h => hy ?_, by rw [← mul_assoc, hu, one_mul]⟩
      have : x * (u * y) = 0 := by rw [h, mul_zero']
      rwa [← mul_assoc, hu, one_mul] at this
  have h1 := prodL_perm hperm
  rw [prodL_map] at h1
  obtain ⟨w, hw⟩ := Zp.inv_exists hp (prodL_ne hp (one_ne hp) (allNz p) fun y hy => mem_allNz.1 hy)
  have h2 := congrArg (· * w) h1
  simp only [mul_assoc, hw, mul_one'] at h2
  rw [show (allNz p).length = p - 1 by simp [allNz]] at h2
  exact h2
end
end Go.Cu
