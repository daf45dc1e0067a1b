/-
  The first group's laws: what scalars, counts, lines and the group's own test come to.
  Conditions: none.
-/
import Derived.Test.YtbchpfmfiokbgaaDoorG1m
import Derived.Test.YtbchpfmfiokbgaaDoorLine
import Derived.Test.YtbchpfmfiokbgaaDoorG1i
import Derived.Test.YtbchpfmfiokbgaaDoorG1k
namespace Go.Cu
open Go.Ec
open Go Go.Vm
set_option linter.unusedVariables false
set_option linter.unusedSimpArgs false
set_option linter.unusedSectionVars false
open CR

theorem of_small {m n : Nat} [Pos m] (h : n < m) : (Zp.of n : Zp m).val = n := by rw [Zp.of_val, Nat.mod_eq_of_lt h]
/-! ### The turn, and the group's test -/
def te : Fq := turn * turn
theorem te_sq : te * te = turn := by decide +kernel
theorem te_cube : te * te * te = 1 := by decide +kernel
theorem sig_id {α : Type} [Fld α] : Sig (fun a : α => a) := ⟨fun _ _ => rfl, fun _ _ => rfl, fun _ _ h => h⟩
theorem te_ne : te ≠ 0 := by decide +kernel
theorem tturn : Turn four (fun a : Fq => a) te := ⟨sig_id, te_ne, by rw [te_cube, one_mul, one_mul]⟩
def phi (P : G1) : G1 := turnG tturn P
theorem phi_val (P : G1) : (phi P).1 = (P.1.1 * turn, P.1.2) := by
  show (te * te * P.1.1, te * te * te * P.1.2) = _
  rw [te_cube, te_sq, one_mul, mul_comm]
def sz : Nat := beN sizeL
theorem sz_val : sz = 0xd201000000010000 := rfl
theorem sz_lt : sz * sz < 2 ^ 256 := by rw [sz_val]; exact of_decide_eq_true (by kernel_rfl)
theorem inB_iff (P : G1) : inB P.1 = true ↔ phi P = -nmul sz (nmul sz P) := by
  unfold inB
  rw [times_ok sizeL_small, times_ok sizeL_small, pneg_ok, ← phi_val, decide_eq_true_iff]
  exact ⟨fun h => Gp.ext h, fun h => congrArg (fun x : G1 => x.1) h⟩
set_option maxRecDepth 100000 in
theorem phi_z : (gadd (glad gG.1 256 (sz * sz)) (phi gG).1).2.2 = 0 := by
  show (gadd (glad gen 256 (sz * sz)) (te * te * gen.1, te * te * te * gen.2)).2.2 = 0
  decide +kernel
theorem phi_gen : phi gG = -nmul sz (nmul sz gG) := by
  obtain ⟨h1, h2⟩ := glad_ok gG 256 (sz * sz) sz_lt
  obtain ⟨h3, h4⟩ := step_add (phi gG) h1 h2
  have hz : (gadd (glad gG.1 256 (sz * sz)) (phi gG).1).2.2 = 0 := phi_z
  have h5 : nmul (sz * sz) gG + phi gG = 0 := by
    generalize gadd (glad gG.1 256 (sz * sz)) (phi gG).1 = j at h4 hz
    exact Gp.ext (h4.symm.trans (if_pos hz))
  rw [nmul_mul] at h5
  exact a_neg_eq h5
theorem phi_mul (n : Nat) : phi (nmul n gG) = -nmul sz (nmul sz (nmul n gG)) := by
  show turnG tturn (nmul n gG) = _
  rw [turnG_nmul]
  show nmul n (phi gG) = _
  rw [phi_gen, nmul_neg, nmul_comm n, nmul_comm n]
theorem in_mul (n : Nat) : inB (nmul n gG).1 = true := (inB_iff _).2 (phi_mul n)

theorem gp_on (l : List Nat) : On four (gp l) := by rw [gp_ok]; exact (nmul (wide l).val gG).2
/-! ### Scalars -/
theorem order_mul (n : Nat) : nmul rr (nmul n gG) = 0 := by rw [nmul_comm, gG_order, nmul_zero]
theorem scalarsOk (x y : Fs) (c : List Nat) : ScalarsOk x y (gp c) := by
  have hp := gp_ok c
  have hin := in_mul (wide c).val
  have hord := order_mul (wide c).val
  generalize nmul (wide c).val gG = P at *
  rw [hp]
  exact {
    r1 := by
      rw [pmul_ok, pmul_ok, pmul_ok, padd_ok, Zp.add_val, nmul_mod hord, nmul_add]
    r2 := by
      rw [pmul_ok, pmul_ok, pmul_ok, Zp.mul_val, nmul_mod hord, nmul_mul]
    r3 := by
      rw [pmul_ok, pmul_ok, pneg_ok, Zp.sub_val, Zp.zero_val, nmul_mod hord, Nat.zero_add]
      refine congrArg (fun z : G1 => z.1) (a_neg_eq ?_).symm
      rw [← nmul_add, show x.val + (rr - x.val) = rr by have := x.lt; omega]; exact hord
    r4 := by rw [pmul_ok, of_small (by decide), nmul_one]
    r5 := by rw [pmul_ok, Zp.zero_val]; rfl
    r6 := hin
    r7 := by rw [pmul_ok]; exact onB_ok (nmul x.val P).2 }

/-! ### Points that are as a rule not of the group -/
theorem wfrom_on : ∀ f k, On four (wfrom f k)
  | 0, _ => .inl rfl
  | f + 1, k => by
    unfold wfrom
    split
    · rename_i h
      refine .inr ?_
      have h1 := h.1
      unfold sqrtF at h1 ⊢
      split at h1
      · rename_i hr
        rw [if_pos hr]
        exact hr
      · cases h1
    · exact wfrom_on f (k + 1)
def wG (n : Nat) : G1 := ⟨wild n, wfrom_on 200 n⟩

/-! ### Counts -/
theorem nadd_ok (P : G1) : ∀ k, nadd P.1 k = (nmul k P).1
  | 0 => rfl
  | k + 1 => by rw [nadd, nadd_ok P k, padd_ok, nmul]
theorem countsOk (k : Nat) (hk : k < 32) (P Q : G1) : CountsOk k P.1 Q.1 where
  c1 := by rw [times_ok (one_small (by omega)), nadd_ok, show beN [k] = k by simp [beN]]
  c2 := by rw [times_ok (three_small (by omega)), nadd_ok, show beN [0, 0, k] = k by simp [beN]]
  c3 := by rw [times_ok (one_small (by omega)), nadd_ok, show beN [k] = k by simp [beN]]
  c4 := times_ok (l := []) (fun c hc => by cases hc) Q
  c5 := by rw [pmul_ok, nadd_ok, of_small (Nat.lt_trans hk (by decide))]

/-! ### Lines -/
theorem addsOk (T : Nat → TypeId × Nat × Nat) (P Q : G1) : AddsOk T P.1 Q.1 where
  a1 := onB_ok P.2
  a2 := onB_ok Q.2
  a3 := by rw [padd_ok]; exact onB_ok (P + Q).2
  a4 := by rw [padd_ok, pneg_ok]; exact onB_ok (-(P + Q)).2
  a5 := fun w hG => by
    have hr : pneg (padd P.1 Q.1) = cneg (cadd P.1 Q.1) := by rw [padd_ok]; rfl
    have hrG : pneg (padd P.1 Q.1) = (-(P + Q)).1 := by rw [padd_ok, pneg_ok]
    by_cases hp : P.1 = (0, 0)
    · refine sidesA_ok hp ?_ hG
      have : P = 0 := Gp.ext hp
      rw [hrG, pneg_ok, a_neg_neg, this, AG.zero_a]
    by_cases hq : Q.1 = (0, 0)
    · refine sidesB_ok hp hq ?_ hG
      have : Q = 0 := Gp.ext hq
      rw [hrG, pneg_ok, a_neg_neg, this, a_zero]
    have hpa := P.2.resolve_left hp
    have hqa := Q.2.resolve_left hq
    by_cases hz : pneg (padd P.1 Q.1) = (0, 0)
    · refine sidesC_ok hp hq hz ?_ hG
      have h1 : -(P + Q) = 0 := Gp.ext (hrG.symm.trans hz)
      have h2 : P + Q = 0 := by rw [← a_neg_neg (P + Q), h1, a_neg_zero]
      rw [AG.acomm] at h2
      rw [pneg_ok, ← a_neg_eq h2]
    by_cases hpq : P.1 = Q.1
    · have hPQ : P = Q := Gp.ext hpq
      subst hPQ
      have hy : P.1.2 + P.1.2 ≠ 0 := fun h => hz (by
        rw [hr]
        unfold cadd
        rw [if_neg hp, if_neg hp, if_pos ⟨rfl, h⟩]
        exact cneg_zero)
      obtain ⟨h1, h2⟩ := tan_r hpa hy _ hr
      by_cases hx : (pneg (padd P.1 P.1)).1 = P.1.1
      · obtain ⟨h3, h4⟩ := h2 hx
        exact sidesE_ok hp hq hz hpq hx h3 (decide_eq_true h4) hG
      · exact sidesD_ok hp hq hz hpq hx h1 hG
    · have hx : P.1.1 ≠ Q.1.1 := fun hx => by
        rcases same_x hpa hqa hx with h | h
        · exact hpq h
        · refine hz ?_
          have h1 : P = -Q := Gp.ext h
          rw [hrG, h1, AG.neg_a, a_neg_zero]; rfl
      obtain ⟨h1, h2⟩ := chord_r hpa hqa hx _ hr
      exact sidesF_ok hp hq hz hpq hx h1 (decide_eq_true h2) hG
  a6 := by rw [padd_ok, padd_ok, AG.acomm]
  a7 := by
    have := psum_ok [P, Q]
    simp only [List.map_cons, List.map_nil, List.foldl_cons, List.foldl_nil, AG.zero_a] at this
    rw [padd_ok]; exact this
end Go.Cu
