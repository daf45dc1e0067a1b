/-
  The first group: its points are a group, what the walks compute is its sums and multiples, and the rules that the laws ask for.
  Conditions: none.
-/
import Derived.Test.YtbchpfmfiokbgaaDoorG1g
import Derived.Test.YtbchpfmfiokbgaaDoorJac
import Derived.Test.YtbchpfmfiokbgaaDoorPock
namespace Go.Cu
open Go.Ec
open CR
set_option linter.unusedVariables false
set_option linter.unusedSimpArgs false
set_option linter.unusedSectionVars false
set_option linter.constructorNameAsVariable false

instance fqFld : Fld Fq where
  toCR := inferInstance
  finv x := pw x (pp - 2)
  mul_finv a ha := by
    have h := fermat prime_pp ha
    rw [show pp - 1 = (pp - 2) + 1 from rfl, pw, mul_comm] at h
    exact h
  one_ne := one_ne prime_pp
instance frFld : Fld Fs where
  toCR := inferInstance
  finv x := pw x (rr - 2)
  mul_finv a ha := by
    have h := fermat prime_rr ha
    rw [show rr - 1 = (rr - 2) + 1 from rfl, pw, mul_comm] at h
    exact h
  one_ne := one_ne prime_rr
instance fourGood : Gd four where
  two := by decide +kernel
  three := by decide +kernel
  b := by decide +kernel

/-! ### Bytes and bits -/
theorem beN_at {l : List Nat} {j : Nat} (hs : ∀ c ∈ l, c < 256) (h : j < l.length) : beN l / 256 ^ j % 256 = l.getD (l.length - 1 - j) 0 := by
  obtain ⟨k, hk⟩ : ∃ k, k = l.length - 1 - j := ⟨_, rfl⟩
  have hkl : k < l.length := by omega
  rw [← hk]
  have e : l = l.take k ++ ([l[k]] ++ l.drop (k + 1)) := by
    rw [List.singleton_append, ← List.drop_eq_getElem_cons hkl, List.take_append_drop]
  have hd : (l.drop (k + 1)).length = j := by rw [List.length_drop]; omega
  have hb := beN_lt (l := l.drop (k + 1)) fun c hc => hs c (List.mem_of_mem_drop hc)
  have hc : l[k] < 256 := hs _ (List.getElem_mem hkl)
  rw [hd] at hb
  have hN : beN l = (beN (l.take k) * 256 + l[k]) * 256 ^ j + beN (l.drop (k + 1)) := by
    conv => lhs; rw [e]
    rw [beN_app, beN_app, hd, List.length_append, hd, List.length_singleton, show beN [l[k]] = l[k] by simp [beN], Nat.add_comm 1 j, Nat.pow_succ, Nat.add_mul, Nat.mul_assoc, Nat.mul_comm 256, Nat.add_assoc]
  rw [hN, Nat.mul_comm _ (256 ^ j), Nat.mul_add_div (Nat.pow_pos (by decide)), Nat.div_eq_of_lt hb, Nat.add_zero, Nat.mul_add_mod_of_lt hc, List.getD_eq_getElem?_getD, List.getElem?_eq_getElem hkl]
  rfl
theorem bit_low {M t : Nat} (h : t < 8) : M % 256 / 2 ^ t % 2 = M / 2 ^ t % 2 := by
  have : t = 0 ∨ t = 1 ∨ t = 2 ∨ t = 3 ∨ t = 4 ∨ t = 5 ∨ t = 6 ∨ t = 7 := by omega
  rcases this with rfl | rfl | rfl | rfl | rfl | rfl | rfl | rfl <;> omega
theorem bit_eq {l : List Nat} (hs : ∀ c ∈ l, c < 256) (i : Nat) : bitB l i = beN l / 2 ^ i % 2 := by
  unfold bitB
  split
  · rename_i h
    have h1 := beN_lt hs
    have h2 : 256 ^ l.length ≤ 2 ^ i := by
      rw [show 256 = 2 ^ 8 from rfl, ← Nat.pow_mul]
      exact Nat.pow_le_pow_right (by decide) h
    rw [Nat.div_eq_of_lt (by omega)]
  · rename_i h
    rw [← beN_at hs (by omega), bit_low (Nat.mod_lt _ (by decide)), Nat.div_div_eq_div_mul, show 256 = 2 ^ 8 from rfl, ← Nat.pow_mul, ← Nat.pow_add, Nat.div_add_mod]
/-- What the digits from the k-th up are worth. -/
def upv (l : List Nat) (k : Nat) : Nat := beN l / 2 ^ k + ov l k
theorem upv_step {l : List Nat} (hs : ∀ c ∈ l, c < 256) (k : Nat) : (upv l k : Int) = 2 * upv l (k + 1) + dg l k := by
  have h1 : beN l / 2 ^ k = 2 * (beN l / 2 ^ (k + 1)) + bitB l k := by
    rw [bit_eq hs, Nat.pow_succ, ← Nat.div_div_eq_div_mul]; omega
  have h2 := bitB_le l k
  have h3 := ov_le l k
  have h4 := bitB_le l (k + 1)
  unfold upv dg
  rw [h1]
  by_cases hA : bitB l k + ov l k = 1
  · by_cases hB : bitB l (k + 1) = 1
    · rw [if_pos hA, if_pos hB, ov, if_pos ⟨hA, hB⟩]; omega
    · rw [if_pos hA, if_neg hB, ov, if_neg (fun h => hB h.2)]; omega
  · rw [if_neg hA, ov, if_neg (fun h => hA h.1)]; omega
theorem upv_top {l : List Nat} (hs : ∀ c ∈ l, c < 256) : upv l (8 * l.length + 1) = 0 := by
  have h1 := beN_lt hs
  have h2 : 256 ^ l.length = 2 ^ (8 * l.length) := by rw [show 256 = 2 ^ 8 from rfl, ← Nat.pow_mul]
  have h3 : beN l / 2 ^ (8 * l.length + 1) = 0 := Nat.div_eq_of_lt (by rw [Nat.pow_succ]; omega)
  have h4 := ov_le l (8 * l.length)
  unfold upv
  rw [h3, ov, bitB_no (Nat.le_refl _), bitB_no (Nat.le_succ _), if_neg (by omega)]
  omega
theorem upv_zero (l : List Nat) : upv l 0 = beN l := by unfold upv; rw [ov]; simp

/-! ### What the walks compute -/
abbrev G1 := Gp four
theorem pneg_ok (P : G1) : pneg P.1 = (-P).1 := rfl
theorem padd_ok (P Q : G1) : padd P.1 Q.1 = (P + Q).1 := by
  have h := (gadd_ok (JOk.toj P.2) Q.2).1
  rw [gpt_toj] at h
  exact h
theorem stp_ok {j : Jac} {x : G1} (P : G1) (d : Int) (hj : JOk four j) (h : gpt j = x.1) (hd : d = 0 ∨ d = 1 ∨ d = -1) {v : Nat} (hx : x = nmul (2 * v) P) {u : Nat} (hu : (u : Int) = 2 * v + d) :
    JOk four (stp P.1 d j) ∧ gpt (stp P.1 d j) = (nmul u P).1 := by
  rcases hd with rfl | rfl | rfl
  · have e : u = 2 * v := by omega
    rw [e, ← hx]
    exact ⟨hj, h⟩
  · have e : u = 2 * v + 1 := by omega
    rw [e, nmul, ← hx]
    exact step_add P hj h
  · have e : 2 * v = u + 1 := by omega
    have h1 := step_add (-P) hj h
    have e2 : x + -P = nmul u P := by rw [hx, e, nmul, AG.aassoc, a_neg, a_zero]
    rw [e2] at h1
    exact h1
theorem dg_cases (l : List Nat) (i : Nat) : dg l i = 0 ∨ dg l i = 1 ∨ dg l i = -1 := by
  unfold dg; split
  · split <;> simp
  · simp
theorem jl_ok {l : List Nat} (hs : ∀ c ∈ l, c < 256) (P : G1) : ∀ m, m ≤ 8 * l.length + 1 → JOk four (jl l P.1 m) ∧ gpt (jl l P.1 m) = (nmul (upv l (8 * l.length + 1 - m)) P).1
  | 0, _ => by
    rw [Nat.sub_zero, upv_top hs]
    exact jzero_ok
  | m + 1, h => by
    obtain ⟨h1, h2⟩ := jl_ok hs P m (by omega)
    obtain ⟨h3, h4⟩ := step_dbl h1 h2
    have hk := upv_step hs (8 * l.length - m)
    rw [show 8 * l.length - m + 1 = 8 * l.length + 1 - m by omega] at hk
    have := stp_ok P (dg l (8 * l.length - m)) h3 h4 (dg_cases _ _) (v := upv l (8 * l.length + 1 - m)) (by rw [Nat.mul_comm 2, nmul_mul, nmul_two]) hk
    rw [show 8 * l.length + 1 - (m + 1) = 8 * l.length - m by omega]
    exact this
theorem times_ok {l : List Nat} (hs : ∀ c ∈ l, c < 256) (P : G1) : times l P.1 = (nmul (beN l) P).1 := by
  have h := (jl_ok hs P (8 * l.length + 1) (Nat.le_refl _)).2
  rw [Nat.sub_self, upv_zero] at h
  exact h
theorem beN_cons (c : Nat) (l : List Nat) : beN (c :: l) = c * 256 ^ l.length + beN l := by
  show List.foldl (fun x c => x * 256 + c) (0 * 256 + c) l = _
  rw [beN_from, Nat.zero_mul, Nat.zero_add]
theorem beN_bytes (v : Nat) : ∀ n, beN ((List.range n).map fun i => v / 256 ^ (n - 1 - i) % 256) = v % 256 ^ n
  | 0 => by simp [beN, Nat.mod_one]
  | n + 1 => by
    rw [List.range_succ_eq_map, List.map_cons, List.map_map, beN_cons]
    have e : ((fun i => v / 256 ^ (n + 1 - 1 - i) % 256) ∘ Nat.succ) = fun i => v / 256 ^ (n - 1 - i) % 256 := by
      funext i
      simp only [Function.comp]
      rw [show n + 1 - 1 - i.succ = n - 1 - i by omega]
    rw [e, beN_bytes v n, List.length_map, List.length_range, show n + 1 - 1 - 0 = n by omega, Nat.pow_succ, Nat.mod_mul]
    rw [Nat.mul_comm, Nat.add_comm]
theorem blist_val (x : Fs) : beN (blist x) = x.val := by
  have h := beN_bytes x.val 32
  have h2 : x.val < 256 ^ 32 := Nat.lt_trans x.lt (by decide)
  rw [Nat.mod_eq_of_lt h2] at h
  exact h
theorem pmul_ok (P : G1) (x : Fs) : pmul P.1 x = (nmul x.val P).1 := by
  unfold pmul
  rw [times_ok (blist_small x), blist_val]
theorem psum_ok (l : List G1) : psum (l.map (·.1)) = (l.foldl (· + ·) 0).1 := (step_sums l jzero_ok.1 jzero_ok.2).2
theorem onB_ok {p : Pt} (h : On four p) : onB p = true := by
  unfold onB
  rcases h with h | h
  · rw [decide_eq_true h]; rfl
  · rw [decide_eq_true (show p.2 * p.2 = p.1 * p.1 * p.1 + four from h), Bool.or_true]
theorem on_of {p : Pt} (h : onB p = true) : On four p := by
  unfold onB at h
  rcases Bool.or_eq_true_iff.1 h with h | h
  · exact .inl (of_decide_eq_true h)
  · exact .inr (show p.2 * p.2 = p.1 * p.1 * p.1 + four from of_decide_eq_true h)

/-! ### The generator -/
theorem gen_on : onB gen = true := by decide +kernel
/-- The generator, as an element of the curve's group. -/
def gG : G1 := ⟨gen, on_of gen_on⟩
theorem gG_order : nmul rr gG = 0 := nmul_zero_of (f := 256) (by decide) (by decide +kernel)
theorem gp_ok (l : List Nat) : gp l = (nmul (wide l).val gG).1 := pmul_ok gG (wide l)
theorem gen_ne : gen ≠ (0, 0) := by decide +kernel
theorem gen_two : gen ≠ pneg gen := by decide +kernel
theorem headOk : HeadOk where
  h1 := gen_on
  h2 := onB_ok (by rw [show gen = gG.1 from rfl, padd_ok]; exact (gG + gG).2)
  h3 := by
    rw [show gen = gG.1 from rfl, padd_ok]
    refine Bool.not_eq_true' _ ▸ decide_eq_false fun h => gen_ne ?_
    have h1 : gG + gG = gG + 0 := by rw [a_zero]; exact Gp.ext h
    exact congrArg (fun x : G1 => x.1) (a_cancel h1)
  h4 := by
    rw [show gen = gG.1 from rfl, padd_ok]
    refine Bool.not_eq_true' _ ▸ decide_eq_false fun h => gen_two ?_
    have h1 : gG + gG = 0 := Gp.ext h
    exact congrArg (fun x : G1 => x.1) (a_neg_eq h1)
  h5 := decide_eq_true (by
    rw [show gen = gG.1 from rfl, times_ok two_small, padd_ok, show beN [2] = 2 from rfl, nmul_two])
  h6 := decide_eq_true (by
    rw [show gen = gG.1 from rfl, pneg_ok, padd_ok, a_neg]; rfl)
  h7 := by decide +kernel
theorem rulesOk (P Q R : G1) : RulesOk P.1 Q.1 R.1 where
  r1 := by rw [padd_ok, padd_ok, padd_ok, padd_ok, AG.aassoc]
  r2 := by
    rw [padd_ok, padd_ok]
    have := psum_ok [P, Q, R]
    simp only [List.map_cons, List.map_nil, List.foldl_cons, List.foldl_nil, AG.zero_a] at this
    exact this
  r3 := by have := padd_ok P 0; rw [a_zero] at this; exact this
  r4 := by have := padd_ok 0 P; rw [AG.zero_a] at this; exact this
  r5 := by rw [pneg_ok, padd_ok, a_neg]; rfl
  r6 := by rw [pneg_ok, pneg_ok, a_neg_neg]
  r7 := by rw [pneg_ok, pneg_ok, padd_ok, padd_ok, pneg_ok, a_neg_add]
  r8 := psum_ok []
  r9 := rfl
  r10 := by decide +kernel
theorem rulesOk_gp (a b c : List Nat) : RulesOk (gp a) (gp b) (gp c) := by
  rw [gp_ok, gp_ok, gp_ok]; exact rulesOk _ _ _
end Go.Cu
