/-
  The first group's field: powers: the walk. Conditions: none.
-/
import Derived.Test.YtndonmbemehefaaDoorFp3
import Derived.Test.YtndonmbemehefaaDoorField
import Derived.Test.YtndonmbemehefaaDoorVmNum
namespace Go.Cu
open Go Go.Vm Go.RowKit Go.Proofs 
attribute [local irreducible] W OpsW Det Fresh New Writes Vm.Pure Makes Changes ExternTo BuildTo ZeroTo FieldTo IndexTo BinTo SliceTo Vm.Enters
set_option linter.unusedVariables false
set_option linter.unusedSimpArgs false
variable {T : Nat → TypeId × Nat × Nat}

def tabF : Nat → (Nat → Fq) → Nat → List Value
  | 0, _, _ => []
  | n + 1, f, i => cellsF (f i) ++ tabF n f (i + 1)
/-- Sixteen numbers, one behind the other. -/
def tabL (f : Nat → Fq) : List Value := tabF 16 f 0
theorem tab_cut {f : Nat → Fq} {i k : Nat} (h : i < 16) (hk : k = i * 6) : cut k 6 (tabL f) = some (cellsF (f i)) := by
  subst hk
  have : i = 0 ∨ i = 1 ∨ i = 2 ∨ i = 3 ∨ i = 4 ∨ i = 5 ∨ i = 6 ∨ i = 7 ∨ i = 8 ∨ i = 9 ∨ i = 10 ∨ i = 11 ∨ i = 12 ∨ i = 13 ∨ i = 14 ∨ i = 15 := by omega
  rcases this with rfl | rfl | rfl | rfl | rfl | rfl | rfl | rfl | rfl | rfl | rfl | rfl | rfl | rfl | rfl | rfl <;> rfl
theorem tabF_congr {f g : Nat → Fq} : ∀ {n i : Nat}, (∀ j, i ≤ j → j < i + n → f j = g j) → tabF n f i = tabF n g i
  | 0, _, _ => rfl
  | n + 1, i, h => by rw [tabF, tabF, h i (by omega) (by omega), tabF_congr (n := n) (i := i + 1) fun j h1 h2 => h j (by omega) (by omega)]
theorem tab_put {f : Nat → Fq} {v : Fq} {i : Nat} (h : i < 16) : splice (i * 6) (cellsF v) (tabL f) = some (tabL fun j => match Nat.beq j i with | true => v | false => f j) := by
  have : i = 0 ∨ i = 1 ∨ i = 2 ∨ i = 3 ∨ i = 4 ∨ i = 5 ∨ i = 6 ∨ i = 7 ∨ i = 8 ∨ i = 9 ∨ i = 10 ∨ i = 11 ∨ i = 12 ∨ i = 13 ∨ i = 14 ∨ i = 15 := by omega
  rcases this with rfl | rfl | rfl | rfl | rfl | rfl | rfl | rfl | rfl | rfl | rfl | rfl | rfl | rfl | rfl | rfl <;> rfl
theorem tab_splice {f f' : Nat → Fq} {v : Fq} {i k : Nat} (h : i < 16) (hk : k = i * 6) (hv : f' i = v) (hf : ∀ j, j ≠ i → f' j = f j) : splice k (cellsF v) (tabL f) = some (tabL f') := by
  subst hk
  rw [tab_put h]
  refine congrArg some (tabF_congr fun j _ _ => ?_)
  by_cases hj : j = i
  · subst hj; simp [hv]
  · have : Nat.beq j i = false := by cases hb : Nat.beq j i with | false => rfl | true => exact absurd (Nat.eq_of_beq_eq_true hb) hj
    simp [this, hf j hj]
/-- The powers of x below the i-th, and noughts. -/
def pwt (x : Fq) (i j : Nat) : Fq := if j < i then pw x j else 0
theorem pwt_new {x : Fq} {i : Nat} (h : 0 < i) : pwt x (i + 1) i = pwt x i (i - 1) * x := by
  obtain ⟨k, rfl⟩ : ∃ k, i = k + 1 := ⟨i - 1, by omega⟩
  simp only [pwt, Nat.lt_succ_self, if_true, Nat.add_sub_cancel]
  rfl
theorem pwt_old {x : Fq} {i : Nat} : ∀ j, j ≠ i → pwt x (i + 1) j = pwt x i j := fun j hj => by
  unfold pwt
  by_cases h : j < i
  · rw [if_pos h, if_pos (by omega)]
  · rw [if_neg h, if_neg (by omega)]
theorem tab_zero {x : Fq} : splice 0 (cellsF (Zp.of 1)) (tabL fun _ => 0) = some (tabL (pwt x 1)) :=
  tab_splice (i := 0) (f' := pwt x 1) (by decide) rfl rfl fun j hj => by unfold pwt; rw [if_neg (by omega)]
def top (E k : Nat) : Nat := E / 2 ^ (4 * k)
theorem word_bits {E k : Nat} : lim E (4 * k / 64) / 2 ^ (4 * k % 64) % 2 ^ 4 = top E k % 16 := by
  unfold lim top
  have h1 : 18446744073709551616 ^ (4 * k / 64) = 2 ^ (64 * (4 * k / 64)) := by rw [Nat.pow_mul]
  have h2 : 4 * k % 64 + 4 ≤ 64 := by omega
  rw [h1, show (18446744073709551616 : Nat) = 2 ^ (4 * k % 64) * 2 ^ (64 - 4 * k % 64) by rw [← Nat.pow_add, show 4 * k % 64 + (64 - 4 * k % 64) = 64 by omega]]
  rw [Nat.mod_mul_right_div_self, Nat.div_div_eq_div_mul, ← Nat.pow_add, show 64 * (4 * k / 64) + 4 * k % 64 = 4 * k by omega]
  rw [Nat.mod_mod_of_dvd _ (Nat.pow_dvd_pow 2 (by omega))]
theorem pw_round {x : Fq} {E k : Nat} : pw x (top E k) = (let y := pw x (top E (k + 1)); let z := y * y; let u := z * z; let v := u * u; v * v) * pw x (top E k % 16) := by
  unfold top
  have h : E / 2 ^ (4 * (k + 1)) = E / 2 ^ (4 * k) / 16 := by rw [Nat.mul_succ, Nat.pow_add, ← Nat.div_div_eq_div_mul]
  rw [h]
  have := pw_16 x (E / 2 ^ (4 * k) / 16)
  simp only at this ⊢
  rw [← this, ← pw_add, Nat.div_add_mod]
theorem z110 : TyZ Tryd.prog 110 (.agg (tabL fun _ => 0).toArray) (tabL fun _ => 0) := ⟨fun _ => by kernel_rfl, by kernel_rfl⟩
theorem idx26' {m i : Nat} (h : i < 6) : cut i 1 [u64 (lim m 0), u64 (lim m 1), u64 (lim m 2), u64 (lim m 3), u64 (lim m 4), u64 (lim m 5)] = some [u64 (lim m i)] := by
  have : i = 0 ∨ i = 1 ∨ i = 2 ∨ i = 3 ∨ i = 4 ∨ i = 5 := by omega
  rcases this with rfl | rfl | rfl | rfl | rfl | rfl <;> rfl
theorem at26 {m i k : Nat} (h : i < 6) (hk : k = i) : [u64 (lim m 0), u64 (lim m 1), u64 (lim m 2), u64 (lim m 3), u64 (lim m 4), u64 (lim m 5)][k]? = some (u64 (lim m i)) := by
  subst hk
  have : k = 0 ∨ k = 1 ∨ k = 2 ∨ k = 3 ∨ k = 4 ∨ k = 5 := by omega
  rcases this with rfl | rfl | rfl | rfl | rfl | rfl <;> rfl
theorem pwt_at {x : Fq} {j : Nat} (h : j < 16) : pwt x 16 j = pw x j := by unfold pwt; rw [if_pos h]
theorem pw_round0 {x : Fq} {E k : Nat} (h : top E k % 16 = 0) : (let y := pw x (top E (k + 1)); let z := y * y; let u := z * z; let v := u * u; v * v) = pw x (top E k) := by
  rw [pw_round (x := x) (E := E) (k := k), h, pw, mul_one']
theorem lt_pow {E a b m : Nat} (hm : a + b = m) (h : E < 2 ^ a * 2 ^ b) : E < 2 ^ m := by subst hm; rw [Nat.pow_add]; exact h
theorem top_96 {E m : Nat} (hE : E < R6) (hm : 192 + 192 = 4 * m) : top E m = 0 := Nat.div_eq_of_lt (lt_pow hm (Nat.lt_of_lt_of_le hE (by decide)))
theorem top_0 {E : Nat} : top E 0 = E := Nat.div_one E
theorem pw_round1 {x : Fq} {E k : Nat} : pw x (top E k) = (let y := pw x (top E (k + 1)); let z := y * y; let u := z * z; let v := u * u; v * v) * pwt x 16 (top E k % 16) := by
  rw [pwt_at (Nat.mod_lt _ (by decide)), pw_round (x := x) (E := E) (k := k)]
theorem sub_cell {a b : Fq} {n t : Nat} {r : Hp} (h : a = b) : List.Sublist ((n, blk (cellsF a) t) :: r) ((n, blk (cellsF b) t) :: r) := by subst h; exact List.Sublist.refl _

theorem en16 : Vm.Enters Tryd.prog 16 := Vm.Enters.of fun _ _ => by kernel_rfl
theorem u110 : Tryd.prog.underlying 110 = some (.array 16 29) := by kernel_rfl
theorem power_ok {x : Fq} {E : Nat} (hE : E < R6) {w : World} (hG : Blocks (GH T) w)  : Vm.Pure Tryd.prog 60 #[encF x, .agg #[u64 (lim (E) 0), u64 (lim (E) 1), u64 (lim (E) 2), u64 (lim (E) 3), u64 (lim (E) 4), u64 (lim (E) 5)]] w (encF (pw x E)) := by
  refine pure_of_W (n := 51) (args := [encF x, .agg #[u64 (lim (E) 0), u64 (lim (E) 1), u64 (lim (E) 2), u64 (lim (E) 3), u64 (lim (E) 4), u64 (lim (E) 5)]]) Tryd.func60 rfl Tryd.ntmps60 (Nat.le_of_ble_eq_true rfl) hG ?_
  refine sStart ?_
  refine sSeq ?_
  refine W.region ?_
  refine OpsW.fresh (fr_box rfl rfl) rfl fun b2 => ?_
  refine OpsW.fresh (fr_box rfl rfl) rfl fun b3 => ?_
  refine OpsW.fresh (fr_alloc z29) rfl fun b4 => ?_
  refine sNext ?_
  refine W.keep (F' := [(4, _), (3, _), (2, _)]) ⟨rfl, rfl, rfl, trivial⟩ ?_
  refine sSeq ?_
  refine W.region ?_
  refine OpsW.fresh (fr_alloc z110) rfl fun b5 => ?_
  refine sNext ?_
  refine sSeq ?_
  refine W.region ?_
  refine OpsW.det (det_call en19 rfl (fun w hb ho => Of_ok (n := 1) (by decide) ho.blocks)) rfl ?_
  refine OpsW.det (det_indexAddr_arr u110 sz29 rfl rfl ⟨by decide, by decide⟩) rfl ?_
  refine OpsW.store sz29 rfl rfl rfl rfl rfl (Upd.here) (tab_zero (x := x)) ?_
  refine sNext ?_
  refine W.keep (F' := [(5, _), (4, _), (3, _), (2, _)]) ⟨rfl, rfl, rfl, rfl, trivial⟩ ?_
  refine sSeq ?_
  refine sSeq ?_
  refine W.region ?_
  refine OpsW.det (det_assign rfl) rfl ?_
  refine sNext ?_
  refine sBlock ?_
  refine sLoop (σ := Nat) (fun i => [(6, .int .i64 (i : Nat)), (5, .pointer (some ⟨b5, 0, none⟩)), (4, .pointer (some ⟨b4, 0, none⟩)), (3, .pointer (some ⟨b3, 0, none⟩)), (2, .pointer (some ⟨b2, 0, none⟩))]) (fun i => [(b5, blk (tabL (pwt x i)) 110), (b4, blk [.int .u64 0, .int .u64 0, .int .u64 0, .int .u64 0, .int .u64 0, .int .u64 0] 29), (b3, blk [u64 (lim E 0), u64 (lim E 1), u64 (lim E 2), u64 (lim E 3), u64 (lim E 4), u64 (lim E 5)] 27), (b2, blk (cellsF x) 29)]) (fun i => 0 < i ∧ i ≤ 16) (fun i => 16 - i) 1 ⟨by decide, by decide⟩ ⟨rfl, rfl, rfl, rfl, rfl, trivial⟩ (List.Sublist.refl _) ?_
  rintro i ⟨hi0, hi⟩
  refine sSeq ?_
  refine sSeq ?_
  refine W.region ?_
  refine OpsW.det (det_move rfl) rfl ?_
  refine OpsW.det (det_lss rfl rfl) rfl ?_
  refine sNext ?_
  refine W.keep (F' := [(13, _), (6, _), (5, _), (4, _), (3, _), (2, _)]) ⟨rfl, rfl, rfl, rfl, rfl, rfl, trivial⟩ ?_
  refine W.cond rfl (fun hc13 => ?_) (fun hc13 => ?_)
  · skip
    have hlt : i < 16 := by have h := hc13; simp only [decide_eq_true_eq] at h; omega
    refine sSkip ?_
    refine sSeq ?_
    refine sBlock ?_
    refine W.draw mixed 8 [[], [], [1], [1, 2], [1, 2, 3], [], [1, 2, 3, 4, 5], [0, 1, 2, 3, 4, 5, 6], [0, 1, 2, 3, 4, 5, 6, 7]] (cl_lt (by decide)) ?_
    refine HeadR.start (cl_lt (by decide)) ?_
    refine HeadR.det rfl (fun β hβ => (det_move rfl)) ?_
    refine HeadR.det rfl (fun β hβ => (det_move rfl)) ?_
    refine HeadR.det rfl (fun β hβ => ((det_subZ (c := ((i - 1 : Nat) : Int)) rfl rfl (by omega) (by omega)))) ?_
    refine HeadR.det rfl (fun β hβ => (det_indexAddr_arr u110 sz29 rfl rfl ⟨by omega, by omega⟩)) ?_
    refine HeadR.det rfl (fun β hβ => (det_loadA ty29 rfl (List.Mem.head _) (tab_cut (i := i - 1) (by omega) (by omega)))) ?_
    refine HeadR.det rfl (fun β hβ => (det_loadA ty29 rfl (List.Mem.tail _ (List.Mem.tail _ (List.Mem.tail _ (List.Mem.head _)))) rfl)) ?_
    refine HeadR.det rfl (fun β hβ => (det_call en17 rfl (fun w hb ho => Cu.Mul_ok ho.blocks))) ?_
    refine HeadR.det rfl (fun β hβ => (det_indexAddr_arr u110 sz29 rfl rfl ⟨by omega, by omega⟩)) ?_
    refine HeadR.done ⟨by kernel_rfl, fun β hβ => ?_⟩
    refine OpsW.norm (F' := [(16, _), (17, _), (18, _), (19, _), (20, _), (21, _), (22, _), (23, _), (13, _), (6, _), (5, _), (4, _), (3, _), (2, _)]) (H' := [(_, _), (_, _), (_, _), (_, _)]) rfl rfl ?_
    refine OpsW.store sz29 rfl rfl rfl rfl rfl (Upd.here) (tab_splice (f' := pwt x (i + 1)) hlt (by omega) (pwt_new hi0) pwt_old) ?_
    refine sLast ?_
    refine bNext ?_
    refine W.keep (F' := [(6, _), (5, _), (4, _), (3, _), (2, _)]) ⟨rfl, rfl, rfl, rfl, rfl, trivial⟩ ?_
    refine W.region ?_
    refine OpsW.det (det_move rfl) rfl ?_
    refine OpsW.det (det_addN (b := 1) rfl rfl (by omega)) rfl ?_
    refine OpsW.det (det_assign rfl) rfl ?_
    refine sLast ?_
    exact rEnd (i + 1) ⟨by omega, by omega⟩ ⟨rfl, rfl, rfl, rfl, rfl, trivial⟩ (List.Sublist.refl _) (by omega)
  · skip
    have hi16 : i = 16 := by have h := hc13; simp only [decide_eq_false_iff_not] at h; omega
    subst hi16
    refine sExit ?_
    refine xLoop ?_
    refine xHere ?_
    refine W.keep (F' := [(5, _), (4, _), (3, _)]) ⟨rfl, rfl, rfl, trivial⟩ ?_
    refine sSeq ?_
    refine W.region ?_
    refine OpsW.det (det_indexAddr_arr u110 sz29 rfl rfl ⟨by decide, by decide⟩) rfl ?_
    refine OpsW.det (det_loadA ty29 rfl (List.Mem.head _) (tab_cut (i := 0) (by omega) (by omega))) rfl ?_
    refine OpsW.fresh (fr_alloc z29) rfl fun b7 => ?_
    refine OpsW.store sz29 rfl rfl rfl rfl rfl (Upd.here) rfl ?_
    refine sNext ?_
    refine W.keep (F' := [(7, _), (5, _), (4, _), (3, _)]) ⟨rfl, rfl, rfl, rfl, trivial⟩ ?_
    refine sSeq ?_
    refine sSeq ?_
    refine W.region ?_
    refine OpsW.det (det_assign rfl) rfl ?_
    refine sNext ?_
    refine sBlock ?_
    have hs : pwt x 16 0 = pw x (top E 96) := by rw [pwt_at (by decide), top_96 hE rfl]
    refine sLoop (σ := Nat) (fun k => [(8, .int .i64 (4 * ((k : Nat) : Int) - 4)), (7, .pointer (some ⟨b7, 0, none⟩)), (5, .pointer (some ⟨b5, 0, none⟩)), (4, .pointer (some ⟨b4, 0, none⟩)), (3, .pointer (some ⟨b3, 0, none⟩))]) (fun k => [(b7, blk (cellsF (pw x (top E k))) 29), (b5, blk (tabL (pwt x 16)) 110), (b4, blk [.int .u64 0, .int .u64 0, .int .u64 0, .int .u64 0, .int .u64 0, .int .u64 0] 29), (b3, blk [u64 (lim E 0), u64 (lim E 1), u64 (lim E 2), u64 (lim E 3), u64 (lim E 4), u64 (lim E 5)] 27), (b2, blk (cellsF x) 29)]) (fun k => k ≤ 96) (fun k => k) 96 (Nat.le_refl _) ⟨rfl, rfl, rfl, rfl, rfl, trivial⟩ (sub_cell hs.symm) ?_
    intro k hk
    refine sSeq ?_
    refine sSeq ?_
    refine W.region ?_
    refine OpsW.det (det_move rfl) rfl ?_
    refine OpsW.det (det_geq rfl rfl) rfl ?_
    refine sNext ?_
    refine W.keep (F' := [(27, _), (8, _), (7, _), (5, _), (4, _), (3, _)]) ⟨rfl, rfl, rfl, rfl, rfl, rfl, trivial⟩ ?_
    refine W.cond rfl (fun hc27 => ?_) (fun hc27 => ?_)
    · skip
      obtain ⟨k, rfl⟩ : ∃ j, k = j + 1 := ⟨k - 1, by have h := hc27; simp only [decide_eq_true_eq] at h; omega⟩
      refine W.norm (F' := [(27, _), (8, .int .i64 ((4 * k : Nat) : Int)), (7, _), (5, _), (4, _), (3, _)]) (H' := [(_, _), (_, _), (_, _), (_, _), (_, _)]) (by rw [show (4 * ((k + 1 : Nat) : Int) - 4) = ((4 * k : Nat) : Int) by omega]) rfl ?_
      refine sSkip ?_
      refine sSeq ?_
      refine sBlock ?_
      refine sSeq ?_
      refine W.region ?_
      refine OpsW.det (det_loadA ty29 rfl (List.Mem.head _) rfl) rfl ?_
      refine OpsW.det (det_call en16 rfl (fun w hb ho => Cu.Square_ok ho.blocks)) rfl ?_
      refine OpsW.det (det_call en16 rfl (fun w hb ho => Cu.Square_ok ho.blocks)) rfl ?_
      refine OpsW.det (det_call en16 rfl (fun w hb ho => Cu.Square_ok ho.blocks)) rfl ?_
      refine OpsW.det (det_call en16 rfl (fun w hb ho => Cu.Square_ok ho.blocks)) rfl ?_
      refine OpsW.store sz29 rfl rfl rfl rfl rfl (Upd.here) rfl ?_
      refine sNext ?_
      refine W.keep (F' := [(8, _), (7, _), (5, _), (4, _), (3, _)]) ⟨rfl, rfl, rfl, rfl, rfl, trivial⟩ ?_
      refine sSeq ?_
      refine W.region ?_
      refine OpsW.det (det_move rfl) rfl ?_
      refine OpsW.det (det_quoN (b := 64) rfl rfl (by decide) (by omega)) rfl ?_
      refine OpsW.det (det_indexAddr_arr u27 sz26 rfl rfl ⟨by omega, by omega⟩) rfl ?_
      refine OpsW.det (det_loadC ty26 rfl (List.Mem.tail _ (List.Mem.tail _ (List.Mem.tail _ (List.Mem.head _)))) (at26 (m := E) (i := 4 * k / 64) (by omega) (by omega))) rfl ?_
      refine OpsW.det (det_move rfl) rfl ?_
      refine OpsW.det (det_remN (b := 64) rfl rfl (by decide)) rfl ?_
      refine OpsW.det (det_shrN rfl rfl (by omega)) rfl ?_
      refine OpsW.det ((det_maskN (m := 15) (k := 4) rfl rfl (Nat.lt_of_le_of_lt (Nat.div_le_self _ _) (lim_lt _ _)) rfl (by decide)).to (congrArg (fun z : Nat => u64 z) (word_bits (E := E) (k := k)))) rfl ?_
      refine OpsW.det (det_assign rfl) rfl ?_
      refine sNext ?_
      refine W.keep (F' := [(9, _), (8, _), (7, _), (5, _), (4, _), (3, _)]) ⟨rfl, rfl, rfl, rfl, rfl, rfl, trivial⟩ ?_
      refine sSeq ?_
      refine W.region ?_
      refine OpsW.det (det_move rfl) rfl ?_
      refine OpsW.det (det_gtr rfl rfl) rfl ?_
      refine sNext ?_
      refine W.keep (F' := [(44, _), (9, _), (8, _), (7, _), (5, _), (4, _), (3, _)]) ⟨rfl, rfl, rfl, rfl, rfl, rfl, rfl, trivial⟩ ?_
      refine W.cond rfl (fun hc44 => ?_) (fun hc44 => ?_)
      · skip
        refine W.draw mixed 5 [[], [], [1], [1, 2], [0, 1, 2, 3], [0, 1, 2, 3, 4]] (cl_lt (by decide)) ?_
        refine HeadR.start (cl_lt (by decide)) ?_
        refine HeadR.det rfl (fun β hβ => (det_loadA ty29 rfl (List.Mem.head _) rfl)) ?_
        refine HeadR.det rfl (fun β hβ => (det_move rfl)) ?_
        refine HeadR.det rfl (fun β hβ => (det_indexAddr_arr u110 sz29 rfl rfl ⟨by omega, by omega⟩)) ?_
        refine HeadR.det rfl (fun β hβ => (det_loadA ty29 rfl (List.Mem.tail _ (List.Mem.head _)) (tab_cut (i := top E k % 16) (by omega) (by omega)))) ?_
        refine HeadR.det rfl (fun β hβ => (det_call en17 rfl (fun w hb ho => Cu.Mul_ok ho.blocks))) ?_
        refine HeadR.done ⟨by kernel_rfl, fun β hβ => ?_⟩
        refine OpsW.norm (F' := [(45, _), (46, _), (47, _), (48, _), (49, _), (44, _), (9, _), (8, _), (7, _), (5, _), (4, _), (3, _)]) (H' := [(_, _), (_, _), (_, _), (_, _), (_, _)]) rfl rfl ?_
        refine OpsW.store sz29 rfl rfl rfl rfl rfl (Upd.here) rfl ?_
        refine sLast ?_
        refine bNext ?_
        refine W.keep (F' := [(8, _), (7, _), (5, _), (4, _), (3, _)]) ⟨rfl, rfl, rfl, rfl, rfl, trivial⟩ ?_
        refine W.region ?_
        refine OpsW.det (det_move rfl) rfl ?_
        refine OpsW.det (det_subZ (c := 4 * ((k : Nat) : Int) - 4) rfl rfl rfl (by omega)) rfl ?_
        refine OpsW.det (det_assign rfl) rfl ?_
        refine sLast ?_
        exact rEnd k (by omega) ⟨rfl, rfl, rfl, rfl, rfl, trivial⟩ (sub_cell (pw_round1 (x := x) (E := E) (k := k))) (by omega)
      · skip
        refine sSkip0 ?_
        refine bNext ?_
        refine W.keep (F' := [(8, _), (7, _), (5, _), (4, _), (3, _)]) ⟨rfl, rfl, rfl, rfl, rfl, trivial⟩ ?_
        refine W.region ?_
        refine OpsW.det (det_move rfl) rfl ?_
        refine OpsW.det (det_subZ (c := 4 * ((k : Nat) : Int) - 4) rfl rfl rfl (by omega)) rfl ?_
        refine OpsW.det (det_assign rfl) rfl ?_
        refine sLast ?_
        have hd : top E k % 16 = 0 := by have h := hc44; simp only [decide_eq_false_iff_not] at h; omega
        exact rEnd k (by omega) ⟨rfl, rfl, rfl, rfl, rfl, trivial⟩ (sub_cell (pw_round0 (x := x) hd).symm) (by omega)
    · skip
      have hk0 : k = 0 := by have h := hc27; simp only [decide_eq_false_iff_not] at h; omega
      subst hk0
      refine sExit ?_
      refine xLoop ?_
      refine xHere ?_
      refine W.keep (F' := [(7, _), (4, _)]) ⟨rfl, rfl, trivial⟩ ?_
      refine sSeq ?_
      refine W.region ?_
      refine OpsW.det (det_loadA ty29 rfl (List.Mem.head _) rfl) rfl ?_
      refine OpsW.store sz29 rfl rfl rfl rfl rfl (Upd.there (Upd.there (Upd.here))) rfl ?_
      refine sNext ?_
      refine W.keep (F' := [(4, _)]) ⟨rfl, trivial⟩ ?_
      refine sRet ?_
      exact done1 Tryd.results60 (rv_cellA ty29 rfl (List.Mem.tail _ (List.Mem.tail _ (List.Mem.head _))) rfl) (congrArg (fun n => encF (pw x n)) top_0)

end Go.Cu
