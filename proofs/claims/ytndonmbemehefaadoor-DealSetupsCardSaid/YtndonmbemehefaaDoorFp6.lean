/-
  The first group's field: numbers read: the walks. Conditions: none.
-/
import Derived.Test.YtndonmbemehefaaDoorFp5
namespace Go.Cu
open Go Go.Vm Go.RowKit Go.Proofs 
attribute [local irreducible] W OpsW Det Fresh New Writes Vm.Pure Makes Changes ExternTo BuildTo ZeroTo FieldTo IndexTo BinTo SliceTo Vm.Enters
set_option linter.unusedVariables false
set_option linter.unusedSimpArgs false
variable {T : Nat → TypeId × Nat × Nat}

theorem bor_step (i m k : Nat) : (if lim m i < lim k i + bor i m k then 1 else 0) = bor (i + 1) m k := by
  have h0 : 0 < 18446744073709551616 ^ i := Nat.pow_pos (by decide)
  have h1 := Nat.mod_lt m h0
  have h2 := Nat.mod_lt k h0
  unfold bor
  rw [mod_succ, mod_succ]
  generalize m % 18446744073709551616 ^ i = a at *
  generalize k % 18446744073709551616 ^ i = b at *
  generalize lim m i = x
  generalize lim k i = y
  generalize 18446744073709551616 ^ i = Q at *
  rcases Nat.lt_trichotomy x y with h | h | h
  · have : Q * x + Q ≤ Q * y := by rw [← Nat.mul_succ]; exact Nat.mul_le_mul_left _ h
    rw [if_pos (show x < y + _ by omega), if_pos (by omega)]
  · subst h
    by_cases hab : a < b
    · rw [if_pos (by rw [if_pos hab]; omega), if_pos (by omega)]
    · rw [if_neg (by rw [if_neg hab]; omega), if_neg (by omega)]
  · have : Q * y + Q ≤ Q * x := by rw [← Nat.mul_succ]; exact Nat.mul_le_mul_left _ h
    rw [if_neg (by split <;> omega), if_neg (by omega)]
theorem bor_6 {m : Nat} (hm : m < R6) : ((bor 6 m pp : Int) == 1) = decide (m < pp) := by
  unfold bor
  rw [show 18446744073709551616 ^ 6 = R6 from by decide, Nat.mod_eq_of_lt hm, Nat.mod_eq_of_lt (show pp < R6 by decide)]
  by_cases h : m < pp
  · rw [if_pos h, decide_eq_true h]; rfl
  · rw [if_neg h, decide_eq_false h]; rfl
/-- What fp.Read hands back. -/
def readF (l : List Nat) : Fq × Int := if l.length ≠ 48 then (0, 10) else if beN l < pp then (Zp.of (beN l), 0) else (0, 12)
theorem readF_len {l : List Nat} (h : l.length ≠ 48) : readF l = (0, 10) := if_pos h
theorem readF_no {l : List Nat} (h : l.length = 48) (h2 : ¬ beN l < pp) : readF l = (0, 12) := by unfold readF; rw [if_neg (by omega), if_neg h2]
theorem readF_yes {l : List Nat} (h : l.length = 48) (h2 : beN l < pp) : readF l = (Zp.of (beN l), 0) := by unfold readF; rw [if_neg (by omega), if_pos h2]
theorem readF_post {l : List Nat} {x : Fq} {e : Int} (h : readF l = (x, e)) : Value.tuple #[encF x, .int .i64 e] = .tuple #[encF (readF l).1, .int .i64 (readF l).2] := by rw [h]
/-- The i highest words, and noughts. -/
def hiw (N i j : Nat) : Nat := if 6 ≤ i + j then lim N j else 0
theorem hiw_new {N i : Nat} (h : i < 6) : hiw N (i + 1) (5 - i) = lim N (5 - i) := if_pos (by omega)
theorem hiw_old {N i j : Nat} (h : j ≠ 5 - i) (hi : i < 6) : hiw N (i + 1) j = hiw N i j := by
  unfold hiw
  by_cases hj : 6 ≤ i + j
  · rw [if_pos hj, if_pos (by omega)]
  · rw [if_neg hj, if_neg (by omega)]
theorem hiw_all {N : Nat} : ∀ j, hiw N 6 j = lim N j := fun j => if_pos (by omega)
abbrev w6 (f : Nat → Nat) : List Value := [u64 (f 0), u64 (f 1), u64 (f 2), u64 (f 3), u64 (f 4), u64 (f 5)]
theorem put6 {f f' : Nat → Nat} {v i k : Nat} (h : i < 6) (hk : k = i) (hv : f' i = v) (hf : ∀ j, j ≠ i → f' j = f j) : splice k [u64 v] (w6 f) = some (w6 f') := by
  subst hk
  have : k = 0 ∨ k = 1 ∨ k = 2 ∨ k = 3 ∨ k = 4 ∨ k = 5 := by omega
  rcases this with rfl | rfl | rfl | rfl | rfl | rfl
  · show some [u64 v, u64 (f 1), u64 (f 2), u64 (f 3), u64 (f 4), u64 (f 5)] = some (w6 f'); unfold w6; rw [hv, hf 1 (by decide), hf 2 (by decide), hf 3 (by decide), hf 4 (by decide), hf 5 (by decide)]
  · show some [u64 (f 0), u64 v, u64 (f 2), u64 (f 3), u64 (f 4), u64 (f 5)] = some (w6 f'); unfold w6; rw [hv, hf 0 (by decide), hf 2 (by decide), hf 3 (by decide), hf 4 (by decide), hf 5 (by decide)]
  · show some [u64 (f 0), u64 (f 1), u64 v, u64 (f 3), u64 (f 4), u64 (f 5)] = some (w6 f'); unfold w6; rw [hv, hf 0 (by decide), hf 1 (by decide), hf 3 (by decide), hf 4 (by decide), hf 5 (by decide)]
  · show some [u64 (f 0), u64 (f 1), u64 (f 2), u64 v, u64 (f 4), u64 (f 5)] = some (w6 f'); unfold w6; rw [hv, hf 0 (by decide), hf 1 (by decide), hf 2 (by decide), hf 4 (by decide), hf 5 (by decide)]
  · show some [u64 (f 0), u64 (f 1), u64 (f 2), u64 (f 3), u64 v, u64 (f 5)] = some (w6 f'); unfold w6; rw [hv, hf 0 (by decide), hf 1 (by decide), hf 2 (by decide), hf 3 (by decide), hf 5 (by decide)]
  · show some [u64 (f 0), u64 (f 1), u64 (f 2), u64 (f 3), u64 (f 4), u64 v] = some (w6 f'); unfold w6; rw [hv, hf 0 (by decide), hf 1 (by decide), hf 2 (by decide), hf 3 (by decide), hf 4 (by decide)]
theorem w6_all {N : Nat} : w6 (hiw N 6) = w6 (lim N) := by unfold w6; simp only [hiw_all]
theorem z29w : TyZ Tryd.prog 29 (encF 0) (w6 (hiw 0 0)) := ⟨fun _ => by kernel_rfl, by kernel_rfl⟩
theorem beN_R6 {l : List Nat} (h : l.length = 48) (hs : ∀ c ∈ l, c < 256) : beN l < R6 := by
  have := beN_lt hs
  rw [h] at this
  exact Nat.lt_of_lt_of_le this (by decide)
theorem hiw_zero {N : Nat} : w6 (hiw 0 0) = w6 (hiw N 0) := by
  unfold w6 hiw; rfl
theorem Read_call {n : Nat} {w : World} (hn : n < pp) (hG : Blocks (GH T) w) : Vm.Pure Tryd.prog 17 #[.agg (w6 (lim n)).toArray, .agg glo1.toArray] w (encF (Zp.of n)) := by
  have h := Mul_w_ok (X := n) (Y := R66) hn (by decide) hG
  refine h.same (congrArg enc6 ?_)
  unfold mont
  show _ = (n % pp) * R6 % pp
  rw [Nat.mod_mul_mod, Nat.mul_assoc, Nat.mul_mod, show R66 * inv_pp % pp = R6 % pp from by decide +kernel, ← Nat.mul_mod]

theorem en54 : Vm.Enters Tryd.prog 54 := Vm.Enters.of fun _ _ => by kernel_rfl
theorem en55 : Vm.Enters Tryd.prog 55 := Vm.Enters.of fun _ _ => by kernel_rfl
theorem less_ok {m : Nat} (hm : m < R6) {w : World} (hG : Blocks (GH T) w)  : Vm.Pure Tryd.prog 55 #[.agg #[u64 (lim (m) 0), u64 (lim (m) 1), u64 (lim (m) 2), u64 (lim (m) 3), u64 (lim (m) 4), u64 (lim (m) 5)]] w (.bool (decide (m < pp))) := by
  refine pure_of_W (n := 22) (args := [.agg #[u64 (lim (m) 0), u64 (lim (m) 1), u64 (lim (m) 2), u64 (lim (m) 3), u64 (lim (m) 4), u64 (lim (m) 5)]]) Tryd.func55 rfl Tryd.ntmps55 (Nat.le_of_ble_eq_true rfl) hG ?_
  refine sStart ?_
  refine sSeq ?_
  refine W.region ?_
  refine OpsW.fresh (fr_box rfl rfl) rfl fun b1 => ?_
  refine OpsW.det (det_assign rfl) rfl ?_
  refine sNext ?_
  refine W.keep (F' := [(1, _)]) ⟨rfl, trivial⟩ ?_
  refine sSeq ?_
  refine W.region ?_
  refine OpsW.det (det_assign rfl) rfl ?_
  refine sNext ?_
  refine sSeq ?_
  refine sSeq ?_
  refine W.region ?_
  refine OpsW.det (det_move rfl) rfl ?_
  refine sNext ?_
  refine sBlock ?_
  refine sLoop (σ := Nat) (fun i => [(5, .int .i64 (i : Nat)), (3, u64 (bor i m pp)), (1, .pointer (some ⟨b1, 0, none⟩))]) (fun i => [(b1, blk (w6 (lim m)) 27)]) (fun i => i ≤ 6) (fun i => 6 - i) 0 (by decide) ⟨rfl, by rw [bor_0]; rfl, rfl, trivial⟩ (List.Sublist.refl _) ?_
  intro i hi
  refine sSeq ?_
  refine W.region ?_
  refine OpsW.det (det_lss rfl rfl) rfl ?_
  refine sNext ?_
  refine sSeq ?_
  refine W.cond rfl (fun hc6 => ?_) (fun hc6 => ?_)
  · skip
    have hlt : i < 6 := by have h := hc6; simp only [decide_eq_true_eq] at h; omega
    refine sSkip ?_
    refine sSeq ?_
    refine sBlock ?_
    refine sSeq ?_
    refine W.region ?_
    refine OpsW.det (det_move rfl) rfl ?_
    refine OpsW.det (det_assign rfl) rfl ?_
    refine sNext ?_
    refine W.keep (F' := [(4, _), (5, _), (3, _), (1, _)]) ⟨rfl, rfl, rfl, rfl, trivial⟩ ?_
    refine W.draw mixed 11 [[], [0], [0, 1], [], [3], [3, 4], [], [0, 1, 2, 3, 4, 5, 6], [0, 1, 2, 3, 4, 5, 6, 7], [0, 1, 2, 3, 4, 5, 6, 7, 8], [0, 1, 2, 3, 4, 5, 6, 7, 8], [0, 1, 2, 3, 4, 5, 6, 7, 8, 9, 10]] (cl_lt (by decide)) ?_
    refine HeadR.start (cl_lt (by decide)) ?_
    refine HeadR.det rfl (fun β hβ => (det_move rfl)) ?_
    refine HeadR.det rfl (fun β hβ => (det_indexAddr_arr u27 sz26 rfl rfl ⟨by omega, by omega⟩)) ?_
    refine HeadR.det rfl (fun β hβ => (det_loadC ty26 rfl (List.Mem.head _) (at26 (m := m) hlt (by omega)))) ?_
    refine HeadR.det rfl (fun β hβ => (det_move rfl)) ?_
    refine HeadR.det rfl (fun β hβ => (det_indexAddr_arr u27 sz26 rfl rfl ⟨by omega, by omega⟩)) ?_
    refine HeadR.det rfl (fun β hβ => (det_loadC_ro ty26 rfl (List.Mem.tail _ (List.Mem.head _)) (at26 (m := pp) hlt (by omega)))) ?_
    refine HeadR.det rfl (fun β hβ => (det_move rfl)) ?_
    refine HeadR.det rfl (fun β hβ => ((det_extern rfl (run_Sub64 (lim m i) (lim pp i) (bor i m pp) (bor_le _ _ _))).to (v := .tuple #[u64 ((lim m i + 18446744073709551616 - lim pp i - bor i m pp) % 18446744073709551616), u64 (bor (i + 1) m pp)]) (by rw [bor_step]))) ?_
    refine HeadR.det rfl (fun β hβ => (det_move rfl)) ?_
    refine HeadR.det rfl (fun β hβ => (det_extract rfl rfl)) ?_
    refine HeadR.det rfl (fun β hβ => (det_extract rfl rfl)) ?_
    refine HeadR.done ⟨by kernel_rfl, fun β hβ => ?_⟩
    refine OpsW.norm (F' := [(9, _), (10, _), (11, _), (12, _), (13, _), (14, _), (15, _), (16, _), (8, _), (17, _), (18, _), (4, _), (5, _), (3, _), (1, _)]) (H' := [(_, _)]) rfl rfl ?_
    refine OpsW.det (det_assign rfl) rfl ?_
    refine sLast ?_
    refine bNext ?_
    refine W.keep (F' := [(3, _), (5, _), (1, _)]) ⟨rfl, rfl, rfl, trivial⟩ ?_
    refine W.region ?_
    refine OpsW.det (det_addN (b := 1) rfl rfl (idx_ok hlt (by decide))) rfl ?_
    refine OpsW.det (det_move rfl) rfl ?_
    refine sLast ?_
    exact rEnd (i + 1) hlt ⟨rfl, rfl, rfl, trivial⟩ (List.Sublist.refl _) (step_lt hlt)
  · skip
    have hi6 : i = 6 := by have h := hc6; simp only [decide_eq_false_iff_not] at h; omega
    subst hi6
    refine sExit ?_
    refine xLoop ?_
    refine xHere ?_
    refine W.keep (F' := [(3, _)]) ⟨rfl, trivial⟩ ?_
    refine sSeq ?_
    refine W.region ?_
    refine OpsW.det (det_move rfl) rfl ?_
    refine OpsW.det (det_eql rfl rfl) rfl ?_
    refine OpsW.det (det_assign rfl) rfl ?_
    refine sNext ?_
    refine W.keep (F' := [(2, _)]) ⟨rfl, trivial⟩ ?_
    refine sRet ?_
    exact done1 Tryd.results55 (rv_tmp rfl) (congrArg Value.bool (bor_6 hm))
theorem read_at {l : List Nat} {i o : Nat} {cs : List Value} (h48 : l.length = 48) (hi : i < 6) (hcs : ∀ j (h : j < l.length), cs[o + j]? = some (u8 l[j])) : ∀ j (h : j < ((l.drop (8 * i)).take 8).length), cs[o + 8 * i + j]? = some (u8 ((l.drop (8 * i)).take 8)[j]) := fun j h => by
  have hj : j < 8 := by have h := h; simp at h; omega
  rw [Nat.add_assoc, hcs (8 * i + j) (by omega)]
  simp
theorem Read_ok {G' : Hp} {v : Value} {l : List Nat} (hB : Bs G' v l) {w : World} (hG : Blocks (G' ++ GH T) w)  : Vm.Pure Tryd.prog 15 #[v] w (.tuple #[encF (readF l).1, .int .i64 (readF l).2]) := by
  obtain ⟨ad, cap, hvv⟩ := hB.shape
  refine pure_of_W (n := 32) (args := [v]) Tryd.func15 rfl Tryd.ntmps15 (Nat.le_of_ble_eq_true rfl) hG ?_
  refine sStart ?_
  refine sSeq ?_
  subst hvv
  refine W.region ?_
  refine OpsW.fresh (fr_alloc z29) rfl fun b2 => ?_
  refine OpsW.det (det_assign rfl) rfl ?_
  refine sNext ?_
  refine W.keep (F' := [(2, _), (0, _)]) ⟨rfl, rfl, trivial⟩ ?_
  refine sSeq ?_
  refine sSeq ?_
  refine W.region ?_
  refine OpsW.det (det_move rfl) rfl ?_
  refine OpsW.det (det_len u22 rfl) rfl ?_
  refine OpsW.det (det_neq rfl rfl) rfl ?_
  refine sNext ?_
  refine W.keep (F' := [(8, _), (2, _), (0, _)]) ⟨rfl, rfl, rfl, trivial⟩ ?_
  refine W.cond rfl (fun hc8 => ?_) (fun hc8 => ?_)
  · skip
    have hne : l.length ≠ 48 := by have h := hc8; simp at h; omega
    refine sSeq ?_
    refine W.region ?_
    refine OpsW.det (det_zero bz29) rfl ?_
    refine OpsW.store sz29 rfl rfl rfl rfl rfl (Upd.here) rfl ?_
    refine OpsW.det (det_assign rfl) rfl ?_
    refine sNext ?_
    refine W.keep (F' := [(3, _), (2, _)]) ⟨rfl, rfl, trivial⟩ ?_
    refine sRet ?_
    exact done2 Tryd.results15 (rv_cellA ty29 rfl (List.Mem.head _) rfl) (rv_tmp rfl) (readF_post (readF_len hne))
  · skip
    have h48 : l.length = 48 := by have h := hc8; simp at h; omega
    obtain ⟨bk, o, cap', cs, e, fr, hv, hm, hcap, hcs⟩ := hB.all (by omega)
    simp only [Value.slice.injEq] at hv
    obtain ⟨rfl, _, rfl⟩ := hv
    skip
    refine sSkip ?_
    refine sSeq ?_
    refine W.region ?_
    refine OpsW.fresh (fr_alloc z29w) rfl fun b4 => ?_
    refine sNext ?_
    refine W.keep (F' := [(4, _), (2, _), (0, _)]) ⟨rfl, rfl, rfl, trivial⟩ ?_
    refine sSeq ?_
    refine sSeq ?_
    refine W.region ?_
    refine OpsW.det (det_move rfl) rfl ?_
    refine sNext ?_
    refine sBlock ?_
    refine sLoop (σ := Nat) (fun i => [(10, .int .i64 (i : Nat)), (4, .pointer (some ⟨b4, 0, none⟩)), (2, .pointer (some ⟨b2, 0, none⟩)), (0, .slice (some ⟨bk, o, none⟩) l.length cap)]) (fun i => [(b4, blk (w6 (hiw (beN l) i)) 29), (b2, blk [.int .u64 0, .int .u64 0, .int .u64 0, .int .u64 0, .int .u64 0, .int .u64 0] 29)]) (fun i => i ≤ 6) (fun i => 6 - i) 0 (by decide) ⟨rfl, rfl, rfl, rfl, trivial⟩ (by rw [← hiw_zero]; exact List.Sublist.refl _) ?_
    intro i hi
    refine sSeq ?_
    refine W.region ?_
    refine OpsW.det (det_lss rfl rfl) rfl ?_
    refine sNext ?_
    refine sSeq ?_
    refine W.cond rfl (fun hc11 => ?_) (fun hc11 => ?_)
    · skip
      have hlt : i < 6 := by have h := hc11; simp only [decide_eq_true_eq] at h; omega
      refine sSkip ?_
      refine sSeq ?_
      refine sBlock ?_
      refine sSeq ?_
      refine W.region ?_
      refine OpsW.det (det_move rfl) rfl ?_
      refine OpsW.det (det_assign rfl) rfl ?_
      refine sNext ?_
      refine W.keep (F' := [(5, _), (10, _), (4, _), (2, _), (0, _)]) ⟨rfl, rfl, rfl, rfl, rfl, trivial⟩ ?_
      refine W.region ?_
      refine OpsW.det (det_move rfl) rfl ?_
      refine OpsW.det (det_subZ (c := ((5 - i : Nat) : Int)) rfl rfl (by omega) (by omega)) rfl ?_
      refine OpsW.det (det_move rfl) rfl ?_
      refine OpsW.det (det_move rfl) rfl ?_
      refine OpsW.det ((det_mul rfl rfl).to (v := .int .i64 ((8 * i : Nat) : Int)) (by rw [wrap_i64 (by omega)]; congr 1)) rfl ?_
      refine OpsW.det ((det_slice (lo := some (.tmp 17)) (hi := none) (l := 8 * i) (h := l.length) u22 sz5 rfl ⟨_, rfl⟩ rfl (by omega) (by omega) (by omega)).to (v := .slice (some ⟨bk, o + 8 * i, none⟩) (l.length - 8 * i) (cap - 8 * i)) (by rw [if_neg (by omega), Nat.mul_one])) rfl ?_
      refine OpsW.det ((det_call en54 rfl (fun w hb ho => get_ok (G' := G') (l := (l.drop (8 * i)).take 8) (by simp; omega) (fun c hc => hB.small _ (List.mem_of_mem_drop (List.mem_of_mem_take hc))) (by omega) hm (read_at h48 hlt hcs) ho.blocks)).to (congrArg u64 (beN_word h48 hB.small hlt))) rfl ?_
      refine OpsW.det (det_fieldAddr fl29_0 rfl) rfl ?_
      refine OpsW.det (det_indexAddr_arr u27 sz26 rfl rfl ⟨by omega, by omega⟩) rfl ?_
      refine OpsW.store sz26 rfl rfl rfl rfl rfl (Upd.here) (put6 (f' := hiw (beN l) (i + 1)) (by omega) (by omega) (hiw_new hlt) fun j hj => hiw_old hj hlt) ?_
      refine sLast ?_
      refine bNext ?_
      refine W.keep (F' := [(10, _), (4, _), (2, _), (0, _)]) ⟨rfl, rfl, rfl, rfl, trivial⟩ ?_
      refine W.region ?_
      refine OpsW.det (det_addN (b := 1) rfl rfl (idx_ok hlt (by decide))) rfl ?_
      refine OpsW.det (det_move rfl) rfl ?_
      refine sLast ?_
      exact rEnd (i + 1) hlt ⟨rfl, rfl, rfl, rfl, trivial⟩ (List.Sublist.refl _) (step_lt hlt)
    · skip
      have hi6 : i = 6 := by have h := hc11; simp only [decide_eq_false_iff_not] at h; omega
      subst hi6
      refine sExit ?_
      refine xLoop ?_
      refine xHere ?_
      refine W.keep (F' := [(4, _), (2, _)]) ⟨rfl, rfl, trivial⟩ ?_
      refine sSeq ?_
      refine sSeq ?_
      refine W.region ?_
      refine OpsW.det (det_fieldAddr fl29_0 rfl) rfl ?_
      refine OpsW.det (det_loadA ty27 rfl (List.Mem.head _) rfl) rfl ?_
      refine OpsW.det (det_call en55 rfl (fun w hb ho => less_ok (m := beN l) (beN_R6 h48 hB.small) (fun p hp => ho.look (List.mem_append_right _ hp)))) rfl ?_
      refine OpsW.det (det_not rfl) rfl ?_
      refine sNext ?_
      refine W.keep (F' := [(26, _), (4, _), (2, _)]) ⟨rfl, rfl, rfl, trivial⟩ ?_
      refine W.cond rfl (fun hc26 => ?_) (fun hc26 => ?_)
      · skip
        have hlp : ¬ beN l < pp := by have h := hc26; simp at h; omega
        refine sSeq ?_
        refine W.region ?_
        refine OpsW.det (det_zero bz29) rfl ?_
        refine OpsW.store sz29 rfl rfl rfl rfl rfl (Upd.there (Upd.here)) rfl ?_
        refine OpsW.det (det_assign rfl) rfl ?_
        refine sNext ?_
        refine W.keep (F' := [(3, _), (2, _)]) ⟨rfl, rfl, trivial⟩ ?_
        refine sRet ?_
        exact done2 Tryd.results15 (rv_cellA ty29 rfl (List.Mem.tail _ (List.Mem.head _)) rfl) (rv_tmp rfl) (readF_post (readF_no h48 hlp))
      · skip
        have hlp : beN l < pp := by have h := hc26; simp at h; omega
        refine sSkip ?_
        refine sSeq ?_
        refine W.region ?_
        refine OpsW.det (det_loadA ty29 rfl (List.Mem.head _) rfl) rfl ?_
        refine OpsW.det (det_loadA_ro ty27 rfl (List.mem_append_right _ (List.Mem.head _)) rfl) rfl ?_
        refine OpsW.det (det_build rfl bld29) rfl ?_
        refine OpsW.det (det_call en17 rfl (fun w hb ho => Read_call hlp (fun p hp => ho.look (List.mem_append_right _ hp)))) rfl ?_
        refine OpsW.store sz29 rfl rfl rfl rfl rfl (Upd.there (Upd.here)) rfl ?_
        refine OpsW.det (det_assign rfl) rfl ?_
        refine sNext ?_
        refine W.keep (F' := [(3, _), (2, _)]) ⟨rfl, rfl, trivial⟩ ?_
        refine sRet ?_
        exact done2 Tryd.results15 (rv_cellA ty29 rfl (List.Mem.tail _ (List.Mem.head _)) rfl) (rv_tmp rfl) (readF_post (readF_yes h48 hlp))

end Go.Cu
