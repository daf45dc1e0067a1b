/-
  Setups: numbers that rise, lists that are alike: the walks. Conditions: as many as memory has.
-/
import Derived.Test.YtndonmbemehefaaDoorCf1
import Derived.Test.YtndonmbemehefaaDoorInts
namespace Go.Cu
open Go Go.Vm Go.RowKit Go.Proofs 
attribute [local irreducible] W OpsW Det Fresh New Writes Vm.Pure Makes Changes ExternTo BuildTo ZeroTo FieldTo IndexTo BinTo SliceTo Vm.Enters
set_option linter.unusedVariables false
set_option linter.unusedSimpArgs false
variable {T : Nat → TypeId × Nat × Nat}

/-- Numbers that rise from 1 to 9. -/
def setFrom : Int → List Int → Bool
  | last, [] => decide (0 < last)
  | last, x :: r => if x ≤ last then false else if 9 < x then false else setFrom x r
def setB (l : List Int) : Bool := setFrom 0 l
theorem set_low {l : List Int} {last : Int} {i : Nat} (h : i < l.length) (hI : setB l = setFrom last (l.drop i)) (hc : decide (l[i] ≤ last) = true) : (false : Bool) = setB l := by
  rw [hI, List.drop_eq_getElem_cons h, setFrom, if_pos (of_decide_eq_true hc)]
theorem set_high {l : List Int} {last : Int} {i : Nat} (h : i < l.length) (hI : setB l = setFrom last (l.drop i)) (hc : decide (l[i] ≤ last) = false) (hc2 : decide (9 < l[i]) = true) : (false : Bool) = setB l := by
  rw [hI, List.drop_eq_getElem_cons h, setFrom, if_neg (of_decide_eq_false hc), if_pos (of_decide_eq_true hc2)]
theorem set_step {l : List Int} {last : Int} {i : Nat} (h : i < l.length) (hI : setB l = setFrom last (l.drop i)) (hc : decide (l[i] ≤ last) = false) (hc2 : decide (9 < l[i]) = false) : setB l = setFrom l[i] (l.drop (i + 1)) := by
  rw [hI, List.drop_eq_getElem_cons h, setFrom, if_neg (of_decide_eq_false hc), if_neg (of_decide_eq_false hc2)]
theorem set_end {l : List Int} {last : Int} (hI : setB l = setFrom last (l.drop l.length)) : decide (0 < last) = setB l := by
  rw [hI, List.drop_length, setFrom]
theorem take_step {α : Type} {l1 l2 : List α} {i : Nat} (h1 : i < l1.length) (h2 : i < l2.length) (h : l1.take i = l2.take i) (he : l1[i] = l2[i]) : l1.take (i + 1) = l2.take (i + 1) := by
  rw [List.take_succ_eq_append_getElem h1, List.take_succ_eq_append_getElem h2, h, he]
theorem tc3 : TyC Tryd.prog 3 := ⟨by kernel_rfl, by kernel_rfl⟩
theorem cell_i {cs : List Value} {o i : Nat} {v : Value} (h : cs[o + i]? = some v) : cs[o + ((i : Nat) : Int).toNat * 1]? = some v := by rw [Int.toNat_natCast, Nat.mul_one]; exact h


theorem dset_ok {G' : Hp} {v : Value} {l : List Int} (hB : Ints G' v l) (hlen : l.length ≤ 9223372036854775806) {w : World} (hG : Blocks (G' ++ GH T) w)  : Vm.Pure Tryd.prog 77 #[v] w (.bool (setB l)) := by
  obtain ⟨ad, cap, hvv⟩ := hB.shape
  refine pure_of_W (n := 23) (args := [v]) Tryd.func77 rfl Tryd.ntmps77 (Nat.le_of_ble_eq_true rfl) hG ?_
  refine sStart ?_
  refine sSeq ?_
  subst hvv
  refine W.region ?_
  refine OpsW.det (det_assign rfl) rfl ?_
  refine sNext ?_
  refine W.keep (F' := [(0, _)]) ⟨rfl, trivial⟩ ?_
  refine sSeq ?_
  refine W.region ?_
  refine OpsW.det (det_assign rfl) rfl ?_
  refine sNext ?_
  refine sSeq ?_
  refine sSeq ?_
  refine W.region ?_
  refine OpsW.det (det_move rfl) rfl ?_
  refine OpsW.det (det_len u76 rfl) rfl ?_
  refine OpsW.det (det_move rfl) rfl ?_
  refine sNext ?_
  refine W.keep (F' := [(8, _), (7, _), (6, _), (3, _)]) ⟨rfl, rfl, rfl, rfl, trivial⟩ ?_
  refine sBlock ?_
  refine sLoop (σ := Nat × Int) (fun s => [(8, .int .i64 (s.1 : Nat)), (7, .int .i64 (l.length : Nat)), (6, .slice ad l.length cap), (3, .int .i64 s.2)]) (fun s => []) (fun s => s.1 ≤ l.length ∧ setB l = setFrom s.2 (l.drop s.1)) (fun s => l.length - s.1) (0, 0) ⟨Nat.zero_le _, rfl⟩ ⟨rfl, rfl, rfl, rfl, trivial⟩ (List.nil_sublist _) ?_
  rintro ⟨i, last⟩ ⟨hi, hI⟩
  change i ≤ l.length at hi
  change setB l = setFrom last (l.drop i) at hI
  refine W.norm (F' := [(8, .int .i64 (i : Nat)), (7, .int .i64 (l.length : Nat)), (6, .slice ad l.length cap), (3, .int .i64 last)]) (H' := []) rfl rfl ?_
  refine sSeq ?_
  refine W.region ?_
  refine OpsW.det (det_lss rfl rfl) rfl ?_
  refine sNext ?_
  refine sSeq ?_
  refine W.cond rfl (fun hc9 => ?_) (fun hc9 => ?_)
  · skip
    have hlt : i < l.length := by have h := hc9; simp only [decide_eq_true_eq] at h; omega
    obtain ⟨bk, o, cap', cs, e, fr, hv, hm, hcell⟩ := hB.all (Nat.lt_of_le_of_lt (Nat.zero_le _) hlt)
    simp only [Value.slice.injEq] at hv
    obtain ⟨rfl, _, rfl⟩ := hv
    refine sSkip ?_
    refine sSeq ?_
    refine sBlock ?_
    refine sSeq ?_
    refine W.region ?_
    refine OpsW.det (det_indexAddr_sl u76 sz3 rfl rfl ⟨by omega, by omega⟩) rfl ?_
    refine OpsW.det (det_loadC_ro tc3 rfl (List.mem_append_left _ hm) (cell_i (hcell i hlt))) rfl ?_
    refine OpsW.det (det_assign rfl) rfl ?_
    refine sNext ?_
    refine W.keep (F' := [(5, _), (8, _), (7, _), (6, _), (3, _)]) ⟨rfl, rfl, rfl, rfl, rfl, trivial⟩ ?_
    refine sSeq ?_
    refine sSeq ?_
    refine W.region ?_
    refine OpsW.det (det_move rfl) rfl ?_
    refine OpsW.det (det_move rfl) rfl ?_
    refine OpsW.test (det_leq rfl rfl) rfl (fun hc14 => ?_) (fun hc14 => ?_)
    · skip
      refine OpsW.det (det_move rfl) rfl ?_
      refine OpsW.guard_no rfl rfl rfl ?_
      refine OpsW.guard_no rfl rfl rfl ?_
      refine OpsW.det (det_pick rfl rfl) rfl ?_
      refine sNext ?_
      refine W.keep (F' := [(18, _), (5, _), (8, _), (7, _), (6, _)]) ⟨rfl, rfl, rfl, rfl, rfl, trivial⟩ ?_
      refine W.cond_true rfl ?_
      refine sSeq ?_
      refine W.region ?_
      refine OpsW.det (det_assign rfl) rfl ?_
      refine sNext ?_
      refine W.keep (F' := [(2, _)]) ⟨rfl, trivial⟩ ?_
      refine sRet ?_
      refine retBlk ?_
      refine retLoop ?_
      refine retBlk ?_
      exact done1 Tryd.results77 (rv_tmp rfl) (congrArg Value.bool (set_low hlt hI hc14))
    · skip
      refine OpsW.det (det_move rfl) rfl ?_
      refine OpsW.guard_yes rfl rfl ?_
      refine OpsW.det (det_move rfl) rfl ?_
      refine OpsW.guard_yes rfl rfl ?_
      refine OpsW.det (det_gtr rfl rfl) rfl ?_
      refine OpsW.det (det_pick rfl rfl) rfl ?_
      refine sNext ?_
      refine W.keep (F' := [(18, _), (5, _), (8, _), (7, _), (6, _)]) ⟨rfl, rfl, rfl, rfl, rfl, trivial⟩ ?_
      refine W.cond rfl (fun hc18 => ?_) (fun hc18 => ?_)
      · skip
        refine sSeq ?_
        refine W.region ?_
        refine OpsW.det (det_assign rfl) rfl ?_
        refine sNext ?_
        refine W.keep (F' := [(2, _)]) ⟨rfl, trivial⟩ ?_
        refine sRet ?_
        refine retBlk ?_
        refine retLoop ?_
        refine retBlk ?_
        exact done1 Tryd.results77 (rv_tmp rfl) (congrArg Value.bool (set_high hlt hI hc14 hc18))
      · skip
        refine sSkip ?_
        refine W.region ?_
        refine OpsW.det (det_move rfl) rfl ?_
        refine OpsW.det (det_assign rfl) rfl ?_
        refine sLast ?_
        refine bNext ?_
        refine W.keep (F' := [(3, _), (8, _), (7, _), (6, _)]) ⟨rfl, rfl, rfl, rfl, trivial⟩ ?_
        refine W.region ?_
        refine OpsW.det (det_addN (b := 1) rfl rfl (by omega)) rfl ?_
        refine OpsW.det (det_move rfl) rfl ?_
        refine sLast ?_
        exact rEnd (i + 1, l[i]) ⟨hlt, set_step hlt hI hc14 hc18⟩ ⟨rfl, rfl, rfl, rfl, trivial⟩ (List.nil_sublist _) (step_lt hlt)
  · skip
    have hi4 : i = l.length := by have h := hc9; simp only [decide_eq_false_iff_not] at h; omega
    subst hi4
    refine sExit ?_
    refine xLoop ?_
    refine xHere ?_
    refine W.keep (F' := [(3, _)]) ⟨rfl, trivial⟩ ?_
    refine sSeq ?_
    refine W.region ?_
    refine OpsW.det (det_move rfl) rfl ?_
    refine OpsW.det (det_gtr rfl rfl) rfl ?_
    refine OpsW.det (det_assign rfl) rfl ?_
    refine sNext ?_
    refine W.keep (F' := [(2, _)]) ⟨rfl, trivial⟩ ?_
    refine sRet ?_
    exact done1 Tryd.results77 (rv_tmp rfl) (congrArg Value.bool (set_end hI))
theorem rising_ok {G' : Hp} {v : Value} {l : List Int} (hB : Ints G' v l) (hlen : l.length ≤ 9223372036854775806) {w : World} (hG : Blocks (G' ++ GH T) w)  : Vm.Pure Tryd.prog 50 #[v] w (.bool (setB l)) := by
  obtain ⟨ad, cap, hvv⟩ := hB.shape
  refine pure_of_W (n := 30) (args := [v]) Tryd.func50 rfl Tryd.ntmps50 (Nat.le_of_ble_eq_true rfl) hG ?_
  refine sStart ?_
  refine sSeq ?_
  subst hvv
  refine W.region ?_
  refine OpsW.det (det_assign rfl) rfl ?_
  refine sNext ?_
  refine W.keep (F' := [(0, _)]) ⟨rfl, trivial⟩ ?_
  refine sSeq ?_
  refine W.region ?_
  refine OpsW.det (det_assign rfl) rfl ?_
  refine sNext ?_
  refine sSeq ?_
  refine sSeq ?_
  refine W.region ?_
  refine OpsW.det (det_move rfl) rfl ?_
  refine OpsW.det (det_len u76 rfl) rfl ?_
  refine OpsW.det (det_move rfl) rfl ?_
  refine sNext ?_
  refine W.keep (F' := [(7, _), (6, _), (3, _), (0, _)]) ⟨rfl, rfl, rfl, rfl, trivial⟩ ?_
  refine sBlock ?_
  refine sLoop (σ := Nat × Int) (fun s => [(7, .int .i64 (s.1 : Nat)), (6, .int .i64 (l.length : Nat)), (0, .slice ad l.length cap), (3, .int .i64 s.2)]) (fun s => []) (fun s => s.1 ≤ l.length ∧ setB l = setFrom s.2 (l.drop s.1)) (fun s => l.length - s.1) (0, 0) ⟨Nat.zero_le _, rfl⟩ ⟨rfl, rfl, rfl, rfl, trivial⟩ (List.nil_sublist _) ?_
  rintro ⟨i, last⟩ ⟨hi, hI⟩
  change i ≤ l.length at hi
  change setB l = setFrom last (l.drop i) at hI
  refine W.norm (F' := [(7, .int .i64 (i : Nat)), (6, .int .i64 (l.length : Nat)), (0, .slice ad l.length cap), (3, .int .i64 last)]) (H' := []) rfl rfl ?_
  refine sSeq ?_
  refine W.region ?_
  refine OpsW.det (det_lss rfl rfl) rfl ?_
  refine sNext ?_
  refine sSeq ?_
  refine W.cond rfl (fun hc8 => ?_) (fun hc8 => ?_)
  · skip
    have hlt : i < l.length := by have h := hc8; simp only [decide_eq_true_eq] at h; omega
    obtain ⟨bk, o, cap', cs, e, fr, hv, hm, hcell⟩ := hB.all (Nat.lt_of_le_of_lt (Nat.zero_le _) hlt)
    simp only [Value.slice.injEq] at hv
    obtain ⟨rfl, _, rfl⟩ := hv
    refine sSkip ?_
    refine sSeq ?_
    refine sBlock ?_
    refine sSeq ?_
    refine W.region ?_
    refine OpsW.det (det_move rfl) rfl ?_
    refine OpsW.det (det_assign rfl) rfl ?_
    refine sNext ?_
    refine W.keep (F' := [(4, _), (7, _), (6, _), (0, _), (3, _)]) ⟨rfl, rfl, rfl, rfl, rfl, trivial⟩ ?_
    refine sSeq ?_
    refine sSeq ?_
    refine W.region ?_
    refine OpsW.det (det_move rfl) rfl ?_
    refine OpsW.det (det_move rfl) rfl ?_
    refine OpsW.det (det_indexAddr_sl u76 sz3 rfl rfl ⟨by omega, by omega⟩) rfl ?_
    refine OpsW.det (det_loadC_ro tc3 rfl (List.mem_append_left _ hm) (cell_i (hcell i hlt))) rfl ?_
    refine OpsW.det (det_move rfl) rfl ?_
    refine OpsW.test (det_leq rfl rfl) rfl (fun hc15 => ?_) (fun hc15 => ?_)
    · skip
      refine OpsW.det (det_move rfl) rfl ?_
      refine OpsW.guard_no rfl rfl rfl ?_
      refine OpsW.guard_no rfl rfl rfl ?_
      refine OpsW.guard_no rfl rfl rfl ?_
      refine OpsW.guard_no rfl rfl rfl ?_
      refine OpsW.guard_no rfl rfl rfl ?_
      refine OpsW.det (det_pick rfl rfl) rfl ?_
      refine sNext ?_
      refine W.keep (F' := [(22, _), (4, _), (7, _), (6, _), (0, _)]) ⟨rfl, rfl, rfl, rfl, rfl, trivial⟩ ?_
      refine W.cond_true rfl ?_
      refine sSeq ?_
      refine W.region ?_
      refine OpsW.det (det_assign rfl) rfl ?_
      refine sNext ?_
      refine W.keep (F' := [(2, _)]) ⟨rfl, trivial⟩ ?_
      refine sRet ?_
      refine retBlk ?_
      refine retLoop ?_
      refine retBlk ?_
      exact done1 Tryd.results50 (rv_tmp rfl) (congrArg Value.bool (set_low hlt hI hc15))
    · skip
      refine OpsW.det (det_move rfl) rfl ?_
      refine OpsW.guard_yes rfl rfl ?_
      refine OpsW.det (det_move rfl) rfl ?_
      refine OpsW.guard_yes rfl rfl ?_
      refine OpsW.det (det_move rfl) rfl ?_
      refine OpsW.guard_yes rfl rfl ?_
      refine OpsW.det (det_indexAddr_sl u76 sz3 rfl rfl ⟨by omega, by omega⟩) rfl ?_
      refine OpsW.guard_yes rfl rfl ?_
      refine OpsW.det (det_loadC_ro tc3 rfl (List.mem_append_left _ hm) (cell_i (hcell i hlt))) rfl ?_
      refine OpsW.guard_yes rfl rfl ?_
      refine OpsW.det (det_gtr rfl rfl) rfl ?_
      refine OpsW.det (det_pick rfl rfl) rfl ?_
      refine sNext ?_
      refine W.keep (F' := [(22, _), (4, _), (7, _), (6, _), (0, _)]) ⟨rfl, rfl, rfl, rfl, rfl, trivial⟩ ?_
      refine W.cond rfl (fun hc22 => ?_) (fun hc22 => ?_)
      · skip
        refine sSeq ?_
        refine W.region ?_
        refine OpsW.det (det_assign rfl) rfl ?_
        refine sNext ?_
        refine W.keep (F' := [(2, _)]) ⟨rfl, trivial⟩ ?_
        refine sRet ?_
        refine retBlk ?_
        refine retLoop ?_
        refine retBlk ?_
        exact done1 Tryd.results50 (rv_tmp rfl) (congrArg Value.bool (set_high hlt hI hc15 hc22))
      · skip
        refine sSkip ?_
        refine W.region ?_
        refine OpsW.det (det_move rfl) rfl ?_
        refine OpsW.det (det_move rfl) rfl ?_
        refine OpsW.det (det_indexAddr_sl u76 sz3 rfl rfl ⟨by omega, by omega⟩) rfl ?_
        refine OpsW.det (det_loadC_ro tc3 rfl (List.mem_append_left _ hm) (cell_i (hcell i hlt))) rfl ?_
        refine OpsW.det (det_assign rfl) rfl ?_
        refine sLast ?_
        refine bNext ?_
        refine W.keep (F' := [(3, _), (7, _), (6, _), (0, _)]) ⟨rfl, rfl, rfl, rfl, trivial⟩ ?_
        refine W.region ?_
        refine OpsW.det (det_addN (b := 1) rfl rfl (by omega)) rfl ?_
        refine OpsW.det (det_move rfl) rfl ?_
        refine sLast ?_
        exact rEnd (i + 1, l[i]) ⟨hlt, set_step hlt hI hc15 hc22⟩ ⟨rfl, rfl, rfl, rfl, trivial⟩ (List.nil_sublist _) (step_lt hlt)
  · skip
    have hi4 : i = l.length := by have h := hc8; simp only [decide_eq_false_iff_not] at h; omega
    subst hi4
    refine sExit ?_
    refine xLoop ?_
    refine xHere ?_
    refine W.keep (F' := [(3, _)]) ⟨rfl, trivial⟩ ?_
    refine sSeq ?_
    refine W.region ?_
    refine OpsW.det (det_move rfl) rfl ?_
    refine OpsW.det (det_gtr rfl rfl) rfl ?_
    refine OpsW.det (det_assign rfl) rfl ?_
    refine sNext ?_
    refine W.keep (F' := [(2, _)]) ⟨rfl, trivial⟩ ?_
    refine sRet ?_
    exact done1 Tryd.results50 (rv_tmp rfl) (congrArg Value.bool (set_end hI))
theorem equal_ok {G' : Hp} {v v2 : Value} {l l2 : List Int} (hB : Ints G' v l) (hB2 : Ints G' v2 l2) (hlen : l.length ≤ 9223372036854775806) {w : World} (hG : Blocks (G' ++ GH T) w)  : Vm.Pure Tryd.prog 78 #[v, v2] w (.bool (decide (l = l2))) := by
  obtain ⟨ad, cap, hvv⟩ := hB.shape
  obtain ⟨ad2, cap2, hvv2⟩ := hB2.shape
  refine pure_of_W (n := 26) (args := [v, v2]) Tryd.func78 rfl Tryd.ntmps78 (Nat.le_of_ble_eq_true rfl) hG ?_
  refine sStart ?_
  refine sSeq ?_
  subst hvv
  subst hvv2
  refine W.region ?_
  refine OpsW.det (det_assign rfl) rfl ?_
  refine sNext ?_
  refine W.keep (F' := [(0, _), (1, _)]) ⟨rfl, rfl, trivial⟩ ?_
  refine sSeq ?_
  refine sSeq ?_
  refine W.region ?_
  refine OpsW.det (det_move rfl) rfl ?_
  refine OpsW.det (det_len u76 rfl) rfl ?_
  refine OpsW.det (det_move rfl) rfl ?_
  refine OpsW.det (det_len u76 rfl) rfl ?_
  refine OpsW.det (det_neq (a := (l.length : Int)) (b := (l2.length : Int)) rfl rfl) rfl ?_
  refine sNext ?_
  refine W.keep (F' := [(10, _), (0, _), (1, _)]) ⟨rfl, rfl, rfl, trivial⟩ ?_
  refine W.cond rfl (fun hc10 => ?_) (fun hc10 => ?_)
  · skip
    have hne : l.length ≠ l2.length := fun h2 => by have h := hc10; rw [h2] at h; simp at h
    refine sSeq ?_
    refine W.region ?_
    refine OpsW.det (det_assign rfl) rfl ?_
    refine sNext ?_
    refine W.keep (F' := [(4, _)]) ⟨rfl, trivial⟩ ?_
    refine sRet ?_
    exact done1 Tryd.results78 (rv_tmp rfl) (congrArg Value.bool (decide_eq_false (fun h => hne (by rw [h]))).symm)
  · skip
    have hll : l.length = l2.length := by have h := hc10; simp at h; omega
    refine sSkip ?_
    refine sSeq ?_
    refine sSeq ?_
    refine W.region ?_
    refine OpsW.det (det_move rfl) rfl ?_
    refine OpsW.det (det_len u76 rfl) rfl ?_
    refine OpsW.det (det_move rfl) rfl ?_
    refine sNext ?_
    refine W.keep (F' := [(13, _), (12, _), (0, _), (1, _)]) ⟨rfl, rfl, rfl, rfl, trivial⟩ ?_
    refine sBlock ?_
    refine sLoop (σ := Nat) (fun i => [(13, .int .i64 (i : Nat)), (12, .int .i64 (l.length : Nat)), (0, .slice ad l.length cap), (1, .slice ad2 l2.length cap2)]) (fun i => []) (fun i => i ≤ l.length ∧ l.take i = l2.take i) (fun i => l.length - i) 0 ⟨Nat.zero_le _, rfl⟩ ⟨rfl, rfl, rfl, rfl, trivial⟩ (List.nil_sublist _) ?_
    rintro i ⟨hi, hI⟩
    refine sSeq ?_
    refine W.region ?_
    refine OpsW.det (det_lss rfl rfl) rfl ?_
    refine sNext ?_
    refine sSeq ?_
    refine W.cond rfl (fun hc14 => ?_) (fun hc14 => ?_)
    · skip
      have hlt : i < l.length := by have h := hc14; simp only [decide_eq_true_eq] at h; omega
      have hlt2 : i < l2.length := by omega
      obtain ⟨bk, o, cap', cs, e, fr, hv, hm, hcell⟩ := hB.all (Nat.lt_of_le_of_lt (Nat.zero_le _) hlt)
      simp only [Value.slice.injEq] at hv
      obtain ⟨rfl, _, rfl⟩ := hv
      obtain ⟨bk2, o2, cap2', cs2, e2, fr2, hv2, hm2, hcell2⟩ := hB2.all (Nat.lt_of_le_of_lt (Nat.zero_le _) hlt2)
      simp only [Value.slice.injEq] at hv2
      obtain ⟨rfl, _, rfl⟩ := hv2
      refine sSkip ?_
      refine sSeq ?_
      refine sBlock ?_
      refine sSeq ?_
      refine W.region ?_
      refine OpsW.det (det_move rfl) rfl ?_
      refine OpsW.det (det_assign rfl) rfl ?_
      refine sNext ?_
      refine W.keep (F' := [(5, _), (13, _), (12, _), (0, _), (1, _)]) ⟨rfl, rfl, rfl, rfl, rfl, trivial⟩ ?_
      refine sSeq ?_
      refine W.draw mixed 9 [[], [], [0, 1], [0, 1, 2], [], [], [4, 5], [4, 5, 6], [0, 1, 2, 3, 4, 5, 6, 7]] (cl_lt (by decide)) ?_
      refine HeadR.start (cl_lt (by decide)) ?_
      refine HeadR.det rfl (fun β hβ => (det_move rfl)) ?_
      refine HeadR.det rfl (fun β hβ => (det_move rfl)) ?_
      refine HeadR.det rfl (fun β hβ => (det_indexAddr_sl u76 sz3 rfl rfl ⟨by omega, by omega⟩)) ?_
      refine HeadR.det rfl (fun β hβ => (det_loadC_ro tc3 rfl (List.mem_append_left _ hm) (cell_i (hcell i hlt)))) ?_
      refine HeadR.det rfl (fun β hβ => (det_move rfl)) ?_
      refine HeadR.det rfl (fun β hβ => (det_move rfl)) ?_
      refine HeadR.det rfl (fun β hβ => (det_indexAddr_sl u76 sz3 rfl rfl ⟨by omega, by omega⟩)) ?_
      refine HeadR.det rfl (fun β hβ => (det_loadC_ro tc3 rfl (List.mem_append_left _ hm2) (cell_i (hcell2 i hlt2)))) ?_
      refine HeadR.det rfl (fun β hβ => (det_neq rfl rfl)) ?_
      refine HeadR.done ⟨by kernel_rfl, fun β hβ => ?_⟩
      refine OpsW.norm (F' := [(16, _), (17, _), (18, _), (19, _), (20, _), (21, _), (22, _), (23, _), (24, _), (5, _), (13, _), (12, _), (0, _), (1, _)]) (H' := []) rfl rfl ?_
      refine sNext ?_
      refine W.keep (F' := [(24, _), (13, _), (12, _), (0, _), (1, _)]) ⟨rfl, rfl, rfl, rfl, rfl, trivial⟩ ?_
      refine W.cond rfl (fun hc24 => ?_) (fun hc24 => ?_)
      · skip
        refine sSeq ?_
        refine W.region ?_
        refine OpsW.det (det_assign rfl) rfl ?_
        refine sNext ?_
        refine W.keep (F' := [(4, _)]) ⟨rfl, trivial⟩ ?_
        refine sRet ?_
        refine retBlk ?_
        refine retLoop ?_
        refine retBlk ?_
        exact done1 Tryd.results78 (rv_tmp rfl) (congrArg Value.bool (decide_eq_false (fun h => by subst h; have h2 := hc24; simp at h2)).symm)
      · skip
        refine sSkip0 ?_
        refine bNext ?_
        refine W.keep (F' := [(13, _), (12, _), (0, _), (1, _)]) ⟨rfl, rfl, rfl, rfl, trivial⟩ ?_
        refine W.region ?_
        refine OpsW.det (det_addN (b := 1) rfl rfl (by omega)) rfl ?_
        refine OpsW.det (det_move rfl) rfl ?_
        refine sLast ?_
        exact rEnd (i + 1) ⟨hlt, take_step hlt hlt2 hI (by have h := hc24; simpa using h)⟩ ⟨rfl, rfl, rfl, rfl, trivial⟩ (List.nil_sublist _) (step_lt hlt)
    · skip
      have hi4 : i = l.length := by have h := hc14; simp only [decide_eq_false_iff_not] at h; omega
      subst hi4
      refine sExit ?_
      refine xLoop ?_
      refine xHere ?_
      refine W.keep (F' := []) trivial ?_
      refine sSeq ?_
      refine W.region ?_
      refine OpsW.det (det_assign rfl) rfl ?_
      refine sNext ?_
      refine sRet ?_
      exact done1 Tryd.results78 (rv_tmp rfl) (congrArg Value.bool (decide_eq_true (by have h := hI; rw [List.take_length, hll, List.take_length] at h; exact h)).symm)

end Go.Cu
