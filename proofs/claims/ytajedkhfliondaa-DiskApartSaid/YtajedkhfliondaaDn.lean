/-
  Which names are names: the walks. Conditions: the text is no longer than a text can be.
-/
import Derived.Test.YtajedkhfliondaaDk
namespace Go.Dk
open Go Go.Vm Go.RowKit Go.Proofs Go.Cu
attribute [local irreducible] W OpsW Det Fresh New Writes Vm.Pure Makes Changes ExternTo BuildTo ZeroTo FieldTo IndexTo BinTo SliceTo Vm.Enters
set_option linter.unusedVariables false
set_option linter.unusedSimpArgs false

theorem at_nm {s : Nm} {k : Nat} (h : k < s.length) : (⟨s.toArray⟩ : ByteArray).data[k]? = some s[k] := by simp [h]
theorem right_no {s : Nm} {k : Nat} (h : k < s.length) (hb : okB s[k] = false) : right s = false := by
  unfold right
  have : s.all okB = false := by
    rw [List.all_eq_false]
    exact ⟨s[k], List.getElem_mem h, by simp [hb]⟩
  simp [this]
theorem all_of {s : Nm} {k : Nat} (hk : s.length ≤ k) (h : ∀ j (hj : j < s.length), j < k → okB s[j] = true) : s.all okB = true := by
  rw [List.all_eq_true]
  intro v hv
  obtain ⟨j, hj, rfl⟩ := List.mem_iff_getElem.1 hv
  exact h j hj (by omega)
theorem grow1 {s : Nm} {k : Nat} (hlt : k < s.length) (h : ∀ j (hj : j < s.length), j < k → okB s[j] = true) (hb : okB s[k] = true) : ∀ j (hj : j < s.length), j < k + 1 → okB s[j] = true := by
  intro j hj hjk
  by_cases he : j = k
  · subst he; exact hb
  · exact h j hj (by omega)
theorem nm_pos {s : Nm} (h : decide ((⟨s.toArray⟩ : ByteArray) = ByteArray.mk #[]) = false) : 0 < s.length := by
  rcases Nat.eq_zero_or_pos s.length with h0 | h0
  · have : s = [] := List.eq_nil_of_length_eq_zero h0
    subst this
    simp at h
  · exact h0
theorem nm_zero {s : Nm} (h : decide ((⟨s.toArray⟩ : ByteArray) = ByteArray.mk #[]) = true) : s.length = 0 := by
  have h1 : (⟨s.toArray⟩ : ByteArray) = ByteArray.mk #[] := by simpa using h
  have h2 := congrArg ByteArray.data h1
  have h3 : s = [] := by simpa using h2
  simp [h3]
theorem nm_size (s : Nm) : (⟨s.toArray⟩ : ByteArray).size = s.length := by simp [ByteArray.size]
theorem nm_cells {s : Nm} {k : Nat} {r : List Value} (h : k < s.length) : (byteCells ⟨s.toArray⟩ ++ r)[0 + ((k : Nat) : Int).toNat * 1]? = some (.int .u8 s[k].toNat) := by
  have := byteCells_get (s := ⟨s.toArray⟩) (i := k) (r := r) (at_nm h)
  simpa using this

theorem u9 : Try.prog.underlying 9 = some (.string) := by kernel_rfl
theorem Right_ok {s : Nm} (hs : s.length ≤ 9223372036854775807) {w : World} (hG : Blocks [] w)  : Vm.Pure Try.prog 37 #[sv s] w (.bool (right s)) := by
  have hs' := nm_size s
  refine pure_of_W (n := 38) (args := [sv s]) Try.func37 rfl Try.ntmps37 (Nat.le_of_ble_eq_true rfl) hG ?_
  refine sStart ?_
  refine sSeq ?_
  refine W.region ?_
  refine OpsW.det (det_assign rfl) rfl ?_
  refine sNext ?_
  refine W.keep (F' := [(0, _)]) ⟨rfl, trivial⟩ ?_
  refine sSeq ?_
  refine sSeq ?_
  refine W.region ?_
  refine OpsW.det (det_move rfl) rfl ?_
  refine OpsW.test (det_streql rfl rfl) rfl (fun hc6 => ?_) (fun hc6 => ?_)
  · skip
    refine OpsW.det (det_move rfl) rfl ?_
    refine OpsW.guard_no rfl rfl rfl ?_
    refine OpsW.guard_no rfl rfl rfl ?_
    refine OpsW.guard_no rfl rfl rfl ?_
    refine OpsW.det (det_pick rfl rfl) rfl ?_
    refine sNext ?_
    refine W.keep (F' := [(11, _), (0, _)]) ⟨rfl, rfl, trivial⟩ ?_
    refine W.cond_true rfl ?_
    refine sSeq ?_
    refine W.region ?_
    refine OpsW.det (det_assign rfl) rfl ?_
    refine sNext ?_
    refine W.keep (F' := [(2, _)]) ⟨rfl, trivial⟩ ?_
    refine sRet ?_
    exact done1 Try.results37 (rv_tmp rfl) (by have h0 := nm_zero hc6; simp [right, h0])
  · skip
    refine OpsW.det (det_move rfl) rfl ?_
    refine OpsW.guard_yes rfl rfl ?_
    refine OpsW.det (det_move rfl) rfl ?_
    refine OpsW.guard_yes rfl rfl ?_
    refine OpsW.det (det_len_str u9 rfl) rfl ?_
    refine OpsW.guard_yes rfl rfl ?_
    refine OpsW.det (det_gtr rfl rfl) rfl ?_
    refine OpsW.det (det_pick rfl rfl) rfl ?_
    refine sNext ?_
    refine W.keep (F' := [(11, _), (0, _)]) ⟨rfl, rfl, trivial⟩ ?_
    refine W.cond rfl (fun hc11 => ?_) (fun hc11 => ?_)
    · skip
      refine sSeq ?_
      refine W.region ?_
      refine OpsW.det (det_assign rfl) rfl ?_
      refine sNext ?_
      refine W.keep (F' := [(2, _)]) ⟨rfl, trivial⟩ ?_
      refine sRet ?_
      exact done1 Try.results37 (rv_tmp rfl) (by simp only [decide_eq_true_eq, nm_size] at hc11; simp [right]; omega)
    · skip
      refine sSkip ?_
      refine sSeq ?_
      refine sSeq ?_
      refine W.region ?_
      refine OpsW.det (det_move rfl) rfl ?_
      refine OpsW.new (new_bytes u9 u22 u5 rfl) rfl fun p13 hp13 => ?_
      refine OpsW.det (det_len u22 rfl) rfl ?_
      refine OpsW.det (det_move rfl) rfl ?_
      refine sNext ?_
      refine W.keep (F' := [(15, _), (14, _), (13, _)]) ⟨rfl, rfl, rfl, trivial⟩ ?_
      refine sBlock ?_
      refine sLoop (σ := Nat) (fun k => [(15, .int .i64 (k : Nat)), (14, .int .i64 (⟨s.toArray⟩ : ByteArray).size), (13, .slice (some ⟨p13.1, 0, none⟩) (⟨s.toArray⟩ : ByteArray).size p13.2.1)]) (fun k => [(p13.1, .cells (byteCells ⟨s.toArray⟩ ++ p13.2.2).toArray 5 ((byteCells ⟨s.toArray⟩ ++ p13.2.2).length, (byteCells ⟨s.toArray⟩ ++ p13.2.2).length + 1))]) (fun k => k ≤ s.length ∧ ∀ j (hj : j < s.length), j < k → okB s[j] = true) (fun k => s.length - k) 0 ⟨by omega, fun j v hj => by omega⟩ ⟨rfl, rfl, rfl, trivial⟩ (List.Sublist.refl _) ?_
      intro k hk
      refine sSeq ?_
      refine W.region ?_
      refine OpsW.det (det_lss rfl rfl) rfl ?_
      refine sNext ?_
      refine sSeq ?_
      refine W.cond rfl (fun hc16 => ?_) (fun hc16 => ?_)
      · skip
        have hlt : k < s.length := by simp only [decide_eq_true_eq] at hc16; omega
        have hcell : (byteCells ⟨s.toArray⟩ ++ p13.2.2)[0 + ((k : Nat) : Int).toNat * 1]? = some (.int .u8 s[k].toNat) := nm_cells hlt
        refine sSkip ?_
        refine sSeq ?_
        refine sBlock ?_
        refine sSeq ?_
        refine W.region ?_
        refine OpsW.det (det_indexAddr_sl u22 sz5 rfl rfl ⟨by omega, by omega⟩) rfl ?_
        refine OpsW.det (det_loadC ty5 rfl (List.Mem.head _) hcell) rfl ?_
        refine OpsW.det (det_assign rfl) rfl ?_
        refine sNext ?_
        refine W.keep (F' := [(4, _), (15, _), (14, _), (13, _)]) ⟨rfl, rfl, rfl, rfl, trivial⟩ ?_
        refine sSeq ?_
        refine W.region ?_
        refine OpsW.det (det_move rfl) rfl ?_
        refine OpsW.test (det_lss rfl rfl) rfl (fun hc20 => ?_) (fun hc20 => ?_)
        · skip
          refine OpsW.det (det_move rfl) rfl ?_
          refine OpsW.guard_no rfl rfl rfl ?_
          refine OpsW.guard_no rfl rfl rfl ?_
          refine OpsW.det (det_pick rfl rfl) rfl ?_
          refine OpsW.det (det_move rfl) rfl ?_
          refine OpsW.guard_yes rfl rfl ?_
          refine OpsW.det (det_move rfl) rfl ?_
          refine OpsW.guard_yes rfl rfl ?_
          refine OpsW.test (det_lss rfl rfl) rfl (fun hc27 => ?_) (fun hc27 => ?_)
          · skip
            refine OpsW.guard_yes rfl rfl ?_
            refine OpsW.det (det_move rfl) rfl ?_
            refine OpsW.guard_no rfl rfl rfl ?_
            refine OpsW.guard_no rfl rfl rfl ?_
            refine OpsW.guard_yes rfl rfl ?_
            refine OpsW.det (det_pick rfl rfl) rfl ?_
            refine OpsW.det (det_pick rfl rfl) rfl ?_
            refine OpsW.det (det_move rfl) rfl ?_
            refine OpsW.guard_yes rfl rfl ?_
            refine OpsW.det (det_move rfl) rfl ?_
            refine OpsW.guard_yes rfl rfl ?_
            refine OpsW.det (det_neq rfl rfl) rfl ?_
            refine OpsW.det (det_pick rfl rfl) rfl ?_
            refine sNext ?_
            refine W.keep (F' := [(36, _), (15, _), (14, _), (13, _)]) ⟨rfl, rfl, rfl, rfl, trivial⟩ ?_
            refine W.cond rfl (fun hc36 => ?_) (fun hc36 => ?_)
            · skip
              refine sSeq ?_
              refine W.region ?_
              refine OpsW.det (det_assign rfl) rfl ?_
              refine sNext ?_
              refine W.keep (F' := [(2, _)]) ⟨rfl, trivial⟩ ?_
              refine sRet ?_
              refine retBlk ?_
              refine retLoop ?_
              refine retBlk ?_
              exact done1 Try.results37 (rv_tmp rfl) (by rw [right_no hlt (by simp only [decide_eq_true_eq, decide_eq_false_iff_not, bne_iff_ne, bne_eq_false_iff_eq, ne_eq, Bool.not_eq_true', Bool.not_eq_false', nm_size] at hc16 hc20 hc27 hc36; unfold okB; simp only [decide_eq_false_iff_not]; omega)])
            · skip
              refine sSkip0 ?_
              refine bNext ?_
              refine W.keep (F' := [(15, _), (14, _), (13, _)]) ⟨rfl, rfl, rfl, trivial⟩ ?_
              refine W.region ?_
              refine OpsW.det (det_addN (b := 1) rfl rfl (by omega)) rfl ?_
              refine OpsW.det (det_move rfl) rfl ?_
              refine sLast ?_
              have hok : okB s[k] = true := by simp only [decide_eq_true_eq, decide_eq_false_iff_not, bne_iff_ne, bne_eq_false_iff_eq, ne_eq, Bool.not_eq_true', Bool.not_eq_false', nm_size] at hc16 hc20 hc27 hc36; unfold okB; simp only [decide_eq_true_eq]; omega
              exact rEnd (k + 1) ⟨by omega, grow1 hlt hk.2 hok⟩ ⟨rfl, rfl, rfl, trivial⟩ (List.Sublist.refl _) (by omega)
          · skip
            refine OpsW.guard_yes rfl rfl ?_
            refine OpsW.det (det_move rfl) rfl ?_
            refine OpsW.guard_yes rfl rfl ?_
            refine OpsW.det (det_move rfl) rfl ?_
            refine OpsW.guard_yes rfl rfl ?_
            refine OpsW.test (det_gtr rfl rfl) rfl (fun hc30 => ?_) (fun hc30 => ?_)
            · skip
              refine OpsW.guard_yes rfl rfl ?_
              refine OpsW.det (det_pick rfl rfl) rfl ?_
              refine OpsW.det (det_pick rfl rfl) rfl ?_
              refine OpsW.det (det_move rfl) rfl ?_
              refine OpsW.guard_yes rfl rfl ?_
              refine OpsW.det (det_move rfl) rfl ?_
              refine OpsW.guard_yes rfl rfl ?_
              refine OpsW.det (det_neq rfl rfl) rfl ?_
              refine OpsW.det (det_pick rfl rfl) rfl ?_
              refine sNext ?_
              refine W.keep (F' := [(36, _), (15, _), (14, _), (13, _)]) ⟨rfl, rfl, rfl, rfl, trivial⟩ ?_
              refine W.cond rfl (fun hc36 => ?_) (fun hc36 => ?_)
              · skip
                refine sSeq ?_
                refine W.region ?_
                refine OpsW.det (det_assign rfl) rfl ?_
                refine sNext ?_
                refine W.keep (F' := [(2, _)]) ⟨rfl, trivial⟩ ?_
                refine sRet ?_
                refine retBlk ?_
                refine retLoop ?_
                refine retBlk ?_
                exact done1 Try.results37 (rv_tmp rfl) (by rw [right_no hlt (by simp only [decide_eq_true_eq, decide_eq_false_iff_not, bne_iff_ne, bne_eq_false_iff_eq, ne_eq, Bool.not_eq_true', Bool.not_eq_false', nm_size] at hc16 hc20 hc27 hc30 hc36; unfold okB; simp only [decide_eq_false_iff_not]; omega)])
              · skip
                refine sSkip0 ?_
                refine bNext ?_
                refine W.keep (F' := [(15, _), (14, _), (13, _)]) ⟨rfl, rfl, rfl, trivial⟩ ?_
                refine W.region ?_
                refine OpsW.det (det_addN (b := 1) rfl rfl (by omega)) rfl ?_
                refine OpsW.det (det_move rfl) rfl ?_
                refine sLast ?_
                have hok : okB s[k] = true := by simp only [decide_eq_true_eq, decide_eq_false_iff_not, bne_iff_ne, bne_eq_false_iff_eq, ne_eq, Bool.not_eq_true', Bool.not_eq_false', nm_size] at hc16 hc20 hc27 hc30 hc36; unfold okB; simp only [decide_eq_true_eq]; omega
                exact rEnd (k + 1) ⟨by omega, grow1 hlt hk.2 hok⟩ ⟨rfl, rfl, rfl, trivial⟩ (List.Sublist.refl _) (by omega)
            · skip
              refine OpsW.guard_yes rfl rfl ?_
              refine OpsW.det (det_pick rfl rfl) rfl ?_
              refine OpsW.det (det_pick rfl rfl) rfl ?_
              refine OpsW.det (det_move rfl) rfl ?_
              refine OpsW.guard_no rfl rfl rfl ?_
              refine OpsW.guard_no rfl rfl rfl ?_
              refine OpsW.det (det_pick rfl rfl) rfl ?_
              refine sNext ?_
              refine W.keep (F' := [(36, _), (15, _), (14, _), (13, _)]) ⟨rfl, rfl, rfl, rfl, trivial⟩ ?_
              refine W.cond_false rfl ?_
              refine sSkip0 ?_
              refine bNext ?_
              refine W.keep (F' := [(15, _), (14, _), (13, _)]) ⟨rfl, rfl, rfl, trivial⟩ ?_
              refine W.region ?_
              refine OpsW.det (det_addN (b := 1) rfl rfl (by omega)) rfl ?_
              refine OpsW.det (det_move rfl) rfl ?_
              refine sLast ?_
              have hok : okB s[k] = true := by simp only [decide_eq_true_eq, decide_eq_false_iff_not, bne_iff_ne, bne_eq_false_iff_eq, ne_eq, Bool.not_eq_true', Bool.not_eq_false', nm_size] at hc16 hc20 hc27 hc30; unfold okB; simp only [decide_eq_true_eq]; omega
              exact rEnd (k + 1) ⟨by omega, grow1 hlt hk.2 hok⟩ ⟨rfl, rfl, rfl, trivial⟩ (List.Sublist.refl _) (by omega)
        · skip
          refine OpsW.det (det_move rfl) rfl ?_
          refine OpsW.guard_yes rfl rfl ?_
          refine OpsW.det (det_move rfl) rfl ?_
          refine OpsW.guard_yes rfl rfl ?_
          refine OpsW.test (det_gtr rfl rfl) rfl (fun hc23 => ?_) (fun hc23 => ?_)
          · skip
            refine OpsW.det (det_pick rfl rfl) rfl ?_
            refine OpsW.det (det_move rfl) rfl ?_
            refine OpsW.guard_yes rfl rfl ?_
            refine OpsW.det (det_move rfl) rfl ?_
            refine OpsW.guard_yes rfl rfl ?_
            refine OpsW.test (det_lss rfl rfl) rfl (fun hc27 => ?_) (fun hc27 => ?_)
            · skip
              refine OpsW.guard_yes rfl rfl ?_
              refine OpsW.det (det_move rfl) rfl ?_
              refine OpsW.guard_no rfl rfl rfl ?_
              refine OpsW.guard_no rfl rfl rfl ?_
              refine OpsW.guard_yes rfl rfl ?_
              refine OpsW.det (det_pick rfl rfl) rfl ?_
              refine OpsW.det (det_pick rfl rfl) rfl ?_
              refine OpsW.det (det_move rfl) rfl ?_
              refine OpsW.guard_yes rfl rfl ?_
              refine OpsW.det (det_move rfl) rfl ?_
              refine OpsW.guard_yes rfl rfl ?_
              refine OpsW.det (det_neq rfl rfl) rfl ?_
              refine OpsW.det (det_pick rfl rfl) rfl ?_
              refine sNext ?_
              refine W.keep (F' := [(36, _), (15, _), (14, _), (13, _)]) ⟨rfl, rfl, rfl, rfl, trivial⟩ ?_
              refine W.cond rfl (fun hc36 => ?_) (fun hc36 => ?_)
              · skip
                refine sSeq ?_
                refine W.region ?_
                refine OpsW.det (det_assign rfl) rfl ?_
                refine sNext ?_
                refine W.keep (F' := [(2, _)]) ⟨rfl, trivial⟩ ?_
                refine sRet ?_
                refine retBlk ?_
                refine retLoop ?_
                refine retBlk ?_
                exact done1 Try.results37 (rv_tmp rfl) (by rw [right_no hlt (by simp only [decide_eq_true_eq, decide_eq_false_iff_not, bne_iff_ne, bne_eq_false_iff_eq, ne_eq, Bool.not_eq_true', Bool.not_eq_false', nm_size] at hc16 hc20 hc23 hc27 hc36; unfold okB; simp only [decide_eq_false_iff_not]; omega)])
              · skip
                refine sSkip0 ?_
                refine bNext ?_
                refine W.keep (F' := [(15, _), (14, _), (13, _)]) ⟨rfl, rfl, rfl, trivial⟩ ?_
                refine W.region ?_
                refine OpsW.det (det_addN (b := 1) rfl rfl (by omega)) rfl ?_
                refine OpsW.det (det_move rfl) rfl ?_
                refine sLast ?_
                have hok : okB s[k] = true := by simp only [decide_eq_true_eq, decide_eq_false_iff_not, bne_iff_ne, bne_eq_false_iff_eq, ne_eq, Bool.not_eq_true', Bool.not_eq_false', nm_size] at hc16 hc20 hc23 hc27 hc36; unfold okB; simp only [decide_eq_true_eq]; omega
                exact rEnd (k + 1) ⟨by omega, grow1 hlt hk.2 hok⟩ ⟨rfl, rfl, rfl, trivial⟩ (List.Sublist.refl _) (by omega)
            · skip
              refine OpsW.guard_yes rfl rfl ?_
              refine OpsW.det (det_move rfl) rfl ?_
              refine OpsW.guard_yes rfl rfl ?_
              refine OpsW.det (det_move rfl) rfl ?_
              refine OpsW.guard_yes rfl rfl ?_
              refine OpsW.test (det_gtr rfl rfl) rfl (fun hc30 => ?_) (fun hc30 => ?_)
              · skip
                refine OpsW.guard_yes rfl rfl ?_
                refine OpsW.det (det_pick rfl rfl) rfl ?_
                refine OpsW.det (det_pick rfl rfl) rfl ?_
                refine OpsW.det (det_move rfl) rfl ?_
                refine OpsW.guard_yes rfl rfl ?_
                refine OpsW.det (det_move rfl) rfl ?_
                refine OpsW.guard_yes rfl rfl ?_
                refine OpsW.det (det_neq rfl rfl) rfl ?_
                refine OpsW.det (det_pick rfl rfl) rfl ?_
                refine sNext ?_
                refine W.keep (F' := [(36, _), (15, _), (14, _), (13, _)]) ⟨rfl, rfl, rfl, rfl, trivial⟩ ?_
                refine W.cond rfl (fun hc36 => ?_) (fun hc36 => ?_)
                · skip
                  refine sSeq ?_
                  refine W.region ?_
                  refine OpsW.det (det_assign rfl) rfl ?_
                  refine sNext ?_
                  refine W.keep (F' := [(2, _)]) ⟨rfl, trivial⟩ ?_
                  refine sRet ?_
                  refine retBlk ?_
                  refine retLoop ?_
                  refine retBlk ?_
                  exact done1 Try.results37 (rv_tmp rfl) (by rw [right_no hlt (by simp only [decide_eq_true_eq, decide_eq_false_iff_not, bne_iff_ne, bne_eq_false_iff_eq, ne_eq, Bool.not_eq_true', Bool.not_eq_false', nm_size] at hc16 hc20 hc23 hc27 hc30 hc36; unfold okB; simp only [decide_eq_false_iff_not]; omega)])
                · skip
                  refine sSkip0 ?_
                  refine bNext ?_
                  refine W.keep (F' := [(15, _), (14, _), (13, _)]) ⟨rfl, rfl, rfl, trivial⟩ ?_
                  refine W.region ?_
                  refine OpsW.det (det_addN (b := 1) rfl rfl (by omega)) rfl ?_
                  refine OpsW.det (det_move rfl) rfl ?_
                  refine sLast ?_
                  have hok : okB s[k] = true := by simp only [decide_eq_true_eq, decide_eq_false_iff_not, bne_iff_ne, bne_eq_false_iff_eq, ne_eq, Bool.not_eq_true', Bool.not_eq_false', nm_size] at hc16 hc20 hc23 hc27 hc30 hc36; unfold okB; simp only [decide_eq_true_eq]; omega
                  exact rEnd (k + 1) ⟨by omega, grow1 hlt hk.2 hok⟩ ⟨rfl, rfl, rfl, trivial⟩ (List.Sublist.refl _) (by omega)
              · skip
                refine OpsW.guard_yes rfl rfl ?_
                refine OpsW.det (det_pick rfl rfl) rfl ?_
                refine OpsW.det (det_pick rfl rfl) rfl ?_
                refine OpsW.det (det_move rfl) rfl ?_
                refine OpsW.guard_no rfl rfl rfl ?_
                refine OpsW.guard_no rfl rfl rfl ?_
                refine OpsW.det (det_pick rfl rfl) rfl ?_
                refine sNext ?_
                refine W.keep (F' := [(36, _), (15, _), (14, _), (13, _)]) ⟨rfl, rfl, rfl, rfl, trivial⟩ ?_
                refine W.cond_false rfl ?_
                refine sSkip0 ?_
                refine bNext ?_
                refine W.keep (F' := [(15, _), (14, _), (13, _)]) ⟨rfl, rfl, rfl, trivial⟩ ?_
                refine W.region ?_
                refine OpsW.det (det_addN (b := 1) rfl rfl (by omega)) rfl ?_
                refine OpsW.det (det_move rfl) rfl ?_
                refine sLast ?_
                have hok : okB s[k] = true := by simp only [decide_eq_true_eq, decide_eq_false_iff_not, bne_iff_ne, bne_eq_false_iff_eq, ne_eq, Bool.not_eq_true', Bool.not_eq_false', nm_size] at hc16 hc20 hc23 hc27 hc30; unfold okB; simp only [decide_eq_true_eq]; omega
                exact rEnd (k + 1) ⟨by omega, grow1 hlt hk.2 hok⟩ ⟨rfl, rfl, rfl, trivial⟩ (List.Sublist.refl _) (by omega)
          · skip
            refine OpsW.det (det_pick rfl rfl) rfl ?_
            refine OpsW.det (det_move rfl) rfl ?_
            refine OpsW.guard_no rfl rfl rfl ?_
            refine OpsW.guard_no rfl rfl rfl ?_
            refine OpsW.guard_no rfl rfl rfl ?_
            refine OpsW.guard_un rfl rfl rfl ?_
            refine OpsW.guard_un rfl rfl rfl ?_
            refine OpsW.guard_no rfl rfl rfl ?_
            refine OpsW.det (det_pick rfl rfl) rfl ?_
            refine OpsW.det (det_move rfl) rfl ?_
            refine OpsW.guard_no rfl rfl rfl ?_
            refine OpsW.guard_no rfl rfl rfl ?_
            refine OpsW.det (det_pick rfl rfl) rfl ?_
            refine sNext ?_
            refine W.keep (F' := [(36, _), (15, _), (14, _), (13, _)]) ⟨rfl, rfl, rfl, rfl, trivial⟩ ?_
            refine W.cond_false rfl ?_
            refine sSkip0 ?_
            refine bNext ?_
            refine W.keep (F' := [(15, _), (14, _), (13, _)]) ⟨rfl, rfl, rfl, trivial⟩ ?_
            refine W.region ?_
            refine OpsW.det (det_addN (b := 1) rfl rfl (by omega)) rfl ?_
            refine OpsW.det (det_move rfl) rfl ?_
            refine sLast ?_
            have hok : okB s[k] = true := by simp only [decide_eq_true_eq, decide_eq_false_iff_not, bne_iff_ne, bne_eq_false_iff_eq, ne_eq, Bool.not_eq_true', Bool.not_eq_false', nm_size] at hc16 hc20 hc23; unfold okB; simp only [decide_eq_true_eq]; omega
            exact rEnd (k + 1) ⟨by omega, grow1 hlt hk.2 hok⟩ ⟨rfl, rfl, rfl, trivial⟩ (List.Sublist.refl _) (by omega)
      · skip
        refine sExit ?_
        refine xLoop ?_
        refine xHere ?_
        refine W.keep (F' := []) trivial ?_
        refine sSeq ?_
        refine W.region ?_
        refine OpsW.det (det_assign rfl) rfl ?_
        refine sNext ?_
        refine sRet ?_
        exact done1 Try.results37 (rv_tmp rfl) (by simp only [decide_eq_false_iff_not, nm_size] at hc16 hc11; have h0 := nm_pos hc6; have := all_of (by omega) hk.2; simp only [right, this, Bool.and_true]; rw [show decide (0 < s.length ∧ s.length ≤ 24) = true from by simp only [decide_eq_true_eq]; omega])
theorem RefRight_ok {s : Nm} (hs : s.length ≤ 9223372036854775807) {w : World} (hG : Blocks [] w)  : Vm.Pure Try.prog 40 #[sv s] w (.bool (right s)) := by
  have hs' := nm_size s
  refine pure_of_W (n := 42) (args := [sv s]) Try.func40 rfl Try.ntmps40 (Nat.le_of_ble_eq_true rfl) hG ?_
  refine sStart ?_
  refine sSeq ?_
  refine W.region ?_
  refine OpsW.det (det_assign rfl) rfl ?_
  refine sNext ?_
  refine W.keep (F' := [(0, _)]) ⟨rfl, trivial⟩ ?_
  refine sSeq ?_
  refine sSeq ?_
  refine W.region ?_
  refine OpsW.det (det_assign rfl) rfl ?_
  refine sNext ?_
  refine sBlock ?_
  refine sLoop (σ := Nat) (fun k => [(3, .int .i64 (k : Nat)), (0, sv s)]) (fun k => []) (fun k => k ≤ s.length ∧ ∀ j (hj : j < s.length), j < k → okB s[j] = true) (fun k => s.length - k) 0 ⟨by omega, fun j v hj => by omega⟩ ⟨rfl, rfl, trivial⟩ (List.Sublist.refl _) ?_
  intro k hk
  refine sSeq ?_
  refine sSeq ?_
  refine W.region ?_
  refine OpsW.det (det_move rfl) rfl ?_
  refine OpsW.det (det_move rfl) rfl ?_
  refine OpsW.det (det_len_str u9 rfl) rfl ?_
  refine OpsW.det (det_lss rfl rfl) rfl ?_
  refine sNext ?_
  refine W.keep (F' := [(8, _), (3, _), (0, _)]) ⟨rfl, rfl, rfl, trivial⟩ ?_
  refine W.cond rfl (fun hc8 => ?_) (fun hc8 => ?_)
  · skip
    have hlt : k < s.length := by simp only [decide_eq_true_eq] at hc8; omega
    have hv := at_nm hlt
    refine sSkip ?_
    refine sSeq ?_
    refine sBlock ?_
    refine sSeq ?_
    refine W.region ?_
    refine OpsW.det (det_move rfl) rfl ?_
    refine OpsW.det (det_move rfl) rfl ?_
    refine OpsW.det (det_strindex u9 rfl rfl ⟨by omega, hv⟩) rfl ?_
    refine OpsW.det (det_assign rfl) rfl ?_
    refine sNext ?_
    refine W.keep (F' := [(4, _), (3, _), (0, _)]) ⟨rfl, rfl, rfl, trivial⟩ ?_
    refine sSeq ?_
    refine W.region ?_
    refine OpsW.det (det_move rfl) rfl ?_
    refine OpsW.test (det_neq rfl rfl) rfl (fun hc15 => ?_) (fun hc15 => ?_)
    · skip
      refine OpsW.det (det_move rfl) rfl ?_
      refine OpsW.guard_yes rfl rfl ?_
      refine OpsW.det (det_move rfl) rfl ?_
      refine OpsW.guard_yes rfl rfl ?_
      refine OpsW.test (det_geq rfl rfl) rfl (fun hc18 => ?_) (fun hc18 => ?_)
      · skip
        refine OpsW.guard_yes rfl rfl ?_
        refine OpsW.det (det_move rfl) rfl ?_
        refine OpsW.guard_yes rfl rfl ?_
        refine OpsW.det (det_move rfl) rfl ?_
        refine OpsW.guard_yes rfl rfl ?_
        refine OpsW.test (det_leq rfl rfl) rfl (fun hc21 => ?_) (fun hc21 => ?_)
        · skip
          refine OpsW.guard_yes rfl rfl ?_
          refine OpsW.det (det_pick rfl rfl) rfl ?_
          refine OpsW.guard_yes rfl rfl ?_
          refine OpsW.det (det_not rfl) rfl ?_
          refine OpsW.det (det_pick rfl rfl) rfl ?_
          refine OpsW.det (det_move rfl) rfl ?_
          refine OpsW.guard_no rfl rfl rfl ?_
          refine OpsW.guard_no rfl rfl rfl ?_
          refine OpsW.guard_no rfl rfl rfl ?_
          refine OpsW.guard_un rfl rfl rfl ?_
          refine OpsW.guard_un rfl rfl rfl ?_
          refine OpsW.guard_no rfl rfl rfl ?_
          refine OpsW.guard_no rfl rfl rfl ?_
          refine OpsW.det (det_pick rfl rfl) rfl ?_
          refine sNext ?_
          refine W.keep (F' := [(33, _), (3, _), (0, _)]) ⟨rfl, rfl, rfl, trivial⟩ ?_
          refine W.cond_false rfl ?_
          refine sSkip0 ?_
          refine bNext ?_
          refine W.keep (F' := [(3, _), (0, _)]) ⟨rfl, rfl, trivial⟩ ?_
          refine W.region ?_
          refine OpsW.det (det_move rfl) rfl ?_
          refine OpsW.det (det_addN (b := 1) rfl rfl (by omega)) rfl ?_
          refine OpsW.det (det_assign rfl) rfl ?_
          refine sLast ?_
          have hok : okB s[k] = true := by simp only [decide_eq_true_eq, decide_eq_false_iff_not, bne_iff_ne, bne_eq_false_iff_eq, ne_eq, Bool.not_eq_true', Bool.not_eq_false', nm_size] at hc15 hc18 hc21; unfold okB; simp only [decide_eq_true_eq]; omega
          exact rEnd (k + 1) ⟨by omega, grow1 hlt hk.2 hok⟩ ⟨rfl, rfl, trivial⟩ (List.Sublist.refl _) (by omega)
        · skip
          refine OpsW.guard_yes rfl rfl ?_
          refine OpsW.det (det_pick rfl rfl) rfl ?_
          refine OpsW.guard_yes rfl rfl ?_
          refine OpsW.det (det_not rfl) rfl ?_
          refine OpsW.det (det_pick rfl rfl) rfl ?_
          refine OpsW.det (det_move rfl) rfl ?_
          refine OpsW.guard_yes rfl rfl ?_
          refine OpsW.det (det_move rfl) rfl ?_
          refine OpsW.guard_yes rfl rfl ?_
          refine OpsW.test (det_geq rfl rfl) rfl (fun hc27 => ?_) (fun hc27 => ?_)
          · skip
            refine OpsW.guard_yes rfl rfl ?_
            refine OpsW.det (det_move rfl) rfl ?_
            refine OpsW.guard_yes rfl rfl ?_
            refine OpsW.det (det_move rfl) rfl ?_
            refine OpsW.guard_yes rfl rfl ?_
            refine OpsW.det (det_leq rfl rfl) rfl ?_
            refine OpsW.guard_yes rfl rfl ?_
            refine OpsW.det (det_pick rfl rfl) rfl ?_
            refine OpsW.guard_yes rfl rfl ?_
            refine OpsW.det (det_not rfl) rfl ?_
            refine OpsW.det (det_pick rfl rfl) rfl ?_
            refine sNext ?_
            refine W.keep (F' := [(33, _), (3, _), (0, _)]) ⟨rfl, rfl, rfl, trivial⟩ ?_
            refine W.cond rfl (fun hc33 => ?_) (fun hc33 => ?_)
            · skip
              refine sSeq ?_
              refine W.region ?_
              refine OpsW.det (det_assign rfl) rfl ?_
              refine sNext ?_
              refine W.keep (F' := [(2, _)]) ⟨rfl, trivial⟩ ?_
              refine sRet ?_
              refine retBlk ?_
              refine retLoop ?_
              refine retBlk ?_
              exact done1 Try.results40 (rv_tmp rfl) (by rw [right_no hlt (by simp only [decide_eq_true_eq, decide_eq_false_iff_not, bne_iff_ne, bne_eq_false_iff_eq, ne_eq, Bool.not_eq_true', Bool.not_eq_false', nm_size] at hc15 hc18 hc21 hc27 hc33; unfold okB; simp only [decide_eq_false_iff_not]; omega)])
            · skip
              refine sSkip0 ?_
              refine bNext ?_
              refine W.keep (F' := [(3, _), (0, _)]) ⟨rfl, rfl, trivial⟩ ?_
              refine W.region ?_
              refine OpsW.det (det_move rfl) rfl ?_
              refine OpsW.det (det_addN (b := 1) rfl rfl (by omega)) rfl ?_
              refine OpsW.det (det_assign rfl) rfl ?_
              refine sLast ?_
              have hok : okB s[k] = true := by simp only [decide_eq_true_eq, decide_eq_false_iff_not, bne_iff_ne, bne_eq_false_iff_eq, ne_eq, Bool.not_eq_true', Bool.not_eq_false', nm_size] at hc15 hc18 hc21 hc27 hc33; unfold okB; simp only [decide_eq_true_eq]; omega
              exact rEnd (k + 1) ⟨by omega, grow1 hlt hk.2 hok⟩ ⟨rfl, rfl, trivial⟩ (List.Sublist.refl _) (by omega)
          · skip
            refine OpsW.guard_yes rfl rfl ?_
            refine OpsW.det (det_move rfl) rfl ?_
            refine OpsW.guard_no rfl rfl rfl ?_
            refine OpsW.guard_no rfl rfl rfl ?_
            refine OpsW.guard_yes rfl rfl ?_
            refine OpsW.det (det_pick rfl rfl) rfl ?_
            refine OpsW.guard_yes rfl rfl ?_
            refine OpsW.det (det_not rfl) rfl ?_
            refine OpsW.det (det_pick rfl rfl) rfl ?_
            refine sNext ?_
            refine W.keep (F' := [(33, _), (3, _), (0, _)]) ⟨rfl, rfl, rfl, trivial⟩ ?_
            refine W.cond_true rfl ?_
            refine sSeq ?_
            refine W.region ?_
            refine OpsW.det (det_assign rfl) rfl ?_
            refine sNext ?_
            refine W.keep (F' := [(2, _)]) ⟨rfl, trivial⟩ ?_
            refine sRet ?_
            refine retBlk ?_
            refine retLoop ?_
            refine retBlk ?_
            exact done1 Try.results40 (rv_tmp rfl) (by rw [right_no hlt (by simp only [decide_eq_true_eq, decide_eq_false_iff_not, bne_iff_ne, bne_eq_false_iff_eq, ne_eq, Bool.not_eq_true', Bool.not_eq_false', nm_size] at hc15 hc18 hc21 hc27; unfold okB; simp only [decide_eq_false_iff_not]; omega)])
      · skip
        refine OpsW.guard_yes rfl rfl ?_
        refine OpsW.det (det_move rfl) rfl ?_
        refine OpsW.guard_no rfl rfl rfl ?_
        refine OpsW.guard_no rfl rfl rfl ?_
        refine OpsW.guard_yes rfl rfl ?_
        refine OpsW.det (det_pick rfl rfl) rfl ?_
        refine OpsW.guard_yes rfl rfl ?_
        refine OpsW.det (det_not rfl) rfl ?_
        refine OpsW.det (det_pick rfl rfl) rfl ?_
        refine OpsW.det (det_move rfl) rfl ?_
        refine OpsW.guard_yes rfl rfl ?_
        refine OpsW.det (det_move rfl) rfl ?_
        refine OpsW.guard_yes rfl rfl ?_
        refine OpsW.test (det_geq rfl rfl) rfl (fun hc27 => ?_) (fun hc27 => ?_)
        · skip
          refine OpsW.guard_yes rfl rfl ?_
          refine OpsW.det (det_move rfl) rfl ?_
          refine OpsW.guard_yes rfl rfl ?_
          refine OpsW.det (det_move rfl) rfl ?_
          refine OpsW.guard_yes rfl rfl ?_
          refine OpsW.det (det_leq rfl rfl) rfl ?_
          refine OpsW.guard_yes rfl rfl ?_
          refine OpsW.det (det_pick rfl rfl) rfl ?_
          refine OpsW.guard_yes rfl rfl ?_
          refine OpsW.det (det_not rfl) rfl ?_
          refine OpsW.det (det_pick rfl rfl) rfl ?_
          refine sNext ?_
          refine W.keep (F' := [(33, _), (3, _), (0, _)]) ⟨rfl, rfl, rfl, trivial⟩ ?_
          refine W.cond rfl (fun hc33 => ?_) (fun hc33 => ?_)
          · skip
            refine sSeq ?_
            refine W.region ?_
            refine OpsW.det (det_assign rfl) rfl ?_
            refine sNext ?_
            refine W.keep (F' := [(2, _)]) ⟨rfl, trivial⟩ ?_
            refine sRet ?_
            refine retBlk ?_
            refine retLoop ?_
            refine retBlk ?_
            exact done1 Try.results40 (rv_tmp rfl) (by rw [right_no hlt (by simp only [decide_eq_true_eq, decide_eq_false_iff_not, bne_iff_ne, bne_eq_false_iff_eq, ne_eq, Bool.not_eq_true', Bool.not_eq_false', nm_size] at hc15 hc18 hc27 hc33; unfold okB; simp only [decide_eq_false_iff_not]; omega)])
          · skip
            refine sSkip0 ?_
            refine bNext ?_
            refine W.keep (F' := [(3, _), (0, _)]) ⟨rfl, rfl, trivial⟩ ?_
            refine W.region ?_
            refine OpsW.det (det_move rfl) rfl ?_
            refine OpsW.det (det_addN (b := 1) rfl rfl (by omega)) rfl ?_
            refine OpsW.det (det_assign rfl) rfl ?_
            refine sLast ?_
            have hok : okB s[k] = true := by simp only [decide_eq_true_eq, decide_eq_false_iff_not, bne_iff_ne, bne_eq_false_iff_eq, ne_eq, Bool.not_eq_true', Bool.not_eq_false', nm_size] at hc15 hc18 hc27 hc33; unfold okB; simp only [decide_eq_true_eq]; omega
            exact rEnd (k + 1) ⟨by omega, grow1 hlt hk.2 hok⟩ ⟨rfl, rfl, trivial⟩ (List.Sublist.refl _) (by omega)
        · skip
          refine OpsW.guard_yes rfl rfl ?_
          refine OpsW.det (det_move rfl) rfl ?_
          refine OpsW.guard_no rfl rfl rfl ?_
          refine OpsW.guard_no rfl rfl rfl ?_
          refine OpsW.guard_yes rfl rfl ?_
          refine OpsW.det (det_pick rfl rfl) rfl ?_
          refine OpsW.guard_yes rfl rfl ?_
          refine OpsW.det (det_not rfl) rfl ?_
          refine OpsW.det (det_pick rfl rfl) rfl ?_
          refine sNext ?_
          refine W.keep (F' := [(33, _), (3, _), (0, _)]) ⟨rfl, rfl, rfl, trivial⟩ ?_
          refine W.cond_true rfl ?_
          refine sSeq ?_
          refine W.region ?_
          refine OpsW.det (det_assign rfl) rfl ?_
          refine sNext ?_
          refine W.keep (F' := [(2, _)]) ⟨rfl, trivial⟩ ?_
          refine sRet ?_
          refine retBlk ?_
          refine retLoop ?_
          refine retBlk ?_
          exact done1 Try.results40 (rv_tmp rfl) (by rw [right_no hlt (by simp only [decide_eq_true_eq, decide_eq_false_iff_not, bne_iff_ne, bne_eq_false_iff_eq, ne_eq, Bool.not_eq_true', Bool.not_eq_false', nm_size] at hc15 hc18 hc27; unfold okB; simp only [decide_eq_false_iff_not]; omega)])
    · skip
      refine OpsW.det (det_move rfl) rfl ?_
      refine OpsW.guard_no rfl rfl rfl ?_
      refine OpsW.guard_no rfl rfl rfl ?_
      refine OpsW.guard_no rfl rfl rfl ?_
      refine OpsW.guard_un rfl rfl rfl ?_
      refine OpsW.guard_un rfl rfl rfl ?_
      refine OpsW.guard_no rfl rfl rfl ?_
      refine OpsW.guard_no rfl rfl rfl ?_
      refine OpsW.det (det_pick rfl rfl) rfl ?_
      refine OpsW.det (det_move rfl) rfl ?_
      refine OpsW.guard_no rfl rfl rfl ?_
      refine OpsW.guard_no rfl rfl rfl ?_
      refine OpsW.guard_no rfl rfl rfl ?_
      refine OpsW.guard_un rfl rfl rfl ?_
      refine OpsW.guard_un rfl rfl rfl ?_
      refine OpsW.guard_no rfl rfl rfl ?_
      refine OpsW.guard_no rfl rfl rfl ?_
      refine OpsW.det (det_pick rfl rfl) rfl ?_
      refine sNext ?_
      refine W.keep (F' := [(33, _), (3, _), (0, _)]) ⟨rfl, rfl, rfl, trivial⟩ ?_
      refine W.cond_false rfl ?_
      refine sSkip0 ?_
      refine bNext ?_
      refine W.keep (F' := [(3, _), (0, _)]) ⟨rfl, rfl, trivial⟩ ?_
      refine W.region ?_
      refine OpsW.det (det_move rfl) rfl ?_
      refine OpsW.det (det_addN (b := 1) rfl rfl (by omega)) rfl ?_
      refine OpsW.det (det_assign rfl) rfl ?_
      refine sLast ?_
      have hok : okB s[k] = true := by simp only [decide_eq_true_eq, decide_eq_false_iff_not, bne_iff_ne, bne_eq_false_iff_eq, ne_eq, Bool.not_eq_true', Bool.not_eq_false', nm_size] at hc15; unfold okB; simp only [decide_eq_true_eq]; omega
      exact rEnd (k + 1) ⟨by omega, grow1 hlt hk.2 hok⟩ ⟨rfl, rfl, trivial⟩ (List.Sublist.refl _) (by omega)
  · skip
    refine sExit ?_
    refine xLoop ?_
    refine xHere ?_
    refine W.keep (F' := [(0, _)]) ⟨rfl, trivial⟩ ?_
    refine sSeq ?_
    refine W.region ?_
    refine OpsW.det (det_move rfl) rfl ?_
    refine OpsW.det (det_len_str u9 rfl) rfl ?_
    refine OpsW.test (det_gtr rfl rfl) rfl (fun hc36 => ?_) (fun hc36 => ?_)
    · skip
      refine OpsW.det (det_move rfl) rfl ?_
      refine OpsW.guard_yes rfl rfl ?_
      refine OpsW.det (det_move rfl) rfl ?_
      refine OpsW.guard_yes rfl rfl ?_
      refine OpsW.det (det_len_str u9 rfl) rfl ?_
      refine OpsW.guard_yes rfl rfl ?_
      refine OpsW.det (det_lss rfl rfl) rfl ?_
      refine OpsW.det (det_pick rfl rfl) rfl ?_
      refine OpsW.det (det_assign rfl) rfl ?_
      refine sNext ?_
      refine W.keep (F' := [(2, _)]) ⟨rfl, trivial⟩ ?_
      refine sRet ?_
      exact done1 Try.results40 (rv_tmp rfl) (by simp only [decide_eq_true_eq, decide_eq_false_iff_not, nm_size] at hc8 hc36; have := all_of (by omega) hk.2; simp only [right, this, Bool.and_true]; congr 1; simp only [decide_eq_decide]; omega)
    · skip
      refine OpsW.det (det_move rfl) rfl ?_
      refine OpsW.guard_no rfl rfl rfl ?_
      refine OpsW.guard_no rfl rfl rfl ?_
      refine OpsW.guard_no rfl rfl rfl ?_
      refine OpsW.det (det_pick rfl rfl) rfl ?_
      refine OpsW.det (det_assign rfl) rfl ?_
      refine sNext ?_
      refine W.keep (F' := [(2, _)]) ⟨rfl, trivial⟩ ?_
      refine sRet ?_
      exact done1 Try.results40 (rv_tmp rfl) (by simp only [decide_eq_false_iff_not, nm_size] at hc36; simp [right]; omega)

end Go.Dk
