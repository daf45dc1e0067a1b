/-
  Which names are names: the walks. Conditions: the text is no longer than a text can be.
-/
import Derived.Test.YthiojfjodnnalaaRow
import Derived.Test.YthiojfjodnnalaaProg
namespace Go.DiskR
open Go Go.Vm Go.RowKit Go.Proofs 
attribute [local irreducible] W OpsW Det Fresh New Writes Vm.Pure Makes Changes ExternTo BuildTo ZeroTo FieldTo IndexTo BinTo SliceTo Vm.Enters
set_option linter.unusedVariables false
set_option linter.unusedSimpArgs false

abbrev GH : Hp := []
def okB (b : UInt8) : Bool := decide ((97 ≤ (b.toNat : Int) ∧ (b.toNat : Int) ≤ 122) ∨ (48 ≤ (b.toNat : Int) ∧ (b.toNat : Int) ≤ 57) ∨ (b.toNat : Int) = 45)
def right (s : ByteArray) : Bool := decide (0 < s.size ∧ s.size ≤ 24) && s.data.toList.all okB
theorem right_no {s : ByteArray} {k : Nat} {v : UInt8} (hv : s.data[k]? = some v) (hb : okB v = false) : right s = false := by
  unfold right
  have : s.data.toList.all okB = false := by
    rw [List.all_eq_false]
    exact ⟨v, by rw [Array.mem_toList_iff]; exact Array.mem_of_getElem? hv, by simp [hb]⟩
  simp [this]
theorem all_of {s : ByteArray} {k : Nat} (hk : s.size ≤ k) (h : ∀ j v, j < k → s.data[j]? = some v → okB v = true) : s.data.toList.all okB = true := by
  rw [List.all_eq_true]
  intro v hv
  rw [Array.mem_toList_iff] at hv
  obtain ⟨j, hj⟩ := Array.getElem?_of_mem hv
  have hlt : j < s.data.size := (Array.getElem?_eq_some_iff.1 hj).1
  exact h j v (by have : j < s.size := hlt; omega) hj
theorem grow {s : ByteArray} {k : Nat} {v : UInt8} (h : ∀ j v, j < k → s.data[j]? = some v → okB v = true) (hv : s.data[k]? = some v) (hb : okB v = true) : ∀ j v, j < k + 1 → s.data[j]? = some v → okB v = true := by
  intro j u hj hu
  by_cases he : j = k
  · subst he; rw [hv] at hu; cases hu; exact hb
  · exact h j u (by omega) hu
theorem size_pos {s : ByteArray} (h : decide (s = ByteArray.mk #[]) = false) : 0 < s.size := by
  rcases Nat.eq_zero_or_pos s.size with h0 | h0
  · have : s = ByteArray.mk #[] := by
      cases s with
      | mk d => congr 1; exact Array.eq_empty_of_size_eq_zero h0
    subst this
    simp at h
  · exact h0
theorem size_zero {s : ByteArray} (h : decide (s = ByteArray.mk #[]) = true) : s.size = 0 := by
  have h1 : s = ByteArray.mk #[] := by simpa using h
  subst h1; rfl

theorem en4 : Vm.Enters Try.prog 4 := Vm.Enters.of fun _ _ => by kernel_rfl
theorem en5 : Vm.Enters Try.prog 5 := Vm.Enters.of fun _ _ => by kernel_rfl
theorem sz5 : sizeIn Try.prog 5 = some 1 := by kernel_rfl
theorem ty5 : TyC Try.prog 5 := ⟨by kernel_rfl, by kernel_rfl⟩
theorem u23 : Try.prog.underlying 23 = some (.slice 5) := by kernel_rfl
theorem u4 : Try.prog.underlying 4 = some (.bool) := by kernel_rfl
theorem u5 : Try.prog.underlying 5 = some (.int .u8) := by kernel_rfl
theorem u9 : Try.prog.underlying 9 = some (.string) := by kernel_rfl
theorem Right_ok {s : ByteArray} (hs : s.size ≤ 9223372036854775807) {w : World} (hG : Blocks GH w)  : Vm.Pure Try.prog 4 #[.string s] w (.bool (right s)) := by
  refine pure_of_W (n := 38) (args := [.string s]) Try.func4 rfl Try.ntmps4 (Nat.le_of_ble_eq_true rfl) hG ?_
  refine sStart ?_
  refine sSeq ?_
  refine W.region ?_
  refine OpsW.det (det_assign rfl) rfl ?_
  refine sNext ?_
  refine W.keep (F' := [(0, _)]) ⟨rfl, trivial⟩ ?_
  refine sSeq ?_
  refine sSeq ?_
  refine W.region ?_
  refine OpsW.det (det_move rfl) rfl ?_
  refine OpsW.test (det_streql rfl rfl) rfl (fun hc6 => ?_) (fun hc6 => ?_)
  · skip
    refine OpsW.det (det_move rfl) rfl ?_
    refine OpsW.guard_no rfl rfl rfl ?_
    refine OpsW.guard_no rfl rfl rfl ?_
    refine OpsW.guard_no rfl rfl rfl ?_
    refine OpsW.det (det_pick rfl rfl) rfl ?_
    refine sNext ?_
    refine W.keep (F' := [(11, _), (0, _)]) ⟨rfl, rfl, trivial⟩ ?_
    refine W.cond_true rfl ?_
    refine sSeq ?_
    refine W.region ?_
    refine OpsW.det (det_assign rfl) rfl ?_
    refine sNext ?_
    refine W.keep (F' := [(2, _)]) ⟨rfl, trivial⟩ ?_
    refine sRet ?_
    exact done1 Try.results4 (rv_tmp rfl) (by have h0 := size_zero hc6; simp [right, h0])
  · skip
    refine OpsW.det (det_move rfl) rfl ?_
    refine OpsW.guard_yes rfl rfl ?_
    refine OpsW.det (det_move rfl) rfl ?_
    refine OpsW.guard_yes rfl rfl ?_
    refine OpsW.det (det_len_str u9 rfl) rfl ?_
    refine OpsW.guard_yes rfl rfl ?_
    refine OpsW.det (det_gtr rfl rfl) rfl ?_
    refine OpsW.det (det_pick rfl rfl) rfl ?_
    refine sNext ?_
    refine W.keep (F' := [(11, _), (0, _)]) ⟨rfl, rfl, trivial⟩ ?_
    refine W.cond rfl (fun hc11 => ?_) (fun hc11 => ?_)
    · skip
      refine sSeq ?_
      refine W.region ?_
      refine OpsW.det (det_assign rfl) rfl ?_
      refine sNext ?_
      refine W.keep (F' := [(2, _)]) ⟨rfl, trivial⟩ ?_
      refine sRet ?_
      exact done1 Try.results4 (rv_tmp rfl) (by simp only [decide_eq_true_eq] at hc11; simp [right]; omega)
    · skip
      refine sSkip ?_
      refine sSeq ?_
      refine sSeq ?_
      refine W.region ?_
      refine OpsW.det (det_move rfl) rfl ?_
      refine OpsW.new (new_bytes u9 u23 u5 rfl) rfl fun p13 hp13 => ?_
      refine OpsW.det (det_len u23 rfl) rfl ?_
      refine OpsW.det (det_move rfl) rfl ?_
      refine sNext ?_
      refine W.keep (F' := [(15, _), (14, _), (13, _)]) ⟨rfl, rfl, rfl, trivial⟩ ?_
      refine sBlock ?_
      refine sLoop (σ := Nat) (fun k => [(15, .int .i64 (k : Nat)), (14, .int .i64 s.size), (13, .slice (some ⟨p13.1, 0, none⟩) s.size p13.2.1)]) (fun k => [(p13.1, .cells (byteCells s ++ p13.2.2).toArray 5 ((byteCells s ++ p13.2.2).length, (byteCells s ++ p13.2.2).length + 1))]) (fun k => k ≤ s.size ∧ ∀ j v, j < k → s.data[j]? = some v → okB v = true) (fun k => s.size - k) 0 ⟨by omega, fun j v hj => by omega⟩ ⟨rfl, rfl, rfl, trivial⟩ (List.Sublist.refl _) ?_
      intro k hk
      refine sSeq ?_
      refine W.region ?_
      refine OpsW.det (det_lss rfl rfl) rfl ?_
      refine sNext ?_
      refine sSeq ?_
      refine W.cond rfl (fun hc16 => ?_) (fun hc16 => ?_)
      · skip
        have hlt : k < s.size := by simp only [decide_eq_true_eq] at hc16; omega
        obtain ⟨v, hv⟩ := byte_at hlt
        have hcell : (byteCells s ++ p13.2.2)[0 + ((k : Nat) : Int).toNat * 1]? = some (.int .u8 v.toNat) := by simpa using byteCells_get hv
        refine sSkip ?_
        refine sSeq ?_
        refine sBlock ?_
        refine sSeq ?_
        refine W.region ?_
        refine OpsW.det (det_indexAddr_sl u23 sz5 rfl rfl ⟨by omega, by omega⟩) rfl ?_
        refine OpsW.det (det_loadC ty5 rfl (List.Mem.head _) hcell) rfl ?_
        refine OpsW.det (det_assign rfl) rfl ?_
        refine sNext ?_
        refine W.keep (F' := [(4, _), (15, _), (14, _), (13, _)]) ⟨rfl, rfl, rfl, rfl, trivial⟩ ?_
        refine sSeq ?_
        refine W.region ?_
        refine OpsW.det (det_move rfl) rfl ?_
        refine OpsW.test (det_lss rfl rfl) rfl (fun hc20 => ?_) (fun hc20 => ?_)
        · skip
          refine OpsW.det (det_move rfl) rfl ?_
          refine OpsW.guard_no rfl rfl rfl ?_
          refine OpsW.guard_no rfl rfl rfl ?_
          refine OpsW.det (det_pick rfl rfl) rfl ?_
          refine OpsW.det (det_move rfl) rfl ?_
          refine OpsW.guard_yes rfl rfl ?_
          refine OpsW.det (det_move rfl) rfl ?_
          refine OpsW.guard_yes rfl rfl ?_
          refine OpsW.test (det_lss rfl rfl) rfl (fun hc27 => ?_) (fun hc27 => ?_)
          · skip
            refine OpsW.guard_yes rfl rfl ?_
            refine OpsW.det (det_move rfl) rfl ?_
            refine OpsW.guard_no rfl rfl rfl ?_
            refine OpsW.guard_no rfl rfl rfl ?_
            refine OpsW.guard_yes rfl rfl ?_
            refine OpsW.det (det_pick rfl rfl) rfl ?_
            refine OpsW.det (det_pick rfl rfl) rfl ?_
            refine OpsW.det (det_move rfl) rfl ?_
            refine OpsW.guard_yes rfl rfl ?_
            refine OpsW.det (det_move rfl) rfl ?_
            refine OpsW.guard_yes rfl rfl ?_
            refine OpsW.det (det_neq rfl rfl) rfl ?_
            refine OpsW.det (det_pick rfl rfl) rfl ?_
            refine sNext ?_
            refine W.keep (F' := [(36, _), (15, _), (14, _), (13, _)]) ⟨rfl, rfl, rfl, rfl, trivial⟩ ?_
            refine W.cond rfl (fun hc36 => ?_) (fun hc36 => ?_)
            · skip
              refine sSeq ?_
              refine W.region ?_
              refine OpsW.det (det_assign rfl) rfl ?_
              refine sNext ?_
              refine W.keep (F' := [(2, _)]) ⟨rfl, trivial⟩ ?_
              refine sRet ?_
              refine retBlk ?_
              refine retLoop ?_
              refine retBlk ?_
              exact done1 Try.results4 (rv_tmp rfl) (by rw [right_no hv (by simp only [decide_eq_true_eq, decide_eq_false_iff_not, bne_iff_ne, bne_eq_false_iff_eq, ne_eq, Bool.not_eq_true', Bool.not_eq_false'] at hc16 hc20 hc27 hc36; unfold okB; simp only [decide_eq_false_iff_not]; omega)])
            · skip
              refine sSkip0 ?_
              refine bNext ?_
              refine W.keep (F' := [(15, _), (14, _), (13, _)]) ⟨rfl, rfl, rfl, trivial⟩ ?_
              refine W.region ?_
              refine OpsW.det (det_addN (b := 1) rfl rfl (by omega)) rfl ?_
              refine OpsW.det (det_move rfl) rfl ?_
              refine sLast ?_
              have hok : okB v = true := by simp only [decide_eq_true_eq, decide_eq_false_iff_not, bne_iff_ne, bne_eq_false_iff_eq, ne_eq, Bool.not_eq_true', Bool.not_eq_false'] at hc16 hc20 hc27 hc36; unfold okB; simp only [decide_eq_true_eq]; omega
              exact rEnd (k + 1) ⟨by omega, grow hk.2 hv hok⟩ ⟨rfl, rfl, rfl, trivial⟩ (List.Sublist.refl _) (by omega)
          · skip
            refine OpsW.guard_yes rfl rfl ?_
            refine OpsW.det (det_move rfl) rfl ?_
            refine OpsW.guard_yes rfl rfl ?_
            refine OpsW.det (det_move rfl) rfl ?_
            refine OpsW.guard_yes rfl rfl ?_
            refine OpsW.test (det_gtr rfl rfl) rfl (fun hc30 => ?_) (fun hc30 => ?_)
            · skip
              refine OpsW.guard_yes rfl rfl ?_
              refine OpsW.det (det_pick rfl rfl) rfl ?_
              refine OpsW.det (det_pick rfl rfl) rfl ?_
              refine OpsW.det (det_move rfl) rfl ?_
              refine OpsW.guard_yes rfl rfl ?_
              refine OpsW.det (det_move rfl) rfl ?_
              refine OpsW.guard_yes rfl rfl ?_
              refine OpsW.det (det_neq rfl rfl) rfl ?_
              refine OpsW.det (det_pick rfl rfl) rfl ?_
              refine sNext ?_
              refine W.keep (F' := [(36, _), (15, _), (14, _), (13, _)]) ⟨rfl, rfl, rfl, rfl, trivial⟩ ?_
              refine W.cond rfl (fun hc36 => ?_) (fun hc36 => ?_)
              · skip
                refine sSeq ?_
                refine W.region ?_
                refine OpsW.det (det_assign rfl) rfl ?_
                refine sNext ?_
                refine W.keep (F' := [(2, _)]) ⟨rfl, trivial⟩ ?_
                refine sRet ?_
                refine retBlk ?_
                refine retLoop ?_
                refine retBlk ?_
                exact done1 Try.results4 (rv_tmp rfl) (by rw [right_no hv (by simp only [decide_eq_true_eq, decide_eq_false_iff_not, bne_iff_ne, bne_eq_false_iff_eq, ne_eq, Bool.not_eq_true', Bool.not_eq_false'] at hc16 hc20 hc27 hc30 hc36; unfold okB; simp only [decide_eq_false_iff_not]; omega)])
              · skip
                refine sSkip0 ?_
                refine bNext ?_
                refine W.keep (F' := [(15, _), (14, _), (13, _)]) ⟨rfl, rfl, rfl, trivial⟩ ?_
                refine W.region ?_
                refine OpsW.det (det_addN (b := 1) rfl rfl (by omega)) rfl ?_
                refine OpsW.det (det_move rfl) rfl ?_
                refine sLast ?_
                have hok : okB v = true := by simp only [decide_eq_true_eq, decide_eq_false_iff_not, bne_iff_ne, bne_eq_false_iff_eq, ne_eq, Bool.not_eq_true', Bool.not_eq_false'] at hc16 hc20 hc27 hc30 hc36; unfold okB; simp only [decide_eq_true_eq]; omega
                exact rEnd (k + 1) ⟨by omega, grow hk.2 hv hok⟩ ⟨rfl, rfl, rfl, trivial⟩ (List.Sublist.refl _) (by omega)
            · skip
              refine OpsW.guard_yes rfl rfl ?_
              refine OpsW.det (det_pick rfl rfl) rfl ?_
              refine OpsW.det (det_pick rfl rfl) rfl ?_
              refine OpsW.det (det_move rfl) rfl ?_
              refine OpsW.guard_no rfl rfl rfl ?_
              refine OpsW.guard_no rfl rfl rfl ?_
              refine OpsW.det (det_pick rfl rfl) rfl ?_
              refine sNext ?_
              refine W.keep (F' := [(36, _), (15, _), (14, _), (13, _)]) ⟨rfl, rfl, rfl, rfl, trivial⟩ ?_
              refine W.cond_false rfl ?_
              refine sSkip0 ?_
              refine bNext ?_
              refine W.keep (F' := [(15, _), (14, _), (13, _)]) ⟨rfl, rfl, rfl, trivial⟩ ?_
              refine W.region ?_
              refine OpsW.det (det_addN (b := 1) rfl rfl (by omega)) rfl ?_
              refine OpsW.det (det_move rfl) rfl ?_
              refine sLast ?_
              have hok : okB v = true := by simp only [decide_eq_true_eq, decide_eq_false_iff_not, bne_iff_ne, bne_eq_false_iff_eq, ne_eq, Bool.not_eq_true', Bool.not_eq_false'] at hc16 hc20 hc27 hc30; unfold okB; simp only [decide_eq_true_eq]; omega
              exact rEnd (k + 1) ⟨by omega, grow hk.2 hv hok⟩ ⟨rfl, rfl, rfl, trivial⟩ (List.Sublist.refl _) (by omega)
        · skip
          refine OpsW.det (det_move rfl) rfl ?_
          refine OpsW.guard_yes rfl rfl ?_
          refine OpsW.det (det_move rfl) rfl ?_
          refine OpsW.guard_yes rfl rfl ?_
          refine OpsW.test (det_gtr rfl rfl) rfl (fun hc23 => ?_) (fun hc23 => ?_)
          · skip
            refine OpsW.det (det_pick rfl rfl) rfl ?_
            refine OpsW.det (det_move rfl) rfl ?_
            refine OpsW.guard_yes rfl rfl ?_
            refine OpsW.det (det_move rfl) rfl ?_
            refine OpsW.guard_yes rfl rfl ?_
            refine OpsW.test (det_lss rfl rfl) rfl (fun hc27 => ?_) (fun hc27 => ?_)
            · skip
              refine OpsW.guard_yes rfl rfl ?_
              refine OpsW.det (det_move rfl) rfl ?_
              refine OpsW.guard_no rfl rfl rfl ?_
              refine OpsW.guard_no rfl rfl rfl ?_
              refine OpsW.guard_yes rfl rfl ?_
              refine OpsW.det (det_pick rfl rfl) rfl ?_
              refine OpsW.det (det_pick rfl rfl) rfl ?_
              refine OpsW.det (det_move rfl) rfl ?_
              refine OpsW.guard_yes rfl rfl ?_
              refine OpsW.det (det_move rfl) rfl ?_
              refine OpsW.guard_yes rfl rfl ?_
              refine OpsW.det (det_neq rfl rfl) rfl ?_
              refine OpsW.det (det_pick rfl rfl) rfl ?_
              refine sNext ?_
              refine W.keep (F' := [(36, _), (15, _), (14, _), (13, _)]) ⟨rfl, rfl, rfl, rfl, trivial⟩ ?_
              refine W.cond rfl (fun hc36 => ?_) (fun hc36 => ?_)
              · skip
                refine sSeq ?_
                refine W.region ?_
                refine OpsW.det (det_assign rfl) rfl ?_
                refine sNext ?_
                refine W.keep (F' := [(2, _)]) ⟨rfl, trivial⟩ ?_
                refine sRet ?_
                refine retBlk ?_
                refine retLoop ?_
                refine retBlk ?_
                exact done1 Try.results4 (rv_tmp rfl) (by rw [right_no hv (by simp only [decide_eq_true_eq, decide_eq_false_iff_not, bne_iff_ne, bne_eq_false_iff_eq, ne_eq, Bool.not_eq_true', Bool.not_eq_false'] at hc16 hc20 hc23 hc27 hc36; unfold okB; simp only [decide_eq_false_iff_not]; omega)])
              · skip
                refine sSkip0 ?_
                refine bNext ?_
                refine W.keep (F' := [(15, _), (14, _), (13, _)]) ⟨rfl, rfl, rfl, trivial⟩ ?_
                refine W.region ?_
                refine OpsW.det (det_addN (b := 1) rfl rfl (by omega)) rfl ?_
                refine OpsW.det (det_move rfl) rfl ?_
                refine sLast ?_
                have hok : okB v = true := by simp only [decide_eq_true_eq, decide_eq_false_iff_not, bne_iff_ne, bne_eq_false_iff_eq, ne_eq, Bool.not_eq_true', Bool.not_eq_false'] at hc16 hc20 hc23 hc27 hc36; unfold okB; simp only [decide_eq_true_eq]; omega
                exact rEnd (k + 1) ⟨by omega, grow hk.2 hv hok⟩ ⟨rfl, rfl, rfl, trivial⟩ (List.Sublist.refl _) (by omega)
            · skip
              refine OpsW.guard_yes rfl rfl ?_
              refine OpsW.det (det_move rfl) rfl ?_
              refine OpsW.guard_yes rfl rfl ?_
              refine OpsW.det (det_move rfl) rfl ?_
              refine OpsW.guard_yes rfl rfl ?_
              refine OpsW.test (det_gtr rfl rfl) rfl (fun hc30 => ?_) (fun hc30 => ?_)
              · skip
                refine OpsW.guard_yes rfl rfl ?_
                refine OpsW.det (det_pick rfl rfl) rfl ?_
                refine OpsW.det (det_pick rfl rfl) rfl ?_
                refine OpsW.det (det_move rfl) rfl ?_
                refine OpsW.guard_yes rfl rfl ?_
                refine OpsW.det (det_move rfl) rfl ?_
                refine OpsW.guard_yes rfl rfl ?_
                refine OpsW.det (det_neq rfl rfl) rfl ?_
                refine OpsW.det (det_pick rfl rfl) rfl ?_
                refine sNext ?_
                refine W.keep (F' := [(36, _), (15, _), (14, _), (13, _)]) ⟨rfl, rfl, rfl, rfl, trivial⟩ ?_
                refine W.cond rfl (fun hc36 => ?_) (fun hc36 => ?_)
                · skip
                  refine sSeq ?_
                  refine W.region ?_
                  refine OpsW.det (det_assign rfl) rfl ?_
                  refine sNext ?_
                  refine W.keep (F' := [(2, _)]) ⟨rfl, trivial⟩ ?_
                  refine sRet ?_
                  refine retBlk ?_
                  refine retLoop ?_
                  refine retBlk ?_
                  exact done1 Try.results4 (rv_tmp rfl) (by rw [right_no hv (by simp only [decide_eq_true_eq, decide_eq_false_iff_not, bne_iff_ne, bne_eq_false_iff_eq, ne_eq, Bool.not_eq_true', Bool.not_eq_false'] at hc16 hc20 hc23 hc27 hc30 hc36; unfold okB; simp only [decide_eq_false_iff_not]; omega)])
                · skip
                  refine sSkip0 ?_
                  refine bNext ?_
                  refine W.keep (F' := [(15, _), (14, _), (13, _)]) ⟨rfl, rfl, rfl, trivial⟩ ?_
                  refine W.region ?_
                  refine OpsW.det (det_addN (b := 1) rfl rfl (by omega)) rfl ?_
                  refine OpsW.det (det_move rfl) rfl ?_
                  refine sLast ?_
                  have hok : okB v = true := by simp only [decide_eq_true_eq, decide_eq_false_iff_not, bne_iff_ne, bne_eq_false_iff_eq, ne_eq, Bool.not_eq_true', Bool.not_eq_false'] at hc16 hc20 hc23 hc27 hc30 hc36; unfold okB; simp only [decide_eq_true_eq]; omega
                  exact rEnd (k + 1) ⟨by omega, grow hk.2 hv hok⟩ ⟨rfl, rfl, rfl, trivial⟩ (List.Sublist.refl _) (by omega)
              · skip
                refine OpsW.guard_yes rfl rfl ?_
                refine OpsW.det (det_pick rfl rfl) rfl ?_
                refine OpsW.det (det_pick rfl rfl) rfl ?_
                refine OpsW.det (det_move rfl) rfl ?_
                refine OpsW.guard_no rfl rfl rfl ?_
                refine OpsW.guard_no rfl rfl rfl ?_
                refine OpsW.det (det_pick rfl rfl) rfl ?_
                refine sNext ?_
                refine W.keep (F' := [(36, _), (15, _), (14, _), (13, _)]) ⟨rfl, rfl, rfl, rfl, trivial⟩ ?_
                refine W.cond_false rfl ?_
                refine sSkip0 ?_
                refine bNext ?_
                refine W.keep (F' := [(15, _), (14, _), (13, _)]) ⟨rfl, rfl, rfl, trivial⟩ ?_
                refine W.region ?_
                refine OpsW.det (det_addN (b := 1) rfl rfl (by omega)) rfl ?_
                refine OpsW.det (det_move rfl) rfl ?_
                refine sLast ?_
                have hok : okB v = true := by simp only [decide_eq_true_eq, decide_eq_false_iff_not, bne_iff_ne, bne_eq_false_iff_eq, ne_eq, Bool.not_eq_true', Bool.not_eq_false'] at hc16 hc20 hc23 hc27 hc30; unfold okB; simp only [decide_eq_true_eq]; omega
                exact rEnd (k + 1) ⟨by omega, grow hk.2 hv hok⟩ ⟨rfl, rfl, rfl, trivial⟩ (List.Sublist.refl _) (by omega)
          · skip
            refine OpsW.det (det_pick rfl rfl) rfl ?_
            refine OpsW.det (det_move rfl) rfl ?_
            refine OpsW.guard_no rfl rfl rfl ?_
            refine OpsW.guard_no rfl rfl rfl ?_
            refine OpsW.guard_no rfl rfl rfl ?_
            refine OpsW.guard_un rfl rfl rfl ?_
            refine OpsW.guard_un rfl rfl rfl ?_
            refine OpsW.guard_no rfl rfl rfl ?_
            refine OpsW.det (det_pick rfl rfl) rfl ?_
            refine OpsW.det (det_move rfl) rfl ?_
            refine OpsW.guard_no rfl rfl rfl ?_
            refine OpsW.guard_no rfl rfl rfl ?_
            refine OpsW.det (det_pick rfl rfl) rfl ?_
            refine sNext ?_
            refine W.keep (F' := [(36, _), (15, _), (14, _), (13, _)]) ⟨rfl, rfl, rfl, rfl, trivial⟩ ?_
            refine W.cond_false rfl ?_
            refine sSkip0 ?_
            refine bNext ?_
            refine W.keep (F' := [(15, _), (14, _), (13, _)]) ⟨rfl, rfl, rfl, trivial⟩ ?_
            refine W.region ?_
            refine OpsW.det (det_addN (b := 1) rfl rfl (by omega)) rfl ?_
            refine OpsW.det (det_move rfl) rfl ?_
            refine sLast ?_
            have hok : okB v = true := by simp only [decide_eq_true_eq, decide_eq_false_iff_not, bne_iff_ne, bne_eq_false_iff_eq, ne_eq, Bool.not_eq_true', Bool.not_eq_false'] at hc16 hc20 hc23; unfold okB; simp only [decide_eq_true_eq]; omega
            exact rEnd (k + 1) ⟨by omega, grow hk.2 hv hok⟩ ⟨rfl, rfl, rfl, trivial⟩ (List.Sublist.refl _) (by omega)
      · skip
        refine sExit ?_
        refine xLoop ?_
        refine xHere ?_
        refine W.keep (F' := []) trivial ?_
        refine sSeq ?_
        refine W.region ?_
        refine OpsW.det (det_assign rfl) rfl ?_
        refine sNext ?_
        refine sRet ?_
        exact done1 Try.results4 (rv_tmp rfl) (by simp only [decide_eq_false_iff_not] at hc16 hc11; have h0 := size_pos hc6; have := all_of (by omega) hk.2; simp only [right, this, Bool.and_true]; rw [show decide (0 < s.size ∧ s.size ≤ 24) = true from by simp only [decide_eq_true_eq]; omega])
theorem RefRight_ok {s : ByteArray} (hs : s.size ≤ 9223372036854775807) {w : World} (hG : Blocks GH w)  : Vm.Pure Try.prog 5 #[.string s] w (.bool (right s)) := by
  refine pure_of_W (n := 42) (args := [.string s]) Try.func5 rfl Try.ntmps5 (Nat.le_of_ble_eq_true rfl) hG ?_
  refine sStart ?_
  refine sSeq ?_
  refine W.region ?_
  refine OpsW.det (det_assign rfl) rfl ?_
  refine sNext ?_
  refine W.keep (F' := [(0, _)]) ⟨rfl, trivial⟩ ?_
  refine sSeq ?_
  refine sSeq ?_
  refine W.region ?_
  refine OpsW.det (det_assign rfl) rfl ?_
  refine sNext ?_
  refine sBlock ?_
  refine sLoop (σ := Nat) (fun k => [(3, .int .i64 (k : Nat)), (0, .string s)]) (fun k => []) (fun k => k ≤ s.size ∧ ∀ j v, j < k → s.data[j]? = some v → okB v = true) (fun k => s.size - k) 0 ⟨by omega, fun j v hj => by omega⟩ ⟨rfl, rfl, trivial⟩ (List.Sublist.refl _) ?_
  intro k hk
  refine sSeq ?_
  refine sSeq ?_
  refine W.region ?_
  refine OpsW.det (det_move rfl) rfl ?_
  refine OpsW.det (det_move rfl) rfl ?_
  refine OpsW.det (det_len_str u9 rfl) rfl ?_
  refine OpsW.det (det_lss rfl rfl) rfl ?_
  refine sNext ?_
  refine W.keep (F' := [(8, _), (3, _), (0, _)]) ⟨rfl, rfl, rfl, trivial⟩ ?_
  refine W.cond rfl (fun hc8 => ?_) (fun hc8 => ?_)
  · skip
    have hlt : k < s.size := by simp only [decide_eq_true_eq] at hc8; omega
    obtain ⟨v, hv⟩ := byte_at hlt
    refine sSkip ?_
    refine sSeq ?_
    refine sBlock ?_
    refine sSeq ?_
    refine W.region ?_
    refine OpsW.det (det_move rfl) rfl ?_
    refine OpsW.det (det_move rfl) rfl ?_
    refine OpsW.det (det_strindex u9 rfl rfl ⟨by omega, hv⟩) rfl ?_
    refine OpsW.det (det_assign rfl) rfl ?_
    refine sNext ?_
    refine W.keep (F' := [(4, _), (3, _), (0, _)]) ⟨rfl, rfl, rfl, trivial⟩ ?_
    refine sSeq ?_
    refine W.region ?_
    refine OpsW.det (det_move rfl) rfl ?_
    refine OpsW.test (det_neq rfl rfl) rfl (fun hc15 => ?_) (fun hc15 => ?_)
    · skip
      refine OpsW.det (det_move rfl) rfl ?_
      refine OpsW.guard_yes rfl rfl ?_
      refine OpsW.det (det_move rfl) rfl ?_
      refine OpsW.guard_yes rfl rfl ?_
      refine OpsW.test (det_geq rfl rfl) rfl (fun hc18 => ?_) (fun hc18 => ?_)
      · skip
        refine OpsW.guard_yes rfl rfl ?_
        refine OpsW.det (det_move rfl) rfl ?_
        refine OpsW.guard_yes rfl rfl ?_
        refine OpsW.det (det_move rfl) rfl ?_
        refine OpsW.guard_yes rfl rfl ?_
        refine OpsW.test (det_leq rfl rfl) rfl (fun hc21 => ?_) (fun hc21 => ?_)
        · skip
          refine OpsW.guard_yes rfl rfl ?_
          refine OpsW.det (det_pick rfl rfl) rfl ?_
          refine OpsW.guard_yes rfl rfl ?_
          refine OpsW.det (det_not rfl) rfl ?_
          refine OpsW.det (det_pick rfl rfl) rfl ?_
          refine OpsW.det (det_move rfl) rfl ?_
          refine OpsW.guard_no rfl rfl rfl ?_
          refine OpsW.guard_no rfl rfl rfl ?_
          refine OpsW.guard_no rfl rfl rfl ?_
          refine OpsW.guard_un rfl rfl rfl ?_
          refine OpsW.guard_un rfl rfl rfl ?_
          refine OpsW.guard_no rfl rfl rfl ?_
          refine OpsW.guard_no rfl rfl rfl ?_
          refine OpsW.det (det_pick rfl rfl) rfl ?_
          refine sNext ?_
          refine W.keep (F' := [(33, _), (3, _), (0, _)]) ⟨rfl, rfl, rfl, trivial⟩ ?_
          refine W.cond_false rfl ?_
          refine sSkip0 ?_
          refine bNext ?_
          refine W.keep (F' := [(3, _), (0, _)]) ⟨rfl, rfl, trivial⟩ ?_
          refine W.region ?_
          refine OpsW.det (det_move rfl) rfl ?_
          refine OpsW.det (det_addN (b := 1) rfl rfl (by omega)) rfl ?_
          refine OpsW.det (det_assign rfl) rfl ?_
          refine sLast ?_
          have hok : okB v = true := by simp only [decide_eq_true_eq, decide_eq_false_iff_not, bne_iff_ne, bne_eq_false_iff_eq, ne_eq, Bool.not_eq_true', Bool.not_eq_false'] at hc15 hc18 hc21; unfold okB; simp only [decide_eq_true_eq]; omega
          exact rEnd (k + 1) ⟨by omega, grow hk.2 hv hok⟩ ⟨rfl, rfl, trivial⟩ (List.Sublist.refl _) (by omega)
        · skip
          refine OpsW.guard_yes rfl rfl ?_
          refine OpsW.det (det_pick rfl rfl) rfl ?_
          refine OpsW.guard_yes rfl rfl ?_
          refine OpsW.det (det_not rfl) rfl ?_
          refine OpsW.det (det_pick rfl rfl) rfl ?_
          refine OpsW.det (det_move rfl) rfl ?_
          refine OpsW.guard_yes rfl rfl ?_
          refine OpsW.det (det_move rfl) rfl ?_
          refine OpsW.guard_yes rfl rfl ?_
          refine OpsW.test (det_geq rfl rfl) rfl (fun hc27 => ?_) (fun hc27 => ?_)
          · skip
            refine OpsW.guard_yes rfl rfl ?_
            refine OpsW.det (det_move rfl) rfl ?_
            refine OpsW.guard_yes rfl rfl ?_
            refine OpsW.det (det_move rfl) rfl ?_
            refine OpsW.guard_yes rfl rfl ?_
            refine OpsW.det (det_leq rfl rfl) rfl ?_
            refine OpsW.guard_yes rfl rfl ?_
            refine OpsW.det (det_pick rfl rfl) rfl ?_
            refine OpsW.guard_yes rfl rfl ?_
            refine OpsW.det (det_not rfl) rfl ?_
            refine OpsW.det (det_pick rfl rfl) rfl ?_
            refine sNext ?_
            refine W.keep (F' := [(33, _), (3, _), (0, _)]) ⟨rfl, rfl, rfl, trivial⟩ ?_
            refine W.cond rfl (fun hc33 => ?_) (fun hc33 => ?_)
            · skip
              refine sSeq ?_
              refine W.region ?_
              refine OpsW.det (det_assign rfl) rfl ?_
              refine sNext ?_
              refine W.keep (F' := [(2, _)]) ⟨rfl, trivial⟩ ?_
              refine sRet ?_
              refine retBlk ?_
              refine retLoop ?_
              refine retBlk ?_
              exact done1 Try.results5 (rv_tmp rfl) (by rw [right_no hv (by simp only [decide_eq_true_eq, decide_eq_false_iff_not, bne_iff_ne, bne_eq_false_iff_eq, ne_eq, Bool.not_eq_true', Bool.not_eq_false'] at hc15 hc18 hc21 hc27 hc33; unfold okB; simp only [decide_eq_false_iff_not]; omega)])
            · skip
              refine sSkip0 ?_
              refine bNext ?_
              refine W.keep (F' := [(3, _), (0, _)]) ⟨rfl, rfl, trivial⟩ ?_
              refine W.region ?_
              refine OpsW.det (det_move rfl) rfl ?_
              refine OpsW.det (det_addN (b := 1) rfl rfl (by omega)) rfl ?_
              refine OpsW.det (det_assign rfl) rfl ?_
              refine sLast ?_
              have hok : okB v = true := by simp only [decide_eq_true_eq, decide_eq_false_iff_not, bne_iff_ne, bne_eq_false_iff_eq, ne_eq, Bool.not_eq_true', Bool.not_eq_false'] at hc15 hc18 hc21 hc27 hc33; unfold okB; simp only [decide_eq_true_eq]; omega
              exact rEnd (k + 1) ⟨by omega, grow hk.2 hv hok⟩ ⟨rfl, rfl, trivial⟩ (List.Sublist.refl _) (by omega)
          · skip
            refine OpsW.guard_yes rfl rfl ?_
            refine OpsW.det (det_move rfl) rfl ?_
            refine OpsW.guard_no rfl rfl rfl ?_
            refine OpsW.guard_no rfl rfl rfl ?_
            refine OpsW.guard_yes rfl rfl ?_
            refine OpsW.det (det_pick rfl rfl) rfl ?_
            refine OpsW.guard_yes rfl rfl ?_
            refine OpsW.det (det_not rfl) rfl ?_
            refine OpsW.det (det_pick rfl rfl) rfl ?_
            refine sNext ?_
            refine W.keep (F' := [(33, _), (3, _), (0, _)]) ⟨rfl, rfl, rfl, trivial⟩ ?_
            refine W.cond_true rfl ?_
            refine sSeq ?_
            refine W.region ?_
            refine OpsW.det (det_assign rfl) rfl ?_
            refine sNext ?_
            refine W.keep (F' := [(2, _)]) ⟨rfl, trivial⟩ ?_
            refine sRet ?_
            refine retBlk ?_
            refine retLoop ?_
            refine retBlk ?_
            exact done1 Try.results5 (rv_tmp rfl) (by rw [right_no hv (by simp only [decide_eq_true_eq, decide_eq_false_iff_not, bne_iff_ne, bne_eq_false_iff_eq, ne_eq, Bool.not_eq_true', Bool.not_eq_false'] at hc15 hc18 hc21 hc27; unfold okB; simp only [decide_eq_false_iff_not]; omega)])
      · skip
        refine OpsW.guard_yes rfl rfl ?_
        refine OpsW.det (det_move rfl) rfl ?_
        refine OpsW.guard_no rfl rfl rfl ?_
        refine OpsW.guard_no rfl rfl rfl ?_
        refine OpsW.guard_yes rfl rfl ?_
        refine OpsW.det (det_pick rfl rfl) rfl ?_
        refine OpsW.guard_yes rfl rfl ?_
        refine OpsW.det (det_not rfl) rfl ?_
        refine OpsW.det (det_pick rfl rfl) rfl ?_
        refine OpsW.det (det_move rfl) rfl ?_
        refine OpsW.guard_yes rfl rfl ?_
        refine OpsW.det (det_move rfl) rfl ?_
        refine OpsW.guard_yes rfl rfl ?_
        refine OpsW.test (det_geq rfl rfl) rfl (fun hc27 => ?_) (fun hc27 => ?_)
        · skip
          refine OpsW.guard_yes rfl rfl ?_
          refine OpsW.det (det_move rfl) rfl ?_
          refine OpsW.guard_yes rfl rfl ?_
          refine OpsW.det (det_move rfl) rfl ?_
          refine OpsW.guard_yes rfl rfl ?_
          refine OpsW.det (det_leq rfl rfl) rfl ?_
          refine OpsW.guard_yes rfl rfl ?_
          refine OpsW.det (det_pick rfl rfl) rfl ?_
          refine OpsW.guard_yes rfl rfl ?_
          refine OpsW.det (det_not rfl) rfl ?_
          refine OpsW.det (det_pick rfl rfl) rfl ?_
          refine sNext ?_
          refine W.keep (F' := [(33, _), (3, _), (0, _)]) ⟨rfl, rfl, rfl, trivial⟩ ?_
          refine W.cond rfl (fun hc33 => ?_) (fun hc33 => ?_)
          · skip
            refine sSeq ?_
            refine W.region ?_
            refine OpsW.det (det_assign rfl) rfl ?_
            refine sNext ?_
            refine W.keep (F' := [(2, _)]) ⟨rfl, trivial⟩ ?_
            refine sRet ?_
            refine retBlk ?_
            refine retLoop ?_
            refine retBlk ?_
            exact done1 Try.results5 (rv_tmp rfl) (by rw [right_no hv (by simp only [decide_eq_true_eq, decide_eq_false_iff_not, bne_iff_ne, bne_eq_false_iff_eq, ne_eq, Bool.not_eq_true', Bool.not_eq_false'] at hc15 hc18 hc27 hc33; unfold okB; simp only [decide_eq_false_iff_not]; omega)])
          · skip
            refine sSkip0 ?_
            refine bNext ?_
            refine W.keep (F' := [(3, _), (0, _)]) ⟨rfl, rfl, trivial⟩ ?_
            refine W.region ?_
            refine OpsW.det (det_move rfl) rfl ?_
            refine OpsW.det (det_addN (b := 1) rfl rfl (by omega)) rfl ?_
            refine OpsW.det (det_assign rfl) rfl ?_
            refine sLast ?_
            have hok : okB v = true := by simp only [decide_eq_true_eq, decide_eq_false_iff_not, bne_iff_ne, bne_eq_false_iff_eq, ne_eq, Bool.not_eq_true', Bool.not_eq_false'] at hc15 hc18 hc27 hc33; unfold okB; simp only [decide_eq_true_eq]; omega
            exact rEnd (k + 1) ⟨by omega, grow hk.2 hv hok⟩ ⟨rfl, rfl, trivial⟩ (List.Sublist.refl _) (by omega)
        · skip
          refine OpsW.guard_yes rfl rfl ?_
          refine OpsW.det (det_move rfl) rfl ?_
          refine OpsW.guard_no rfl rfl rfl ?_
          refine OpsW.guard_no rfl rfl rfl ?_
          refine OpsW.guard_yes rfl rfl ?_
          refine OpsW.det (det_pick rfl rfl) rfl ?_
          refine OpsW.guard_yes rfl rfl ?_
          refine OpsW.det (det_not rfl) rfl ?_
          refine OpsW.det (det_pick rfl rfl) rfl ?_
          refine sNext ?_
          refine W.keep (F' := [(33, _), (3, _), (0, _)]) ⟨rfl, rfl, rfl, trivial⟩ ?_
          refine W.cond_true rfl ?_
          refine sSeq ?_
          refine W.region ?_
          refine OpsW.det (det_assign rfl) rfl ?_
          refine sNext ?_
          refine W.keep (F' := [(2, _)]) ⟨rfl, trivial⟩ ?_
          refine sRet ?_
          refine retBlk ?_
          refine retLoop ?_
          refine retBlk ?_
          exact done1 Try.results5 (rv_tmp rfl) (by rw [right_no hv (by simp only [decide_eq_true_eq, decide_eq_false_iff_not, bne_iff_ne, bne_eq_false_iff_eq, ne_eq, Bool.not_eq_true', Bool.not_eq_false'] at hc15 hc18 hc27; unfold okB; simp only [decide_eq_false_iff_not]; omega)])
    · skip
      refine OpsW.det (det_move rfl) rfl ?_
      refine OpsW.guard_no rfl rfl rfl ?_
      refine OpsW.guard_no rfl rfl rfl ?_
      refine OpsW.guard_no rfl rfl rfl ?_
      refine OpsW.guard_un rfl rfl rfl ?_
      refine OpsW.guard_un rfl rfl rfl ?_
      refine OpsW.guard_no rfl rfl rfl ?_
      refine OpsW.guard_no rfl rfl rfl ?_
      refine OpsW.det (det_pick rfl rfl) rfl ?_
      refine OpsW.det (det_move rfl) rfl ?_
      refine OpsW.guard_no rfl rfl rfl ?_
      refine OpsW.guard_no rfl rfl rfl ?_
      refine OpsW.guard_no rfl rfl rfl ?_
      refine OpsW.guard_un rfl rfl rfl ?_
      refine OpsW.guard_un rfl rfl rfl ?_
      refine OpsW.guard_no rfl rfl rfl ?_
      refine OpsW.guard_no rfl rfl rfl ?_
      refine OpsW.det (det_pick rfl rfl) rfl ?_
      refine sNext ?_
      refine W.keep (F' := [(33, _), (3, _), (0, _)]) ⟨rfl, rfl, rfl, trivial⟩ ?_
      refine W.cond_false rfl ?_
      refine sSkip0 ?_
      refine bNext ?_
      refine W.keep (F' := [(3, _), (0, _)]) ⟨rfl, rfl, trivial⟩ ?_
      refine W.region ?_
      refine OpsW.det (det_move rfl) rfl ?_
      refine OpsW.det (det_addN (b := 1) rfl rfl (by omega)) rfl ?_
      refine OpsW.det (det_assign rfl) rfl ?_
      refine sLast ?_
      have hok : okB v = true := by simp only [decide_eq_true_eq, decide_eq_false_iff_not, bne_iff_ne, bne_eq_false_iff_eq, ne_eq, Bool.not_eq_true', Bool.not_eq_false'] at hc15; unfold okB; simp only [decide_eq_true_eq]; omega
      exact rEnd (k + 1) ⟨by omega, grow hk.2 hv hok⟩ ⟨rfl, rfl, trivial⟩ (List.Sublist.refl _) (by omega)
  · skip
    refine sExit ?_
    refine xLoop ?_
    refine xHere ?_
    refine W.keep (F' := [(0, _)]) ⟨rfl, trivial⟩ ?_
    refine sSeq ?_
    refine W.region ?_
    refine OpsW.det (det_move rfl) rfl ?_
    refine OpsW.det (det_len_str u9 rfl) rfl ?_
    refine OpsW.test (det_gtr rfl rfl) rfl (fun hc36 => ?_) (fun hc36 => ?_)
    · skip
      refine OpsW.det (det_move rfl) rfl ?_
      refine OpsW.guard_yes rfl rfl ?_
      refine OpsW.det (det_move rfl) rfl ?_
      refine OpsW.guard_yes rfl rfl ?_
      refine OpsW.det (det_len_str u9 rfl) rfl ?_
      refine OpsW.guard_yes rfl rfl ?_
      refine OpsW.det (det_lss rfl rfl) rfl ?_
      refine OpsW.det (det_pick rfl rfl) rfl ?_
      refine OpsW.det (det_assign rfl) rfl ?_
      refine sNext ?_
      refine W.keep (F' := [(2, _)]) ⟨rfl, trivial⟩ ?_
      refine sRet ?_
      exact done1 Try.results5 (rv_tmp rfl) (by simp only [decide_eq_true_eq, decide_eq_false_iff_not] at hc8 hc36; have := all_of (by omega) hk.2; simp only [right, this, Bool.and_true]; congr 1; simp only [decide_eq_decide]; omega)
    · skip
      refine OpsW.det (det_move rfl) rfl ?_
      refine OpsW.guard_no rfl rfl rfl ?_
      refine OpsW.guard_no rfl rfl rfl ?_
      refine OpsW.guard_no rfl rfl rfl ?_
      refine OpsW.det (det_pick rfl rfl) rfl ?_
      refine OpsW.det (det_assign rfl) rfl ?_
      refine sNext ?_
      refine W.keep (F' := [(2, _)]) ⟨rfl, trivial⟩ ?_
      refine sRet ?_
      exact done1 Try.results5 (rv_tmp rfl) (by simp only [decide_eq_false_iff_not] at hc36; simp [right]; omega)
theorem DiskRights_ok {s : ByteArray} (hs : s.size ≤ 9223372036854775807) {w : World} (hG : Blocks GH w)  : Vm.Pure Try.prog 3 #[.string s] w (.bool true) := by
  refine pure_of_W (n := 11) (args := [.string s]) Try.func3 rfl Try.ntmps3 (Nat.le_of_ble_eq_true rfl) hG ?_
  refine sStart ?_
  refine sSeq ?_
  refine W.region ?_
  refine OpsW.det (det_assign rfl) rfl ?_
  refine sNext ?_
  refine W.keep (F' := [(0, _)]) ⟨rfl, trivial⟩ ?_
  refine sSeq ?_
  refine W.region ?_
  refine OpsW.test (det_call en4 rfl (fun w _ ho => Right_ok (s := ⟨#[119, 97, 108, 45, 48, 48, 48, 48, 48, 49]⟩) (by decide) ho.blocks)) rfl (fun hc3 => ?_) (fun hc3 => ?_)
  · skip
    refine OpsW.det (det_move rfl) rfl ?_
    refine OpsW.guard_yes rfl rfl ?_
    refine OpsW.det (det_move rfl) rfl ?_
    refine OpsW.guard_yes rfl rfl ?_
    refine OpsW.det (det_call en4 rfl (fun w _ ho => Right_ok hs ho.blocks)) rfl ?_
    refine OpsW.guard_yes rfl rfl ?_
    refine OpsW.det (det_move rfl) rfl ?_
    refine OpsW.guard_yes rfl rfl ?_
    refine OpsW.det (det_call en5 rfl (fun w _ ho => RefRight_ok hs ho.blocks)) rfl ?_
    refine OpsW.guard_yes rfl rfl ?_
    refine OpsW.det (det_eqlb u4 rfl rfl) rfl ?_
    refine OpsW.det (det_pick rfl rfl) rfl ?_
    refine OpsW.det (det_assign rfl) rfl ?_
    refine sNext ?_
    refine W.keep (F' := [(2, _)]) ⟨rfl, trivial⟩ ?_
    refine sRet ?_
    exact done1 Try.results3 (rv_tmp rfl) (by simp)
  · skip
    exact absurd hc3 (by decide)

end Go.DiskR
