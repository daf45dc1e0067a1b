/-
  Part 10 of the joined texts of the curves' laws: CodecReads1: the walk. Conditions: what the document fixes of forms.
  Conditions: those that each theorem states.
-/
import Derived.Test.YtndonmbemehefaaDoorQ9
/- CodecReads1: the walk. Conditions: what the document fixes of forms. -/
namespace Go.Cu
open Go Go.Vm Go.RowKit Go.Proofs 
attribute [local irreducible] W OpsW Det Fresh New Writes Vm.Pure Makes Changes ExternTo BuildTo ZeroTo FieldTo IndexTo BinTo SliceTo Vm.Enters
set_option linter.unusedVariables false
set_option linter.unusedSimpArgs false
variable {T : Nat → TypeId × Nat × Nat}

theorem rd_name {l : List Nat} {R : Pt × Int} (h : R = rd1 l) : Value.tuple #[encP (rd1 l).1, .int .i64 (rd1 l).2] = .tuple #[encP R.1, .int .i64 R.2] := by rw [h]
theorem mk_name {l : List Nat} {M : Int × Bool} (h : M = markE l 48) : Value.tuple #[.int .i64 (markE l 48).1, .bool (markE l 48).2] = .tuple #[.int .i64 M.1, .bool M.2] := by rw [h]
theorem beq_i {a b : Int} (h : a = b) : (a == b) = true := by subst h; exact beq_self_eq_true _
theorem bne_i {a b : Int} (h : ¬ a = b) : (a == b) = false := by simpa using h
theorem nz_p {p : Pt} (h : p = (0, 0)) : (!decide (p = (0, 0))) = false := by rw [decide_eq_true h]; rfl
attribute [local irreducible] sqrtF readF inB rd1 markE

theorem en10 : Vm.Enters Tryd.prog 10 := Vm.Enters.of fun _ _ => by kernel_rfl
theorem en11 : Vm.Enters Tryd.prog 11 := Vm.Enters.of fun _ _ => by kernel_rfl
theorem en12 : Vm.Enters Tryd.prog 12 := Vm.Enters.of fun _ _ => by kernel_rfl
theorem en13 : Vm.Enters Tryd.prog 13 := Vm.Enters.of fun _ _ => by kernel_rfl
theorem en14 : Vm.Enters Tryd.prog 14 := Vm.Enters.of fun _ _ => by kernel_rfl
theorem en9 : Vm.Enters Tryd.prog 9 := Vm.Enters.of fun _ _ => by kernel_rfl
set_option maxHeartbeats 8000000 in
set_option maxRecDepth 100000 in
theorem CodecReads1_ok {G' : Hp} {v : Value} {l : List Nat} (hB : Bs G' v l) (h09 : ∀ {w : World}, Blocks (GH T) w → Vm.Pure Tryd.prog 9 #[] w (.bool true)) {w : World} (hG : Blocks (G' ++ GH T) w)  : Vm.Pure Tryd.prog 3 #[v] w (.bool true) := by
  obtain ⟨ad, cap, hvv⟩ := hB.shape
  refine pure_of_W (n := 167) (args := [v]) Tryd.func3 rfl Tryd.ntmps3 (Nat.le_of_ble_eq_true rfl) hG ?_
  refine sStart ?_
  refine sSeq ?_
  subst hvv
  refine W.region ?_
  refine OpsW.det (det_assign rfl) rfl ?_
  refine sNext ?_
  refine W.keep (F' := [(0, _)]) ⟨rfl, trivial⟩ ?_
  refine sSeq ?_
  refine sSeq ?_
  refine W.region ?_
  refine OpsW.det (det_call en9 rfl (fun w hb ho => h09 (fun p hp => ho.look (List.mem_append_right _ hp)))) rfl ?_
  refine OpsW.det (det_not rfl) rfl ?_
  refine sNext ?_
  refine W.keep (F' := [(19, _), (0, _)]) ⟨rfl, rfl, trivial⟩ ?_
  refine W.cond_false rfl ?_
  refine sSkip ?_
  refine sSeq ?_
  refine sSeq ?_
  refine W.region ?_
  refine OpsW.det (det_move rfl) rfl ?_
  refine OpsW.det (det_call en10 rfl (fun w hb ho => long09_ok (fun p hp => ho.look (List.mem_append_right _ hp)))) rfl ?_
  refine sNext ?_
  refine W.keep (F' := [(21, _), (0, _)]) ⟨rfl, rfl, trivial⟩ ?_
  refine W.cond rfl (fun hc21 => ?_) (fun hc21 => ?_)
  · skip
    refine sSeq ?_
    refine W.region ?_
    refine OpsW.det (det_assign rfl) rfl ?_
    refine sNext ?_
    refine W.keep (F' := [(2, _)]) ⟨rfl, trivial⟩ ?_
    refine sRet ?_
    exact done1 Tryd.results3 (rv_tmp rfl) rfl
  · skip
    have hl : l.length ≤ 400 := by have h := hc21; simp only [decide_eq_false_iff_not] at h; omega
    refine sSkip ?_
    refine sSeq ?_
    refine W.region ?_
    refine OpsW.det (det_move rfl) rfl ?_
    refine OpsW.new (new_call en11 rfl (fun w hb ho => Copy_ok (G' := G') (l := l) hB (by omega) ho.blocks)) rfl fun p23 hp23 => ?_
    refine OpsW.norm (F' := [(23, .slice (some ⟨p23.1, 0, none⟩) l.length l.length), (22, _), (21, _), (0, _)]) (H' := [(p23.1, blk (bcells l ++ []) 5), ]) rfl rfl ?_
    refine OpsW.det (det_assign rfl) rfl ?_
    refine sNext ?_
    refine W.keep (F' := [(3, _), (0, _)]) ⟨rfl, rfl, trivial⟩ ?_
    refine sSeq ?_
    obtain ⟨R, hR⟩ : ∃ R, R = rd1 l := ⟨_, rfl⟩
    refine W.region ?_
    refine OpsW.det (det_move rfl) rfl ?_
    refine OpsW.det ((det_call en12 rfl (fun w hb ho => ReadG1_ok (G' := [(p23.1, blk (bcells l ++ []) 5)]) (l := l) (Bs.of hB.small (Nat.le_refl _)) (by omega) (blocks_cons (hb _ (by repeat (first | exact List.Mem.head _ | apply List.Mem.tail))) (fun p hp => ho.look (List.mem_append_right _ hp))))).to (v := .tuple #[encP R.1, .int .i64 R.2]) (rd_name hR)) rfl ?_
    refine OpsW.det (det_move rfl) rfl ?_
    refine OpsW.det (det_extract rfl rfl) rfl ?_
    refine OpsW.det (det_extract rfl rfl) rfl ?_
    refine OpsW.fresh (fr_alloc z31r) rfl fun b4 => ?_
    refine OpsW.store sz31 rfl rfl rfl rfl rfl (Upd.here) rfl ?_
    refine OpsW.det (det_assign rfl) rfl ?_
    refine sNext ?_
    refine W.keep (F' := [(5, _), (4, _), (3, _), (0, _)]) ⟨rfl, rfl, rfl, rfl, trivial⟩ ?_
    refine sSeq ?_
    refine sSeq ?_
    refine sCut2 (σ := Unit) (fun _s => [(5, .int .i64 R.2), (4, .pointer (some ⟨b4, 0, none⟩)), (0, .slice ad l.length cap)]) (fun _s => [(b4, blk (cellsP R.1) 31)]) (fun _s => True) ?_ ?_
    · skip
      refine W.region ?_
      refine OpsW.det (det_move rfl) rfl ?_
      refine OpsW.det (det_move rfl) rfl ?_
      refine OpsW.det (Det.to (det_call en13 rfl (fun w hb ho => same_ok (G' := (p23.1, blk (bcells l ++ []) 5) :: G') (l := l) (l2 := l) ((Bs.of hB.small (Nat.le_refl _)).mono fun p hp => by rw [List.mem_singleton.1 hp]; exact List.Mem.head _) (hB.mono fun p hp => List.mem_cons_of_mem _ hp) (by omega) (blocks_cons (hb _ (by repeat (first | exact List.Mem.head _ | apply List.Mem.tail))) ho.blocks))) (congrArg Value.bool (decide_eq_true rfl))) rfl ?_
      refine OpsW.det (det_not rfl) rfl ?_
      refine OpsW.det (det_move rfl) rfl ?_
      refine OpsW.guard_yes rfl rfl ?_
      refine OpsW.det (det_move rfl) rfl ?_
      refine OpsW.guard_yes rfl rfl ?_
      refine OpsW.test (det_neq rfl rfl) rfl (fun hc35 => ?_) (fun hc35 => ?_)
      · skip
        refine OpsW.guard_yes rfl rfl ?_
        refine OpsW.det (det_move rfl) rfl ?_
        refine OpsW.guard_yes rfl rfl ?_
        refine OpsW.det (det_loadA ty31 rfl (List.Mem.head _) rfl) rfl ?_
        refine OpsW.guard_yes rfl rfl ?_
        refine OpsW.det (det_zero bz31) rfl ?_
        refine OpsW.guard_yes rfl rfl ?_
        refine OpsW.det (Det.to (det_neq31 rfl rfl) (congrArg Value.bool (nz_p (rd1_err hR (ne_of_bne hc35))))) rfl ?_
        refine OpsW.guard_yes rfl rfl ?_
        refine OpsW.det (det_pick rfl rfl) rfl ?_
        refine OpsW.det (det_pick rfl rfl) rfl ?_
        refine sNext ?_
        refine W.keep (F' := [(41, _), (5, _), (4, _), (0, _)]) ⟨rfl, rfl, rfl, rfl, trivial⟩ ?_
        refine W.cond_false rfl ?_
        refine sSkip0 ?_
        refine cutOk () trivial ⟨rfl, rfl, rfl, trivial⟩ ?_
        repeat (first | exact List.Sublist.refl _ | exact List.nil_sublist _ | refine List.Sublist.cons_cons _ ?_ | refine List.Sublist.cons _ ?_)
      · skip
        refine OpsW.guard_yes rfl rfl ?_
        refine OpsW.det (det_move rfl) rfl ?_
        refine OpsW.guard_no rfl rfl rfl ?_
        refine OpsW.guard_no rfl rfl rfl ?_
        refine OpsW.guard_no rfl rfl rfl ?_
        refine OpsW.guard_yes rfl rfl ?_
        refine OpsW.det (det_pick rfl rfl) rfl ?_
        refine OpsW.det (det_pick rfl rfl) rfl ?_
        refine sNext ?_
        refine W.keep (F' := [(41, _), (5, _), (4, _), (0, _)]) ⟨rfl, rfl, rfl, rfl, trivial⟩ ?_
        refine W.cond_false rfl ?_
        refine sSkip0 ?_
        refine cutOk () trivial ⟨rfl, rfl, rfl, trivial⟩ ?_
        repeat (first | exact List.Sublist.refl _ | exact List.nil_sublist _ | refine List.Sublist.cons_cons _ ?_ | refine List.Sublist.cons _ ?_)
    · skip
      rintro - -
      refine sSeq ?_
      obtain ⟨M, hM⟩ : ∃ M, M = markE l 48 := ⟨_, rfl⟩
      refine W.region ?_
      refine OpsW.det (det_move rfl) rfl ?_
      refine OpsW.det ((det_call en14 rfl (fun w hb ho => marks_ok (G' := G') (l := l) (n := 48) hB (by decide) (by decide) (by omega) ho.blocks)).to (v := .tuple #[.int .i64 M.1, .bool M.2]) (mk_name hM)) rfl ?_
      refine OpsW.det (det_move rfl) rfl ?_
      refine OpsW.det (det_extract rfl rfl) rfl ?_
      refine OpsW.det (det_extract rfl rfl) rfl ?_
      refine OpsW.det (det_assign rfl) rfl ?_
      refine OpsW.det (det_assign rfl) rfl ?_
      refine sNext ?_
      refine W.keep (F' := [(7, _), (6, _), (5, _), (4, _), (0, _)]) ⟨rfl, rfl, rfl, rfl, rfl, trivial⟩ ?_
      refine sSeq ?_
      refine sSeq ?_
      rcases Decidable.em (M.1 = 0) with hM0 | hM0
      · skip
        refine W.region ?_
        refine OpsW.det (det_move rfl) rfl ?_
        refine OpsW.det (Det.to (det_neq rfl rfl) (congrArg Value.bool ((by rw [hM0])))) rfl ?_
        refine OpsW.det (det_move rfl) rfl ?_
        refine OpsW.guard_yes rfl rfl ?_
        refine OpsW.det (det_move rfl) rfl ?_
        refine OpsW.det (det_pick rfl rfl) rfl ?_
        refine sNext ?_
        refine W.keep (F' := [(51, _), (6, _), (5, _), (4, _), (0, _)]) ⟨rfl, rfl, rfl, rfl, rfl, trivial⟩ ?_
        refine W.cond rfl (fun hc51 => ?_) (fun hc51 => ?_)
        · skip
          have hRM : R = ((0, 0), M.1) := by rw [hR, hM0, rd1_far (hM ▸ hM0) ((mark_far (hM ▸ hM0)).symm.trans (hM ▸ hc51))]
          refine sSeq ?_
          refine W.region ?_
          refine OpsW.det (det_move rfl) rfl ?_
          refine OpsW.det (det_move rfl) rfl ?_
          refine OpsW.det (Det.to (det_eql rfl rfl) (congrArg Value.bool (beq_i (by rw [hRM])))) rfl ?_
          refine OpsW.det (det_move rfl) rfl ?_
          refine OpsW.guard_yes rfl rfl ?_
          refine OpsW.det (det_loadA ty31 rfl (List.Mem.head _) rfl) rfl ?_
          refine OpsW.guard_yes rfl rfl ?_
          refine OpsW.det (det_zero bz31) rfl ?_
          refine OpsW.guard_yes rfl rfl ?_
          refine OpsW.det (Det.to (det_eql31 rfl rfl) (congrArg Value.bool (decide_eq_true (by rw [hRM])))) rfl ?_
          refine OpsW.det (det_pick rfl rfl) rfl ?_
          refine OpsW.det (det_assign rfl) rfl ?_
          refine sNext ?_
          refine W.keep (F' := [(2, _)]) ⟨rfl, trivial⟩ ?_
          refine sRet ?_
          exact done1 Tryd.results3 (rv_tmp rfl) rfl
        · skip
          have hE : (markE l 48).1 = 0 := hM ▸ hM0
          have hfb : fB (b0 l) = false := (mark_far hE).symm.trans (hM ▸ hc51)
          have hlens := mark_lens hE
          have hpos : 0 < l.length := by omega
          obtain ⟨bk0, o0, cap0, cs0, e0, fr0, hv0, hm0, hcell0⟩ := hB.at_ 0 hpos
          simp only [Value.slice.injEq] at hv0
          obtain ⟨rfl, _, rfl⟩ := hv0
          refine sSkip ?_
          refine sSeq ?_
          refine W.region ?_
          refine OpsW.det (det_move rfl) rfl ?_
          refine OpsW.new (new_call en11 rfl (fun w hb ho => Copy_ok (G' := G') (l := l) hB (by omega) ho.blocks)) rfl fun p61 hp61 => ?_
          refine OpsW.norm (F' := [(61, .slice (some ⟨p61.1, 0, none⟩) l.length l.length), (60, _), (51, _), (6, _), (5, _), (4, _), (0, _)]) (H' := [(p61.1, blk (bcells l ++ []) 5), (_, _)]) rfl rfl ?_
          refine OpsW.det (det_assign rfl) rfl ?_
          refine sNext ?_
          refine W.keep (F' := [(8, _), (5, _), (4, _), (0, _)]) ⟨rfl, rfl, rfl, rfl, trivial⟩ ?_
          refine sSeq ?_
          refine W.region ?_
          refine OpsW.det (det_move rfl) rfl ?_
          refine OpsW.det (det_indexAddr_sl u22 sz5 rfl rfl ⟨by decide, by omega⟩) rfl ?_
          refine OpsW.det (det_loadC ty5 rfl (List.Mem.head _) (bc_at0 hpos)) rfl ?_
          refine OpsW.det ((det_and (b := 31) rfl rfl).to (v := .int .u8 ((b0 l % 32 : Nat) : Int)) (congrArg (Value.int .u8) (and31_at (b0_lt hB.small hpos)))) rfl ?_
          refine OpsW.det (det_indexAddr_sl u22 sz5 rfl rfl ⟨by decide, by omega⟩) rfl ?_
          refine OpsW.store sz5 rfl rfl rfl rfl rfl (Upd.here) (cl_put hpos) ?_
          have hcB := cl_Bs (sp := l) (b := p61.1) (cap := l.length) (sps := []) hB.small hpos (Nat.le_refl _)
          have hcl := cl_len hpos
          have hT1 := Bs_take1 (k := 48) hcB (by rw [hcl]; omega)
          refine sNext ?_
          refine W.keep (F' := [(8, _), (5, _), (4, _), (0, _)]) ⟨rfl, rfl, rfl, rfl, trivial⟩ ?_
          refine sSeq ?_
          obtain ⟨X, hX⟩ : ∃ X, X = rx l := ⟨_, rfl⟩
          refine W.region ?_
          refine OpsW.det (det_move rfl) rfl ?_
          refine OpsW.det ((det_slice (lo := none) (hi := some (.const (.int .i64 48))) (l := 0) (h := 48) u22 sz5 rfl rfl ⟨_, rfl⟩ (by omega) (by omega) (by omega)).to (v := .slice (some ⟨p61.1, 0, none⟩) 48 l.length) (by simp)) rfl ?_
          refine OpsW.det ((det_call en15 rfl (fun w hb ho => Read_ok (G' := [(p61.1, blk (bcells (cl l) ++ []) 5)]) (l := (cl l).take 48) hT1 (blocks_cons (hb _ (by repeat (first | exact List.Mem.head _ | apply List.Mem.tail))) (fun p hp => ho.look (List.mem_append_right _ hp))))).to (v := .tuple #[encF X.1, .int .i64 X.2]) (read_to (hX.trans (rx_eq l)))) rfl ?_
          refine OpsW.det (det_move rfl) rfl ?_
          refine OpsW.det (det_extract rfl rfl) rfl ?_
          refine OpsW.det (det_extract rfl rfl) rfl ?_
          refine OpsW.fresh (fr_alloc z29w) rfl fun b9 => ?_
          refine OpsW.store sz29 rfl rfl rfl rfl rfl (Upd.here) rfl ?_
          refine OpsW.det (det_assign rfl) rfl ?_
          refine sNext ?_
          refine W.keep (F' := [(10, _), (9, _), (8, _), (5, _), (4, _), (0, _)]) ⟨rfl, rfl, rfl, rfl, rfl, rfl, trivial⟩ ?_
          refine sSeq ?_
          refine sSeq ?_
          refine W.region ?_
          refine OpsW.det (det_move rfl) rfl ?_
          refine OpsW.det (det_neq rfl rfl) rfl ?_
          refine sNext ?_
          refine W.keep (F' := [(74, _), (9, _), (8, _), (5, _), (4, _), (0, _)]) ⟨rfl, rfl, rfl, rfl, rfl, rfl, trivial⟩ ?_
          refine W.cond rfl (fun hc74 => ?_) (fun hc74 => ?_)
          · skip
            have hR2 : R = ((0, 0), X.2) := by rw [hR, rd1_x hX hE hfb (ne_of_bne hc74)]
            refine sSeq ?_
            refine W.region ?_
            refine OpsW.det (det_move rfl) rfl ?_
            refine OpsW.det (Det.to (det_eql rfl rfl) (congrArg Value.bool (beq_i (by rw [hR2]; exact readF_err (hX.trans (rx_eq l)) (rx_len (by omega)) (ne_of_bne hc74))))) rfl ?_
            refine OpsW.det (det_assign rfl) rfl ?_
            refine sNext ?_
            refine W.keep (F' := [(2, _)]) ⟨rfl, trivial⟩ ?_
            refine sRet ?_
            exact done1 Tryd.results3 (rv_tmp rfl) rfl
          · skip
            have hX0 := eq_of_bne hc74
            refine sSkip ?_
            refine sSeq ?_
            refine W.draw mixed 7 [[], [0], [], [0, 1, 2], [0, 1, 2, 3], [0, 1, 2, 3, 4], [], [0, 1, 2, 3, 4, 5, 6]] (cl_lt (by decide)) ?_
            refine HeadR.start (cl_lt (by decide)) ?_
            refine HeadR.det rfl (fun β hβ => (det_loadA ty29 rfl (List.Mem.head _) rfl)) ?_
            refine HeadR.det rfl (fun β hβ => (det_call en16 rfl (fun w hb ho => Cu.Square_ok (fun p hp => ho.look (List.mem_append_right _ hp))))) ?_
            refine HeadR.det rfl (fun β hβ => (det_loadA ty29 rfl (List.Mem.head _) rfl)) ?_
            refine HeadR.det rfl (fun β hβ => (det_call en17 rfl (fun w hb ho => Cu.Mul_ok (fun p hp => ho.look (List.mem_append_right _ hp))))) ?_
            refine HeadR.det rfl (fun β hβ => (det_call en19 rfl (fun w hb ho => Of_ok (n := 4) (by decide) (fun p hp => ho.look (List.mem_append_right _ hp))))) ?_
            refine HeadR.det rfl (fun β hβ => (det_call en18 rfl (fun w hb ho => Cu.Add_ok (fun p hp => ho.look (List.mem_append_right _ hp))))) ?_
            refine HeadR.fresh rfl (fun β hβ => (fr_alloc z29w).new) ?_
            refine HeadR.done ⟨by kernel_rfl, fun β hβ => ?_⟩
            refine OpsW.norm (F' := [(77, _), (78, _), (79, _), (80, _), (81, _), (82, _), (11, .pointer (some ⟨(β 11).1, 0, none⟩)), (74, _), (9, _), (8, _), (5, _), (4, _), (0, _)]) (H' := [(_, _), (_, _), (_, _), (_, _)]) rfl rfl ?_
            generalize (β 11).1 = b11
            refine OpsW.store sz29 rfl rfl rfl rfl rfl (Upd.here) rfl ?_
            refine sNext ?_
            refine W.keep (F' := [(11, _), (9, _), (8, _), (5, _), (4, _), (0, _)]) ⟨rfl, rfl, rfl, rfl, rfl, rfl, trivial⟩ ?_
            refine sSeq ?_
            refine sSeq ?_
            refine W.region ?_
            refine OpsW.det (det_move rfl) rfl ?_
            refine OpsW.det (det_len u22 rfl) rfl ?_
            refine OpsW.det (det_eql rfl rfl) rfl ?_
            refine sNext ?_
            refine W.keep (F' := [(85, _), (11, _), (9, _), (8, _), (5, _), (4, _), (0, _)]) ⟨rfl, rfl, rfl, rfl, rfl, rfl, rfl, trivial⟩ ?_
            refine W.cond rfl (fun hc85 => ?_) (fun hc85 => ?_)
            · skip
              have h96 : l.length = 96 := by have h := hc85; simp at h; omega
              have hT2 := Bs_drop1 (k := 48) hcB (by rw [hcl]; omega)
              rw [hcl] at hT2
              refine sSeq ?_
              obtain ⟨Y, hY⟩ : ∃ Y, Y = ry l := ⟨_, rfl⟩
              refine W.region ?_
              refine OpsW.det (det_move rfl) rfl ?_
              refine OpsW.det ((det_slice (lo := some (.const (.int .i64 48))) (hi := none) (l := 48) (h := l.length) u22 sz5 rfl ⟨_, rfl⟩ rfl (by omega) (by omega) (by omega)).to (v := .slice (some ⟨p61.1, 0 + 48, none⟩) (l.length - 48) (l.length - 48)) (by rw [if_neg (by omega), Nat.mul_one])) rfl ?_
              refine OpsW.det ((det_call en15 rfl (fun w hb ho => Read_ok (G' := [(p61.1, blk (bcells (cl l) ++ []) 5)]) (l := (cl l).drop 48) hT2 (blocks_cons (hb _ (by repeat (first | exact List.Mem.head _ | apply List.Mem.tail))) (fun p hp => ho.look (List.mem_append_right _ hp))))).to (v := .tuple #[encF Y.1, .int .i64 Y.2]) (read_to (hY.trans (ry_eq l)))) rfl ?_
              refine OpsW.det (det_move rfl) rfl ?_
              refine OpsW.det (det_extract rfl rfl) rfl ?_
              refine OpsW.det (det_extract rfl rfl) rfl ?_
              refine OpsW.fresh (fr_alloc z29w) rfl fun b12 => ?_
              refine OpsW.store sz29 rfl rfl rfl rfl rfl (Upd.here) rfl ?_
              refine OpsW.det (det_assign rfl) rfl ?_
              refine sNext ?_
              refine W.keep (F' := [(13, _), (12, _), (11, _), (9, _), (5, _), (4, _)]) ⟨rfl, rfl, rfl, rfl, rfl, rfl, trivial⟩ ?_
              refine sSeq ?_
              refine sSeq ?_
              refine W.region ?_
              refine OpsW.det (det_move rfl) rfl ?_
              refine OpsW.det (det_neq rfl rfl) rfl ?_
              refine sNext ?_
              refine W.keep (F' := [(93, _), (12, _), (11, _), (9, _), (5, _), (4, _)]) ⟨rfl, rfl, rfl, rfl, rfl, rfl, trivial⟩ ?_
              refine W.cond rfl (fun hc93 => ?_) (fun hc93 => ?_)
              · skip
                have hR2 : R = ((0, 0), Y.2) := by rw [hR, rd1_y hX hY hE hfb hX0 (by omega) (ne_of_bne hc93)]
                refine sSeq ?_
                refine W.region ?_
                refine OpsW.det (det_move rfl) rfl ?_
                refine OpsW.det (Det.to (det_eql rfl rfl) (congrArg Value.bool (beq_i (by rw [hR2]; exact readF_err (hY.trans (ry_eq l)) (ry_len h96) (ne_of_bne hc93))))) rfl ?_
                refine OpsW.det (det_assign rfl) rfl ?_
                refine sNext ?_
                refine W.keep (F' := [(2, _)]) ⟨rfl, trivial⟩ ?_
                refine sRet ?_
                exact done1 Tryd.results3 (rv_tmp rfl) rfl
              · skip
                have hY0 := eq_of_bne hc93
                have hlong := rd1_long hX hY hE hfb hX0 (by omega) hY0
                refine sSkip ?_
                refine sSeq ?_
                refine sSeq ?_
                refine W.draw mixed 4 [[], [0], [], [0, 1, 2]] (cl_lt (by decide)) ?_
                refine HeadR.start (cl_lt (by decide)) ?_
                refine HeadR.det rfl (fun β hβ => (det_loadA ty29 rfl (List.Mem.head _) rfl)) ?_
                refine HeadR.det rfl (fun β hβ => (det_call en16 rfl (fun w hb ho => Cu.Square_ok (fun p hp => ho.look (List.mem_append_right _ hp))))) ?_
                refine HeadR.det rfl (fun β hβ => (det_loadA ty29 rfl (List.Mem.tail _ (List.Mem.head _)) rfl)) ?_
                refine HeadR.det rfl (fun β hβ => (det_neq29 rfl rfl)) ?_
                refine HeadR.done ⟨by kernel_rfl, fun β hβ => ?_⟩
                refine OpsW.norm (F' := [(96, _), (97, _), (98, _), (99, _), (93, _), (12, _), (11, _), (9, _), (5, _), (4, _)]) (H' := [(_, _), (_, _), (_, _), (_, _), (_, _)]) rfl rfl ?_
                refine sNext ?_
                refine W.keep (F' := [(99, _), (12, _), (9, _), (5, _), (4, _)]) ⟨rfl, rfl, rfl, rfl, rfl, trivial⟩ ?_
                refine W.cond rfl (fun hc99 => ?_) (fun hc99 => ?_)
                · skip
                  have hR2 : R = ((0, 0), 13) := by rw [hR, hlong, fin_curve (q := (X.1, Y.1)) (by have h := hc99; simpa using h)]
                  refine sSeq ?_
                  refine W.region ?_
                  refine OpsW.det (det_move rfl) rfl ?_
                  refine OpsW.det (Det.to (det_eql rfl rfl) (congrArg Value.bool (beq_i (by rw [hR2])))) rfl ?_
                  refine OpsW.det (det_assign rfl) rfl ?_
                  refine sNext ?_
                  refine W.keep (F' := [(2, _)]) ⟨rfl, trivial⟩ ?_
                  refine sRet ?_
                  exact done1 Tryd.results3 (rv_tmp rfl) rfl
                · skip
                  have hqq := fin_of (q := (X.1, Y.1)) (by have h := hc99; simpa using h)
                  have hq0 := hqq.2
                  have hR2 : R = rd1 l := hR
                  have hfin : rd1 l = fin1 (X.1, Y.1) true := by rw [hlong, hqq.1]
                  refine sSkip ?_
                  refine sSeq ?_
                  refine W.region ?_
                  refine OpsW.det (det_loadA ty29 rfl (List.Mem.tail _ (List.Mem.tail _ (List.Mem.head _))) rfl) rfl ?_
                  refine OpsW.det (det_loadA ty29 rfl (List.Mem.head _) rfl) rfl ?_
                  refine OpsW.det (det_build rfl bld31) rfl ?_
                  refine OpsW.fresh (fr_alloc z31r) rfl fun b14 => ?_
                  refine OpsW.store sz31 rfl rfl rfl rfl rfl (Upd.here) rfl ?_
                  refine sNext ?_
                  refine W.keep (F' := [(14, _), (5, _), (4, _)]) ⟨rfl, rfl, rfl, trivial⟩ ?_
                  refine sSeq ?_
                  rcases hin : inB (X.1, Y.1) with _ | _
                  · skip
                    refine W.region ?_
                    refine OpsW.det (det_loadA ty31 rfl (List.Mem.head _) rfl) rfl ?_
                    refine OpsW.det (Det.to (det_call en20 rfl (fun w hb ho => PIn_ok (fun p hp => ho.look (List.mem_append_right _ hp)))) (congrArg Value.bool (hin))) rfl ?_
                    refine OpsW.det (det_move rfl) rfl ?_
                    refine OpsW.guard_no rfl rfl rfl ?_
                    refine OpsW.guard_no rfl rfl rfl ?_
                    refine OpsW.det (det_pick rfl rfl) rfl ?_
                    refine OpsW.det (det_move rfl) rfl ?_
                    refine OpsW.guard_no rfl rfl rfl ?_
                    refine OpsW.guard_no rfl rfl rfl ?_
                    refine OpsW.guard_no rfl rfl rfl ?_
                    refine OpsW.det (det_pick rfl rfl) rfl ?_
                    refine OpsW.det (det_move rfl) rfl ?_
                    refine OpsW.guard_yes rfl rfl ?_
                    refine OpsW.det (det_loadA ty31 rfl (List.Mem.head _) rfl) rfl ?_
                    refine OpsW.guard_yes rfl rfl ?_
                    refine OpsW.det (Det.to (det_call en20 rfl (fun w hb ho => PIn_ok (fun p hp => ho.look (List.mem_append_right _ hp)))) (congrArg Value.bool (hin))) rfl ?_
                    refine OpsW.guard_yes rfl rfl ?_
                    refine OpsW.det (det_not rfl) rfl ?_
                    refine OpsW.guard_yes rfl rfl ?_
                    refine OpsW.det (det_move rfl) rfl ?_
                    refine OpsW.guard_yes rfl rfl ?_
                    refine OpsW.det (det_move rfl) rfl ?_
                    refine OpsW.guard_yes rfl rfl ?_
                    refine OpsW.det (Det.to (det_eql rfl rfl) (congrArg Value.bool (beq_i (by rw [hR2, hfin.trans (fin_grp hq0 hin)])))) rfl ?_
                    refine OpsW.guard_yes rfl rfl ?_
                    refine OpsW.det (det_pick rfl rfl) rfl ?_
                    refine OpsW.det (det_pick rfl rfl) rfl ?_
                    refine OpsW.det (det_assign rfl) rfl ?_
                    refine sNext ?_
                    refine W.keep (F' := [(2, _)]) ⟨rfl, trivial⟩ ?_
                    refine sRet ?_
                    exact done1 Tryd.results3 (rv_tmp rfl) rfl
                  · skip
                    refine W.region ?_
                    refine OpsW.det (det_loadA ty31 rfl (List.Mem.head _) rfl) rfl ?_
                    refine OpsW.det (Det.to (det_call en20 rfl (fun w hb ho => PIn_ok (fun p hp => ho.look (List.mem_append_right _ hp)))) (congrArg Value.bool (hin))) rfl ?_
                    refine OpsW.det (det_move rfl) rfl ?_
                    refine OpsW.guard_yes rfl rfl ?_
                    refine OpsW.det (det_move rfl) rfl ?_
                    refine OpsW.guard_yes rfl rfl ?_
                    refine OpsW.det (Det.to (det_eql rfl rfl) (congrArg Value.bool (beq_i (by rw [hR2, hfin.trans (fin_ok hq0 hin)])))) rfl ?_
                    refine OpsW.det (det_pick rfl rfl) rfl ?_
                    refine OpsW.det (det_move rfl) rfl ?_
                    refine OpsW.guard_yes rfl rfl ?_
                    refine OpsW.det (det_loadA ty31 rfl (List.Mem.tail _ (List.Mem.tail _ (List.Mem.tail _ (List.Mem.tail _ (List.Mem.tail _ (List.Mem.head _)))))) rfl) rfl ?_
                    refine OpsW.guard_yes rfl rfl ?_
                    refine OpsW.det (det_loadA ty31 rfl (List.Mem.head _) rfl) rfl ?_
                    refine OpsW.guard_yes rfl rfl ?_
                    refine OpsW.det (Det.to (det_eql31 rfl rfl) (congrArg Value.bool (decide_eq_true (by rw [hR2, hfin.trans (fin_ok hq0 hin)])))) rfl ?_
                    refine OpsW.det (det_pick rfl rfl) rfl ?_
                    refine OpsW.det (det_move rfl) rfl ?_
                    refine OpsW.guard_no rfl rfl rfl ?_
                    refine OpsW.guard_no rfl rfl rfl ?_
                    refine OpsW.guard_no rfl rfl rfl ?_
                    refine OpsW.guard_no rfl rfl rfl ?_
                    refine OpsW.guard_un rfl rfl rfl ?_
                    refine OpsW.guard_un rfl rfl rfl ?_
                    refine OpsW.guard_no rfl rfl rfl ?_
                    refine OpsW.det (det_pick rfl rfl) rfl ?_
                    refine OpsW.det (det_assign rfl) rfl ?_
                    refine sNext ?_
                    refine W.keep (F' := [(2, _)]) ⟨rfl, trivial⟩ ?_
                    refine sRet ?_
                    exact done1 Tryd.results3 (rv_tmp rfl) rfl
            · skip
              have h48 : ¬ 48 < l.length := by have h := hc85; simp at h; omega
              refine sSkip ?_
              refine sSeq ?_
              obtain ⟨sq, hsq⟩ : ∃ s, s = sqrtF (X.1 * X.1 * X.1 + Zp.of 4) := ⟨_, rfl⟩
              refine W.region ?_
              refine OpsW.det (det_loadA ty29 rfl (List.Mem.head _) rfl) rfl ?_
              refine OpsW.det ((det_call en21 rfl (fun w hb ho => Sqrt_ok (x := X.1 * X.1 * X.1 + Zp.of 4) (fun p hp => ho.look (List.mem_append_right _ hp)))).to (v := .tuple #[encF sq.1, .bool sq.2]) (sqrt_to hsq)) rfl ?_
              refine OpsW.det (det_move rfl) rfl ?_
              refine OpsW.det (det_extract rfl rfl) rfl ?_
              refine OpsW.det (det_extract rfl rfl) rfl ?_
              refine OpsW.fresh (fr_alloc z29w) rfl fun b15 => ?_
              refine OpsW.store sz29 rfl rfl rfl rfl rfl (Upd.here) rfl ?_
              refine OpsW.det (det_assign rfl) rfl ?_
              refine sNext ?_
              refine W.keep (F' := [(16, _), (15, _), (9, _), (5, _), (4, _), (0, _)]) ⟨rfl, rfl, rfl, rfl, rfl, rfl, trivial⟩ ?_
              refine sSeq ?_
              refine sSeq ?_
              refine W.region ?_
              refine OpsW.det (det_move rfl) rfl ?_
              refine OpsW.det (det_not rfl) rfl ?_
              refine sNext ?_
              refine W.keep (F' := [(131, _), (15, _), (9, _), (5, _), (4, _), (0, _)]) ⟨rfl, rfl, rfl, rfl, rfl, rfl, trivial⟩ ?_
              refine W.cond rfl (fun hc131 => ?_) (fun hc131 => ?_)
              · skip
                have hs0 : sq.2 = false := by have h := hc131; simpa using h
                have hR2 : R = ((0, 0), 13) := by rw [hR]; exact Classical.byCases (fun h5 : largeF sq.1 = lB (b0 l) => by rw [rd1_pos hX hsq hE hfb hX0 h48 h5, hs0]; exact fin_no) (fun h5 => by rw [rd1_neg hX hsq hE hfb hX0 h48 h5, hs0]; exact fin_no)
                refine sSeq ?_
                refine W.region ?_
                refine OpsW.det (det_move rfl) rfl ?_
                refine OpsW.det (Det.to (det_eql rfl rfl) (congrArg Value.bool (beq_i (by rw [hR2])))) rfl ?_
                refine OpsW.det (det_assign rfl) rfl ?_
                refine sNext ?_
                refine W.keep (F' := [(2, _)]) ⟨rfl, trivial⟩ ?_
                refine sRet ?_
                exact done1 Tryd.results3 (rv_tmp rfl) rfl
              · skip
                have hs1 : sq.2 = true := by have h := hc131; simpa using h
                have hsqq := sqrtF_sq hsq hs1
                have hR2 : R = rd1 l := hR
                refine sSkip ?_
                refine sSeq ?_
                refine sSeq ?_
                refine W.draw mixed 8 [[], [0], [], [2], [2, 3], [2, 3, 4], [2, 3, 4, 5], [0, 1, 2, 3, 4, 5, 6]] (cl_lt (by decide)) ?_
                refine HeadR.start (cl_lt (by decide)) ?_
                refine HeadR.det rfl (fun β hβ => (det_loadA ty29 rfl (List.Mem.head _) rfl)) ?_
                refine HeadR.det rfl (fun β hβ => (det_call en22 rfl (fun w hb ho => Cu.Large_ok (fun p hp => ho.look (List.mem_append_right _ hp))))) ?_
                refine HeadR.det rfl (fun β hβ => (det_move rfl)) ?_
                refine HeadR.det rfl (fun β hβ => (det_indexAddr_sl u22 sz5 rfl rfl ⟨by decide, by omega⟩)) ?_
                refine HeadR.det rfl (fun β hβ => (det_loadC_ro ty5 rfl (List.mem_append_left _ hm0) (b0_at hpos hcell0))) ?_
                refine HeadR.det rfl (fun β hβ => (det_and rfl rfl)) ?_
                refine HeadR.det rfl (fun β hβ => ((det_neq (b := 0) rfl rfl).to (v := .bool (lB (b0 l))) rfl)) ?_
                refine HeadR.det rfl (fun β hβ => (det_neqb u4 rfl rfl)) ?_
                refine HeadR.done ⟨by kernel_rfl, fun β hβ => ?_⟩
                refine OpsW.norm (F' := [(134, _), (135, _), (136, _), (137, _), (138, _), (139, _), (140, _), (141, _), (131, _), (15, _), (9, _), (5, _), (4, _), (0, _)]) (H' := [(_, _), (_, _), (_, _), (_, _), (_, _)]) rfl rfl ?_
                refine sNext ?_
                refine W.keep (F' := [(141, _), (15, _), (9, _), (5, _), (4, _)]) ⟨rfl, rfl, rfl, rfl, rfl, trivial⟩ ?_
                refine W.cond rfl (fun hc141 => ?_) (fun hc141 => ?_)
                · skip
                  have hq0 := (fin_of (q := (X.1, 0 - sq.1)) (neg_sq hsqq)).2
                  have hfin : rd1 l = fin1 (X.1, 0 - sq.1) true := by rw [rd1_neg hX hsq hE hfb hX0 h48 (by have h := hc141; simpa using h), hs1]
                  refine W.region ?_
                  refine OpsW.det (det_loadA ty29 rfl (List.Mem.head _) rfl) rfl ?_
                  refine OpsW.det (det_call en23 rfl (fun w hb ho => Cu.Neg_ok (fun p hp => ho.look (List.mem_append_right _ hp)))) rfl ?_
                  refine OpsW.store sz29 rfl rfl rfl rfl rfl (Upd.here) rfl ?_
                  refine sNext ?_
                  refine W.keep (F' := [(15, _), (9, _), (5, _), (4, _)]) ⟨rfl, rfl, rfl, rfl, trivial⟩ ?_
                  refine sSeq ?_
                  refine W.region ?_
                  refine OpsW.det (det_loadA ty29 rfl (List.Mem.tail _ (List.Mem.tail _ (List.Mem.head _))) rfl) rfl ?_
                  refine OpsW.det (det_loadA ty29 rfl (List.Mem.head _) rfl) rfl ?_
                  refine OpsW.det (det_build rfl bld31) rfl ?_
                  refine OpsW.fresh (fr_alloc z31r) rfl fun b17 => ?_
                  refine OpsW.store sz31 rfl rfl rfl rfl rfl (Upd.here) rfl ?_
                  refine sNext ?_
                  refine W.keep (F' := [(17, _), (5, _), (4, _)]) ⟨rfl, rfl, rfl, trivial⟩ ?_
                  refine sSeq ?_
                  rcases hin : inB (X.1, 0 - sq.1) with _ | _
                  · skip
                    refine W.region ?_
                    refine OpsW.det (det_loadA ty31 rfl (List.Mem.head _) rfl) rfl ?_
                    refine OpsW.det (Det.to (det_call en20 rfl (fun w hb ho => PIn_ok (fun p hp => ho.look (List.mem_append_right _ hp)))) (congrArg Value.bool (hin))) rfl ?_
                    refine OpsW.det (det_move rfl) rfl ?_
                    refine OpsW.guard_no rfl rfl rfl ?_
                    refine OpsW.guard_no rfl rfl rfl ?_
                    refine OpsW.det (det_pick rfl rfl) rfl ?_
                    refine OpsW.det (det_move rfl) rfl ?_
                    refine OpsW.guard_no rfl rfl rfl ?_
                    refine OpsW.guard_no rfl rfl rfl ?_
                    refine OpsW.guard_no rfl rfl rfl ?_
                    refine OpsW.det (det_pick rfl rfl) rfl ?_
                    refine OpsW.det (det_move rfl) rfl ?_
                    refine OpsW.guard_yes rfl rfl ?_
                    refine OpsW.det (det_loadA ty31 rfl (List.Mem.head _) rfl) rfl ?_
                    refine OpsW.guard_yes rfl rfl ?_
                    refine OpsW.det (Det.to (det_call en20 rfl (fun w hb ho => PIn_ok (fun p hp => ho.look (List.mem_append_right _ hp)))) (congrArg Value.bool (hin))) rfl ?_
                    refine OpsW.guard_yes rfl rfl ?_
                    refine OpsW.det (det_not rfl) rfl ?_
                    refine OpsW.guard_yes rfl rfl ?_
                    refine OpsW.det (det_move rfl) rfl ?_
                    refine OpsW.guard_yes rfl rfl ?_
                    refine OpsW.det (det_move rfl) rfl ?_
                    refine OpsW.guard_yes rfl rfl ?_
                    refine OpsW.det (Det.to (det_eql rfl rfl) (congrArg Value.bool (beq_i (by rw [hR2, hfin.trans (fin_grp hq0 hin)])))) rfl ?_
                    refine OpsW.guard_yes rfl rfl ?_
                    refine OpsW.det (det_pick rfl rfl) rfl ?_
                    refine OpsW.det (det_pick rfl rfl) rfl ?_
                    refine OpsW.det (det_assign rfl) rfl ?_
                    refine sNext ?_
                    refine W.keep (F' := [(2, _)]) ⟨rfl, trivial⟩ ?_
                    refine sRet ?_
                    exact done1 Tryd.results3 (rv_tmp rfl) rfl
                  · skip
                    refine W.region ?_
                    refine OpsW.det (det_loadA ty31 rfl (List.Mem.head _) rfl) rfl ?_
                    refine OpsW.det (Det.to (det_call en20 rfl (fun w hb ho => PIn_ok (fun p hp => ho.look (List.mem_append_right _ hp)))) (congrArg Value.bool (hin))) rfl ?_
                    refine OpsW.det (det_move rfl) rfl ?_
                    refine OpsW.guard_yes rfl rfl ?_
                    refine OpsW.det (det_move rfl) rfl ?_
                    refine OpsW.guard_yes rfl rfl ?_
                    refine OpsW.det (Det.to (det_eql rfl rfl) (congrArg Value.bool (beq_i (by rw [hR2, hfin.trans (fin_ok hq0 hin)])))) rfl ?_
                    refine OpsW.det (det_pick rfl rfl) rfl ?_
                    refine OpsW.det (det_move rfl) rfl ?_
                    refine OpsW.guard_yes rfl rfl ?_
                    refine OpsW.det (det_loadA ty31 rfl (List.Mem.tail _ (List.Mem.tail _ (List.Mem.tail _ (List.Mem.tail _ (List.Mem.tail _ (List.Mem.head _)))))) rfl) rfl ?_
                    refine OpsW.guard_yes rfl rfl ?_
                    refine OpsW.det (det_loadA ty31 rfl (List.Mem.head _) rfl) rfl ?_
                    refine OpsW.guard_yes rfl rfl ?_
                    refine OpsW.det (Det.to (det_eql31 rfl rfl) (congrArg Value.bool (decide_eq_true (by rw [hR2, hfin.trans (fin_ok hq0 hin)])))) rfl ?_
                    refine OpsW.det (det_pick rfl rfl) rfl ?_
                    refine OpsW.det (det_move rfl) rfl ?_
                    refine OpsW.guard_no rfl rfl rfl ?_
                    refine OpsW.guard_no rfl rfl rfl ?_
                    refine OpsW.guard_no rfl rfl rfl ?_
                    refine OpsW.guard_no rfl rfl rfl ?_
                    refine OpsW.guard_un rfl rfl rfl ?_
                    refine OpsW.guard_un rfl rfl rfl ?_
                    refine OpsW.guard_no rfl rfl rfl ?_
                    refine OpsW.det (det_pick rfl rfl) rfl ?_
                    refine OpsW.det (det_assign rfl) rfl ?_
                    refine sNext ?_
                    refine W.keep (F' := [(2, _)]) ⟨rfl, trivial⟩ ?_
                    refine sRet ?_
                    exact done1 Tryd.results3 (rv_tmp rfl) rfl
                · skip
                  have hq0 := (fin_of (q := (X.1, sq.1)) hsqq).2
                  have hfin : rd1 l = fin1 (X.1, sq.1) true := by rw [rd1_pos hX hsq hE hfb hX0 h48 (by have h := hc141; simpa using h), hs1]
                  refine sSkip ?_
                  refine sSeq ?_
                  refine W.region ?_
                  refine OpsW.det (det_loadA ty29 rfl (List.Mem.tail _ (List.Mem.tail _ (List.Mem.head _))) rfl) rfl ?_
                  refine OpsW.det (det_loadA ty29 rfl (List.Mem.head _) rfl) rfl ?_
                  refine OpsW.det (det_build rfl bld31) rfl ?_
                  refine OpsW.fresh (fr_alloc z31r) rfl fun b17 => ?_
                  refine OpsW.store sz31 rfl rfl rfl rfl rfl (Upd.here) rfl ?_
                  refine sNext ?_
                  refine W.keep (F' := [(17, _), (5, _), (4, _)]) ⟨rfl, rfl, rfl, trivial⟩ ?_
                  refine sSeq ?_
                  rcases hin : inB (X.1, sq.1) with _ | _
                  · skip
                    refine W.region ?_
                    refine OpsW.det (det_loadA ty31 rfl (List.Mem.head _) rfl) rfl ?_
                    refine OpsW.det (Det.to (det_call en20 rfl (fun w hb ho => PIn_ok (fun p hp => ho.look (List.mem_append_right _ hp)))) (congrArg Value.bool (hin))) rfl ?_
                    refine OpsW.det (det_move rfl) rfl ?_
                    refine OpsW.guard_no rfl rfl rfl ?_
                    refine OpsW.guard_no rfl rfl rfl ?_
                    refine OpsW.det (det_pick rfl rfl) rfl ?_
                    refine OpsW.det (det_move rfl) rfl ?_
                    refine OpsW.guard_no rfl rfl rfl ?_
                    refine OpsW.guard_no rfl rfl rfl ?_
                    refine OpsW.guard_no rfl rfl rfl ?_
                    refine OpsW.det (det_pick rfl rfl) rfl ?_
                    refine OpsW.det (det_move rfl) rfl ?_
                    refine OpsW.guard_yes rfl rfl ?_
                    refine OpsW.det (det_loadA ty31 rfl (List.Mem.head _) rfl) rfl ?_
                    refine OpsW.guard_yes rfl rfl ?_
                    refine OpsW.det (Det.to (det_call en20 rfl (fun w hb ho => PIn_ok (fun p hp => ho.look (List.mem_append_right _ hp)))) (congrArg Value.bool (hin))) rfl ?_
                    refine OpsW.guard_yes rfl rfl ?_
                    refine OpsW.det (det_not rfl) rfl ?_
                    refine OpsW.guard_yes rfl rfl ?_
                    refine OpsW.det (det_move rfl) rfl ?_
                    refine OpsW.guard_yes rfl rfl ?_
                    refine OpsW.det (det_move rfl) rfl ?_
                    refine OpsW.guard_yes rfl rfl ?_
                    refine OpsW.det (Det.to (det_eql rfl rfl) (congrArg Value.bool (beq_i (by rw [hR2, hfin.trans (fin_grp hq0 hin)])))) rfl ?_
                    refine OpsW.guard_yes rfl rfl ?_
                    refine OpsW.det (det_pick rfl rfl) rfl ?_
                    refine OpsW.det (det_pick rfl rfl) rfl ?_
                    refine OpsW.det (det_assign rfl) rfl ?_
                    refine sNext ?_
                    refine W.keep (F' := [(2, _)]) ⟨rfl, trivial⟩ ?_
                    refine sRet ?_
                    exact done1 Tryd.results3 (rv_tmp rfl) rfl
                  · skip
                    refine W.region ?_
                    refine OpsW.det (det_loadA ty31 rfl (List.Mem.head _) rfl) rfl ?_
                    refine OpsW.det (Det.to (det_call en20 rfl (fun w hb ho => PIn_ok (fun p hp => ho.look (List.mem_append_right _ hp)))) (congrArg Value.bool (hin))) rfl ?_
                    refine OpsW.det (det_move rfl) rfl ?_
                    refine OpsW.guard_yes rfl rfl ?_
                    refine OpsW.det (det_move rfl) rfl ?_
                    refine OpsW.guard_yes rfl rfl ?_
                    refine OpsW.det (Det.to (det_eql rfl rfl) (congrArg Value.bool (beq_i (by rw [hR2, hfin.trans (fin_ok hq0 hin)])))) rfl ?_
                    refine OpsW.det (det_pick rfl rfl) rfl ?_
                    refine OpsW.det (det_move rfl) rfl ?_
                    refine OpsW.guard_yes rfl rfl ?_
                    refine OpsW.det (det_loadA ty31 rfl (List.Mem.tail _ (List.Mem.tail _ (List.Mem.tail _ (List.Mem.tail _ (List.Mem.tail _ (List.Mem.head _)))))) rfl) rfl ?_
                    refine OpsW.guard_yes rfl rfl ?_
                    refine OpsW.det (det_loadA ty31 rfl (List.Mem.head _) rfl) rfl ?_
                    refine OpsW.guard_yes rfl rfl ?_
                    refine OpsW.det (Det.to (det_eql31 rfl rfl) (congrArg Value.bool (decide_eq_true (by rw [hR2, hfin.trans (fin_ok hq0 hin)])))) rfl ?_
                    refine OpsW.det (det_pick rfl rfl) rfl ?_
                    refine OpsW.det (det_move rfl) rfl ?_
                    refine OpsW.guard_no rfl rfl rfl ?_
                    refine OpsW.guard_no rfl rfl rfl ?_
                    refine OpsW.guard_no rfl rfl rfl ?_
                    refine OpsW.guard_no rfl rfl rfl ?_
                    refine OpsW.guard_un rfl rfl rfl ?_
                    refine OpsW.guard_un rfl rfl rfl ?_
                    refine OpsW.guard_no rfl rfl rfl ?_
                    refine OpsW.det (det_pick rfl rfl) rfl ?_
                    refine OpsW.det (det_assign rfl) rfl ?_
                    refine sNext ?_
                    refine W.keep (F' := [(2, _)]) ⟨rfl, trivial⟩ ?_
                    refine sRet ?_
                    exact done1 Tryd.results3 (rv_tmp rfl) rfl
      · skip
        have hRM : R = ((0, 0), M.1) := by rw [hR, hM, rd1_mark (hM ▸ hM0)]
        refine W.region ?_
        refine OpsW.det (det_move rfl) rfl ?_
        refine OpsW.det (Det.to (det_neq rfl rfl) (congrArg Value.bool ((bne_iff_ne.2 hM0)))) rfl ?_
        refine OpsW.det (det_move rfl) rfl ?_
        refine OpsW.guard_no rfl rfl rfl ?_
        refine OpsW.det (det_pick rfl rfl) rfl ?_
        refine sNext ?_
        refine W.keep (F' := [(51, _), (6, _), (5, _), (4, _), (0, _)]) ⟨rfl, rfl, rfl, rfl, rfl, trivial⟩ ?_
        refine W.cond_true rfl ?_
        refine sSeq ?_
        refine W.region ?_
        refine OpsW.det (det_move rfl) rfl ?_
        refine OpsW.det (det_move rfl) rfl ?_
        refine OpsW.det (Det.to (det_eql rfl rfl) (congrArg Value.bool (beq_i (by rw [hRM])))) rfl ?_
        refine OpsW.det (det_move rfl) rfl ?_
        refine OpsW.guard_yes rfl rfl ?_
        refine OpsW.det (det_loadA ty31 rfl (List.Mem.head _) rfl) rfl ?_
        refine OpsW.guard_yes rfl rfl ?_
        refine OpsW.det (det_zero bz31) rfl ?_
        refine OpsW.guard_yes rfl rfl ?_
        refine OpsW.det (Det.to (det_eql31 rfl rfl) (congrArg Value.bool (decide_eq_true (by rw [hRM])))) rfl ?_
        refine OpsW.det (det_pick rfl rfl) rfl ?_
        refine OpsW.det (det_assign rfl) rfl ?_
        refine sNext ?_
        refine W.keep (F' := [(2, _)]) ⟨rfl, trivial⟩ ?_
        refine sRet ?_
        exact done1 Tryd.results3 (rv_tmp rfl) rfl

end Go.Cu
