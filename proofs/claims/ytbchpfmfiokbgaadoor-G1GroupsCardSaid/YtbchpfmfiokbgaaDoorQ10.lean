/-
  Part 10 of the joined texts of the curves' laws: The first group's laws: G1Adds: the walk. Conditions: the rules that the points obey.
  Conditions: those that each theorem states.
-/
import Derived.Test.YtbchpfmfiokbgaaDoorQ9
import Derived.Test.YtbchpfmfiokbgaaDoorQ6
/- The first group's laws: G1Adds: the walk. Conditions: the rules that the points obey. -/
namespace Go.Cu
open Go Go.Vm Go.RowKit Go.Proofs 
attribute [local irreducible] W OpsW Det Fresh New Writes Vm.Pure Makes Changes ExternTo BuildTo ZeroTo FieldTo IndexTo BinTo SliceTo Vm.Enters
set_option linter.unusedVariables false
set_option linter.unusedSimpArgs false
variable {T : Nat → TypeId × Nat × Nat}

structure AddsOk (T : Nat → TypeId × Nat × Nat) (p q : Pt) : Prop where
  a1 : onB p = true
  a2 : onB q = true
  a3 : onB (padd p q) = true
  a4 : onB (pneg (padd p q)) = true
  a5 : ∀ w, Blocks (GH T) w → Vm.Pure Tryd.prog 29 #[encP p, encP q, encP (pneg (padd p q))] w (.bool true)
  a6 : padd p q = padd q p
  a7 : psum [p, q] = padd p q
theorem slice45b {p q : Pt} : SliceTo Tryd.prog 45 2 [(0, encP p), (1, encP q)] (cellsP p ++ cellsP q) 30 := SliceTo.of fun _ => by kernel_rfl
theorem pts2 {p q : Pt} {b : Nat} : Pts [(b, blk (cellsP p ++ cellsP q) 30)] (.slice (some ⟨b, 0, none⟩) 2 2) [p, q] :=
  ⟨⟨_, _, rfl⟩, fun i h => ⟨b, 0, 2, _, 30, (0, 0), rfl, List.mem_singleton.2 rfl, by
    have h : i < 2 := h
    have : i = 0 ∨ i = 1 := by omega
    rcases this with rfl | rfl <;> rfl⟩⟩

theorem en29 : Vm.Enters Tryd.prog 29 := Vm.Enters.of fun _ _ => by kernel_rfl
set_option maxHeartbeats 8000000 in
theorem G1Adds_ok {G' : Hp} {va vb : Value} {la lb : List Nat} {n m : Nat} {how : Int} (ha : Bs G' va la) (hb' : Bs G' vb lb) (hn : n < 65536) (hm : m < 65536) (hh : HeadOk) {On : Pt → Prop} (ha0 : On (gp la)) (hb0 : On (gp lb)) (hn0 : On (wild n)) (hm0 : On (wild m)) (ho_pn : ∀ {p}, On p → On (pneg p)) (ho_z : On (0, 0)) (hr : ∀ p q, On p → On q → AddsOk T p q) {w : World} (hG : Blocks (G' ++ GH T) w)  : Vm.Pure Tryd.prog 6 #[va, vb, .int .u16 (n : Nat), .int .u16 (m : Nat), .int .i64 how] w (.bool true) := by
  obtain ⟨aa, ca, hva⟩ := ha.shape
  obtain ⟨ab, cb, hvb⟩ := hb'.shape
  refine pure_of_W (n := 89) (args := [va, vb, .int .u16 (n : Nat), .int .u16 (m : Nat), .int .i64 how]) Tryd.func6 rfl Tryd.ntmps6 (Nat.le_of_ble_eq_true rfl) hG ?_
  refine sStart ?_
  refine sSeq ?_
  subst hva
  subst hvb
  refine W.region ?_
  refine OpsW.det (det_assign rfl) rfl ?_
  refine sNext ?_
  refine W.keep (F' := [(0, _), (1, _), (2, _), (3, _), (4, _)]) ⟨rfl, rfl, rfl, rfl, rfl, trivial⟩ ?_
  refine sSeq ?_
  refine sSeq ?_
  refine W.region ?_
  refine OpsW.det (det_call en15 rfl (fun w hb ho => head_ok hh (fun p hp => ho.look (List.mem_append_right _ hp)))) rfl ?_
  refine OpsW.det (det_not rfl) rfl ?_
  refine sNext ?_
  refine W.keep (F' := [(15, _), (0, _), (1, _), (2, _), (3, _), (4, _)]) ⟨rfl, rfl, rfl, rfl, rfl, rfl, trivial⟩ ?_
  refine W.cond_false rfl ?_
  refine sSkip ?_
  refine sSeq ?_
  refine sSeq ?_
  refine W.region ?_
  refine OpsW.det (det_move rfl) rfl ?_
  refine OpsW.det (det_move rfl) rfl ?_
  refine OpsW.det (det_call en16 rfl (fun w hb ho => long_ok (fun p hp => ho.look (List.mem_append_right _ hp)))) rfl ?_
  refine sNext ?_
  refine W.keep (F' := [(18, _), (0, _), (1, _), (2, _), (3, _), (4, _)]) ⟨rfl, rfl, rfl, rfl, rfl, rfl, trivial⟩ ?_
  refine W.cond rfl (fun hc18 => ?_) (fun hc18 => ?_)
  · skip
    refine sSeq ?_
    refine W.region ?_
    refine OpsW.det (det_assign rfl) rfl ?_
    refine sNext ?_
    refine W.keep (F' := [(10, _)]) ⟨rfl, trivial⟩ ?_
    refine sRet ?_
    exact done1 Tryd.results6 (rv_tmp rfl) rfl
  · skip
    have hl := not_long hc18
    refine sSkip ?_
    refine sSeq ?_
    refine W.region ?_
    refine OpsW.det (det_call en17 rfl (fun w hb ho => Gen_ok (fun p hp => ho.look (List.mem_append_right _ hp)))) rfl ?_
    refine OpsW.det (det_move rfl) rfl ?_
    refine OpsW.det (det_call en19 rfl (fun w hb ho => scalar_ok (G' := G') ha (Nat.le_trans hl.1 (by decide)) ho.blocks)) rfl ?_
    refine OpsW.det (det_call en18 rfl (fun w hb ho => PMul_ok (fun p hp => ho.look (List.mem_append_right _ hp)))) rfl ?_
    refine OpsW.fresh (fr_alloc z30r) rfl fun b11 => ?_
    refine OpsW.store sz30 rfl rfl rfl rfl rfl (Upd.here) rfl ?_
    refine sNext ?_
    refine W.keep (F' := [(11, _), (1, _), (2, _), (3, _), (4, _)]) ⟨rfl, rfl, rfl, rfl, rfl, trivial⟩ ?_
    refine sSeq ?_
    refine W.region ?_
    refine OpsW.det (det_call en17 rfl (fun w hb ho => Gen_ok (fun p hp => ho.look (List.mem_append_right _ hp)))) rfl ?_
    refine OpsW.det (det_move rfl) rfl ?_
    refine OpsW.det (det_call en19 rfl (fun w hb ho => scalar_ok (G' := G') hb' (Nat.le_trans hl.2.1 (by decide)) ho.blocks)) rfl ?_
    refine OpsW.det (det_call en18 rfl (fun w hb ho => PMul_ok (fun p hp => ho.look (List.mem_append_right _ hp)))) rfl ?_
    refine OpsW.fresh (fr_alloc z30r) rfl fun b12 => ?_
    refine OpsW.store sz30 rfl rfl rfl rfl rfl (Upd.here) rfl ?_
    refine sNext ?_
    refine W.keep (F' := [(12, _), (11, _), (2, _), (3, _), (4, _)]) ⟨rfl, rfl, rfl, rfl, rfl, trivial⟩ ?_
    refine sSeq ?_
    refine sSeq ?_
    refine W.region ?_
    refine OpsW.det (det_move rfl) rfl ?_
    refine OpsW.det (det_and rfl rfl) rfl ?_
    generalize bitsOf .and .i64 how 7 = dd
    refine sNext ?_
    refine W.keep (F' := [(28, _), (12, _), (11, _), (2, _), (3, _)]) ⟨rfl, rfl, rfl, rfl, rfl, trivial⟩ ?_
    refine sBlock ?_
    refine sSeq ?_
    refine W.region ?_
    refine OpsW.det (det_eql rfl rfl) rfl ?_
    refine OpsW.det (det_assign rfl) rfl ?_
    refine sNext ?_
    refine W.keep (F' := [(29, _), (28, _), (12, _), (11, _), (2, _), (3, _)]) ⟨rfl, rfl, rfl, rfl, rfl, rfl, trivial⟩ ?_
    refine W.cond rfl (fun hc29 => ?_) (fun hc29 => ?_)
    · skip
      have hA := hr (gp la) (gp la) ha0 ha0
      refine W.region ?_
      refine OpsW.det (det_loadA ty30 rfl (List.Mem.tail _ (List.Mem.head _)) rfl) rfl ?_
      refine OpsW.store sz30 rfl rfl rfl rfl rfl (Upd.here) rfl ?_
      refine sLast ?_
      refine bNext ?_
      refine W.keep (F' := [(12, _), (11, _)]) ⟨rfl, rfl, trivial⟩ ?_
      refine sSeq ?_
      refine W.region ?_
      refine OpsW.det (det_loadA ty30 rfl (List.Mem.tail _ (List.Mem.head _)) rfl) rfl ?_
      refine OpsW.det (det_loadA ty30 rfl (List.Mem.head _) rfl) rfl ?_
      refine OpsW.det (det_call en20 rfl (fun w hb ho => PAdd_ok (fun p hp => ho.look (List.mem_append_right _ hp)))) rfl ?_
      refine OpsW.fresh (fr_alloc z30r) rfl fun b13 => ?_
      refine OpsW.store sz30 rfl rfl rfl rfl rfl (Upd.here) rfl ?_
      refine sNext ?_
      refine W.keep (F' := [(13, _), (12, _), (11, _)]) ⟨rfl, rfl, rfl, trivial⟩ ?_
      refine sSeq ?_
      refine W.draw mixed 38 [[], [0], [0, 1], [0, 1, 2], [0, 1, 2, 3], [0, 1, 2, 3, 4], [0, 1, 2, 3, 4, 5], [0, 1, 2, 3, 4, 5, 6], [0, 1, 2, 3, 4, 5, 6, 7], [0, 1, 2, 3, 4, 5, 6, 7, 8], [0, 1, 2, 3, 4, 5, 6, 7, 8, 9], [0, 1, 2, 3, 4, 5, 6, 7, 8, 9, 10], [0, 1, 2, 3, 4, 5, 6, 7, 8, 9, 10, 11], [0, 1, 2, 3, 4, 5, 6, 7, 8, 9, 10, 11, 12], [0, 1, 2, 3, 4, 5, 6, 7, 8, 9, 10, 11, 12, 13], [0, 1, 2, 3, 4, 5, 6, 7, 8, 9, 10, 11, 12, 13, 14], [0, 1, 2, 3, 4, 5, 6, 7, 8, 9, 10, 11, 12, 13, 14, 15], [0, 1, 2, 3, 4, 5, 6, 7, 8, 9, 10, 11, 12, 13, 14, 15], [0, 1, 2, 3, 4, 5, 6, 7, 8, 9, 10, 11, 12, 13, 14, 15], [0, 1, 2, 3, 4, 5, 6, 7, 8, 9, 10, 11, 12, 13, 14, 15, 18], [0, 1, 2, 3, 4, 5, 6, 7, 8, 9, 10, 11, 12, 13, 14, 15, 16, 17, 18, 19], [0, 1, 2, 3, 4, 5, 6, 7, 8, 9, 10, 11, 12, 13, 14, 15, 16, 17, 18, 19, 20], [0, 1, 2, 3, 4, 5, 6, 7, 8, 9, 10, 11, 12, 13, 14, 15, 16, 17, 18, 19, 20, 21], [0, 1, 2, 3, 4, 5, 6, 7, 8, 9, 10, 11, 12, 13, 14, 15, 16, 17, 18, 19, 20, 21, 22], [0, 1, 2, 3, 4, 5, 6, 7, 8, 9, 10, 11, 12, 13, 14, 15, 16, 17, 18, 19, 20, 21, 22], [0, 1, 2, 3, 4, 5, 6, 7, 8, 9, 10, 11, 12, 13, 14, 15, 16, 17, 18, 19, 20, 21, 22], [0, 1, 2, 3, 4, 5, 6, 7, 8, 9, 10, 11, 12, 13, 14, 15, 16, 17, 18, 19, 20, 21, 22, 24, 25], [0, 1, 2, 3, 4, 5, 6, 7, 8, 9, 10, 11, 12, 13, 14, 15, 16, 17, 18, 19, 20, 21, 22, 23, 24, 25, 26], [0, 1, 2, 3, 4, 5, 6, 7, 8, 9, 10, 11, 12, 13, 14, 15, 16, 17, 18, 19, 20, 21, 22, 23, 24, 25, 26, 27], [0, 1, 2, 3, 4, 5, 6, 7, 8, 9, 10, 11, 12, 13, 14, 15, 16, 17, 18, 19, 20, 21, 22, 23, 24, 25, 26, 27, 28], [0, 1, 2, 3, 4, 5, 6, 7, 8, 9, 10, 11, 12, 13, 14, 15, 16, 17, 18, 19, 20, 21, 22, 23, 24, 25, 26, 27, 28, 29], [0, 1, 2, 3, 4, 5, 6, 7, 8, 9, 10, 11, 12, 13, 14, 15, 16, 17, 18, 19, 20, 21, 22, 23, 24, 25, 26, 27, 28, 29], [0, 1, 2, 3, 4, 5, 6, 7, 8, 9, 10, 11, 12, 13, 14, 15, 16, 17, 18, 19, 20, 21, 22, 23, 24, 25, 26, 27, 28, 29, 30, 31], [0, 1, 2, 3, 4, 5, 6, 7, 8, 9, 10, 11, 12, 13, 14, 15, 16, 17, 18, 19, 20, 21, 22, 23, 24, 25, 26, 27, 28, 29, 30, 31, 32], [0, 1, 2, 3, 4, 5, 6, 7, 8, 9, 10, 11, 12, 13, 14, 15, 16, 17, 18, 19, 20, 21, 22, 23, 24, 25, 26, 27, 28, 29], [0, 1, 2, 3, 4, 5, 6, 7, 8, 9, 10, 11, 12, 13, 14, 15, 16, 17, 18, 19, 20, 21, 22, 23, 24, 25, 26, 27, 28, 29, 30, 31, 32, 33, 34], [0, 1, 2, 3, 4, 5, 6, 7, 8, 9, 10, 11, 12, 13, 14, 15, 16, 17, 18, 19, 20, 21, 22, 23, 24, 25, 26, 27, 28, 29, 30, 31, 32, 33, 34, 35], [0, 1, 2, 3, 4, 5, 6, 7, 8, 9, 10, 11, 12, 13, 14, 15, 16, 17, 18, 19, 20, 21, 22, 23, 24, 25, 26, 27, 28, 29, 30, 31, 32, 33, 34, 35, 36]] (cl_lt (by decide)) ?_
      refine HeadR.start (cl_lt (by decide)) ?_
      refine HeadR.det rfl (fun β hβ => (det_loadA ty30 rfl (List.Mem.tail _ (List.Mem.tail _ (List.Mem.head _))) rfl)) ?_
      refine HeadR.det rfl (fun β hβ => (Det.to (det_call en23 rfl (fun w hb ho => POn_ok (fun p hp => ho.look (List.mem_append_right _ hp)))) (congrArg Value.bool (hA.a1)))) ?_
      refine HeadR.det rfl (fun β hβ => (det_move rfl)) ?_
      refine HeadR.yes rfl rfl (fun _ _ => rfl) (fun β hβ => (det_loadA ty30 rfl (List.Mem.tail _ (List.Mem.head _)) rfl)) ?_
      refine HeadR.yes rfl rfl (fun _ _ => rfl) (fun β hβ => (Det.to (det_call en23 rfl (fun w hb ho => POn_ok (fun p hp => ho.look (List.mem_append_right _ hp)))) (congrArg Value.bool (hA.a2)))) ?_
      refine HeadR.det rfl (fun β hβ => (det_pick rfl rfl)) ?_
      refine HeadR.det rfl (fun β hβ => (det_move rfl)) ?_
      refine HeadR.yes rfl rfl (fun _ _ => rfl) (fun β hβ => (det_loadA ty30 rfl (List.Mem.head _) rfl)) ?_
      refine HeadR.yes rfl rfl (fun _ _ => rfl) (fun β hβ => (Det.to (det_call en23 rfl (fun w hb ho => POn_ok (fun p hp => ho.look (List.mem_append_right _ hp)))) (congrArg Value.bool (hA.a3)))) ?_
      refine HeadR.det rfl (fun β hβ => (det_pick rfl rfl)) ?_
      refine HeadR.det rfl (fun β hβ => (det_move rfl)) ?_
      refine HeadR.yes rfl rfl (fun _ _ => rfl) (fun β hβ => (det_loadA ty30 rfl (List.Mem.head _) rfl)) ?_
      refine HeadR.yes rfl rfl (fun _ _ => rfl) (fun β hβ => (det_call en22 rfl (fun w hb ho => PNeg_ok (fun p hp => ho.look (List.mem_append_right _ hp))))) ?_
      refine HeadR.yes rfl rfl (fun _ _ => rfl) (fun β hβ => (Det.to (det_call en23 rfl (fun w hb ho => POn_ok (fun p hp => ho.look (List.mem_append_right _ hp)))) (congrArg Value.bool (hA.a4)))) ?_
      refine HeadR.det rfl (fun β hβ => (det_pick rfl rfl)) ?_
      refine HeadR.det rfl (fun β hβ => (det_move rfl)) ?_
      refine HeadR.yes rfl rfl (fun _ _ => rfl) (fun β hβ => (det_loadA ty30 rfl (List.Mem.tail _ (List.Mem.tail _ (List.Mem.head _))) rfl)) ?_
      refine HeadR.yes rfl rfl (fun _ _ => rfl) (fun β hβ => (det_loadA ty30 rfl (List.Mem.tail _ (List.Mem.head _)) rfl)) ?_
      refine HeadR.yes rfl rfl (fun _ _ => rfl) (fun β hβ => (det_loadA ty30 rfl (List.Mem.head _) rfl)) ?_
      refine HeadR.yes rfl rfl (fun _ _ => rfl) (fun β hβ => (det_call en22 rfl (fun w hb ho => PNeg_ok (fun p hp => ho.look (List.mem_append_right _ hp))))) ?_
      refine HeadR.yes rfl rfl (fun _ _ => rfl) (fun β hβ => (Det.to (det_call en29 rfl (fun w hb ho => hA.a5 _ (fun p hp => ho.look (List.mem_append_right _ hp)))) (congrArg Value.bool (rfl)))) ?_
      refine HeadR.det rfl (fun β hβ => (det_pick rfl rfl)) ?_
      refine HeadR.det rfl (fun β hβ => (det_move rfl)) ?_
      refine HeadR.yes rfl rfl (fun _ _ => rfl) (fun β hβ => (det_loadA ty30 rfl (List.Mem.head _) rfl)) ?_
      refine HeadR.yes rfl rfl (fun _ _ => rfl) (fun β hβ => (det_loadA ty30 rfl (List.Mem.tail _ (List.Mem.head _)) rfl)) ?_
      refine HeadR.yes rfl rfl (fun _ _ => rfl) (fun β hβ => (det_loadA ty30 rfl (List.Mem.tail _ (List.Mem.tail _ (List.Mem.head _))) rfl)) ?_
      refine HeadR.yes rfl rfl (fun _ _ => rfl) (fun β hβ => (det_call en20 rfl (fun w hb ho => PAdd_ok (fun p hp => ho.look (List.mem_append_right _ hp))))) ?_
      refine HeadR.yes rfl rfl (fun _ _ => rfl) (fun β hβ => (Det.to (det_eql30 rfl rfl) (congrArg Value.bool (yb hA.a6.symm.symm)))) ?_
      refine HeadR.det rfl (fun β hβ => (det_pick rfl rfl)) ?_
      refine HeadR.det rfl (fun β hβ => (det_move rfl)) ?_
      refine HeadR.yes rfl rfl (fun _ _ => rfl) (fun β hβ => (det_loadA ty30 rfl (List.Mem.tail _ (List.Mem.tail _ (List.Mem.head _))) rfl)) ?_
      refine HeadR.yes rfl rfl (fun _ _ => rfl) (fun β hβ => (det_loadA ty30 rfl (List.Mem.tail _ (List.Mem.head _)) rfl)) ?_
      refine HeadR.yesFresh rfl rfl (fun _ _ => rfl) (fun β hβ => (fr_buildSlice rfl (slice45b (p := (gp la)) (q := (gp la)))).new) ?_
      refine HeadR.yes rfl rfl (fun _ _ => rfl) (fun β hβ => (det_call en21 rfl (fun w hb ho => PSum_ok (G' := [((β 84).1, blk (cellsP (gp la) ++ cellsP (gp la)) 30)]) pts2 (by show 2 ≤ 1000000000000; decide) (blocks_cons (hb _ (List.Mem.head _)) (fun p hp => ho.look (List.mem_append_right _ hp)))))) ?_
      refine HeadR.yes rfl rfl (fun _ _ => rfl) (fun β hβ => (det_loadA ty30 rfl (List.Mem.head _) rfl)) ?_
      refine HeadR.yes rfl rfl (fun _ _ => rfl) (fun β hβ => (Det.to (det_eql30 rfl rfl) (congrArg Value.bool (yb hA.a7)))) ?_
      refine HeadR.det rfl (fun β hβ => (det_pick rfl rfl)) ?_
      refine HeadR.det rfl (fun β hβ => (det_assign rfl)) ?_
      refine HeadR.done ⟨by kernel_rfl, fun β hβ => ?_⟩
      refine OpsW.norm (F' := ((52, _) :: (53, _) :: (54, _) :: (55, _) :: (56, _) :: (57, _) :: (58, _) :: (59, _) :: (60, _) :: (61, _) :: (62, _) :: (63, _) :: (64, _) :: (65, _) :: (66, _) :: (67, _) :: (68, _) :: (69, _) :: (70, _) :: (71, _) :: (72, _) :: (73, _) :: (74, _) :: (75, _) :: (76, _) :: (77, _) :: (78, _) :: (79, _) :: (80, _) :: (81, _) :: (82, _) :: (83, _) :: (84, .slice (some ⟨(β 84).1, 0, none⟩) 2 2) :: (85, _) :: (86, _) :: (87, _) :: (88, _) :: (10, _) :: (13, _) :: (12, _) :: (11, _) :: [])) (H' := [(_, _), (_, _), (_, _), (_, _)]) rfl rfl ?_
      generalize (β 84).1 = b84
      refine sNext ?_
      refine W.keep (F' := [(10, _)]) ⟨rfl, trivial⟩ ?_
      refine sRet ?_
      exact done1 Tryd.results6 (rv_tmp rfl) rfl
    · skip
      refine sSeq ?_
      refine W.region ?_
      refine OpsW.det (det_eql rfl rfl) rfl ?_
      refine OpsW.det (det_assign rfl) rfl ?_
      refine sNext ?_
      refine W.keep (F' := [(32, _), (28, _), (12, _), (11, _), (2, _), (3, _)]) ⟨rfl, rfl, rfl, rfl, rfl, rfl, trivial⟩ ?_
      refine W.cond rfl (fun hc32 => ?_) (fun hc32 => ?_)
      · skip
        have hA := hr (gp la) (pneg (gp la)) ha0 (ho_pn ha0)
        refine W.region ?_
        refine OpsW.det (det_loadA ty30 rfl (List.Mem.tail _ (List.Mem.head _)) rfl) rfl ?_
        refine OpsW.det (det_call en22 rfl (fun w hb ho => PNeg_ok (fun p hp => ho.look (List.mem_append_right _ hp)))) rfl ?_
        refine OpsW.store sz30 rfl rfl rfl rfl rfl (Upd.here) rfl ?_
        refine sLast ?_
        refine bNext ?_
        refine W.keep (F' := [(12, _), (11, _)]) ⟨rfl, rfl, trivial⟩ ?_
        refine sSeq ?_
        refine W.region ?_
        refine OpsW.det (det_loadA ty30 rfl (List.Mem.tail _ (List.Mem.head _)) rfl) rfl ?_
        refine OpsW.det (det_loadA ty30 rfl (List.Mem.head _) rfl) rfl ?_
        refine OpsW.det (det_call en20 rfl (fun w hb ho => PAdd_ok (fun p hp => ho.look (List.mem_append_right _ hp)))) rfl ?_
        refine OpsW.fresh (fr_alloc z30r) rfl fun b13 => ?_
        refine OpsW.store sz30 rfl rfl rfl rfl rfl (Upd.here) rfl ?_
        refine sNext ?_
        refine W.keep (F' := [(13, _), (12, _), (11, _)]) ⟨rfl, rfl, rfl, trivial⟩ ?_
        refine sSeq ?_
        refine W.draw mixed 38 [[], [0], [0, 1], [0, 1, 2], [0, 1, 2, 3], [0, 1, 2, 3, 4], [0, 1, 2, 3, 4, 5], [0, 1, 2, 3, 4, 5, 6], [0, 1, 2, 3, 4, 5, 6, 7], [0, 1, 2, 3, 4, 5, 6, 7, 8], [0, 1, 2, 3, 4, 5, 6, 7, 8, 9], [0, 1, 2, 3, 4, 5, 6, 7, 8, 9, 10], [0, 1, 2, 3, 4, 5, 6, 7, 8, 9, 10, 11], [0, 1, 2, 3, 4, 5, 6, 7, 8, 9, 10, 11, 12], [0, 1, 2, 3, 4, 5, 6, 7, 8, 9, 10, 11, 12, 13], [0, 1, 2, 3, 4, 5, 6, 7, 8, 9, 10, 11, 12, 13, 14], [0, 1, 2, 3, 4, 5, 6, 7, 8, 9, 10, 11, 12, 13, 14, 15], [0, 1, 2, 3, 4, 5, 6, 7, 8, 9, 10, 11, 12, 13, 14, 15], [0, 1, 2, 3, 4, 5, 6, 7, 8, 9, 10, 11, 12, 13, 14, 15], [0, 1, 2, 3, 4, 5, 6, 7, 8, 9, 10, 11, 12, 13, 14, 15, 18], [0, 1, 2, 3, 4, 5, 6, 7, 8, 9, 10, 11, 12, 13, 14, 15, 16, 17, 18, 19], [0, 1, 2, 3, 4, 5, 6, 7, 8, 9, 10, 11, 12, 13, 14, 15, 16, 17, 18, 19, 20], [0, 1, 2, 3, 4, 5, 6, 7, 8, 9, 10, 11, 12, 13, 14, 15, 16, 17, 18, 19, 20, 21], [0, 1, 2, 3, 4, 5, 6, 7, 8, 9, 10, 11, 12, 13, 14, 15, 16, 17, 18, 19, 20, 21, 22], [0, 1, 2, 3, 4, 5, 6, 7, 8, 9, 10, 11, 12, 13, 14, 15, 16, 17, 18, 19, 20, 21, 22], [0, 1, 2, 3, 4, 5, 6, 7, 8, 9, 10, 11, 12, 13, 14, 15, 16, 17, 18, 19, 20, 21, 22], [0, 1, 2, 3, 4, 5, 6, 7, 8, 9, 10, 11, 12, 13, 14, 15, 16, 17, 18, 19, 20, 21, 22, 24, 25], [0, 1, 2, 3, 4, 5, 6, 7, 8, 9, 10, 11, 12, 13, 14, 15, 16, 17, 18, 19, 20, 21, 22, 23, 24, 25, 26], [0, 1, 2, 3, 4, 5, 6, 7, 8, 9, 10, 11, 12, 13, 14, 15, 16, 17, 18, 19, 20, 21, 22, 23, 24, 25, 26, 27], [0, 1, 2, 3, 4, 5, 6, 7, 8, 9, 10, 11, 12, 13, 14, 15, 16, 17, 18, 19, 20, 21, 22, 23, 24, 25, 26, 27, 28], [0, 1, 2, 3, 4, 5, 6, 7, 8, 9, 10, 11, 12, 13, 14, 15, 16, 17, 18, 19, 20, 21, 22, 23, 24, 25, 26, 27, 28, 29], [0, 1, 2, 3, 4, 5, 6, 7, 8, 9, 10, 11, 12, 13, 14, 15, 16, 17, 18, 19, 20, 21, 22, 23, 24, 25, 26, 27, 28, 29], [0, 1, 2, 3, 4, 5, 6, 7, 8, 9, 10, 11, 12, 13, 14, 15, 16, 17, 18, 19, 20, 21, 22, 23, 24, 25, 26, 27, 28, 29, 30, 31], [0, 1, 2, 3, 4, 5, 6, 7, 8, 9, 10, 11, 12, 13, 14, 15, 16, 17, 18, 19, 20, 21, 22, 23, 24, 25, 26, 27, 28, 29, 30, 31, 32], [0, 1, 2, 3, 4, 5, 6, 7, 8, 9, 10, 11, 12, 13, 14, 15, 16, 17, 18, 19, 20, 21, 22, 23, 24, 25, 26, 27, 28, 29], [0, 1, 2, 3, 4, 5, 6, 7, 8, 9, 10, 11, 12, 13, 14, 15, 16, 17, 18, 19, 20, 21, 22, 23, 24, 25, 26, 27, 28, 29, 30, 31, 32, 33, 34], [0, 1, 2, 3, 4, 5, 6, 7, 8, 9, 10, 11, 12, 13, 14, 15, 16, 17, 18, 19, 20, 21, 22, 23, 24, 25, 26, 27, 28, 29, 30, 31, 32, 33, 34, 35], [0, 1, 2, 3, 4, 5, 6, 7, 8, 9, 10, 11, 12, 13, 14, 15, 16, 17, 18, 19, 20, 21, 22, 23, 24, 25, 26, 27, 28, 29, 30, 31, 32, 33, 34, 35, 36]] (cl_lt (by decide)) ?_
        refine HeadR.start (cl_lt (by decide)) ?_
        refine HeadR.det rfl (fun β hβ => (det_loadA ty30 rfl (List.Mem.tail _ (List.Mem.tail _ (List.Mem.head _))) rfl)) ?_
        refine HeadR.det rfl (fun β hβ => (Det.to (det_call en23 rfl (fun w hb ho => POn_ok (fun p hp => ho.look (List.mem_append_right _ hp)))) (congrArg Value.bool (hA.a1)))) ?_
        refine HeadR.det rfl (fun β hβ => (det_move rfl)) ?_
        refine HeadR.yes rfl rfl (fun _ _ => rfl) (fun β hβ => (det_loadA ty30 rfl (List.Mem.tail _ (List.Mem.head _)) rfl)) ?_
        refine HeadR.yes rfl rfl (fun _ _ => rfl) (fun β hβ => (Det.to (det_call en23 rfl (fun w hb ho => POn_ok (fun p hp => ho.look (List.mem_append_right _ hp)))) (congrArg Value.bool (hA.a2)))) ?_
        refine HeadR.det rfl (fun β hβ => (det_pick rfl rfl)) ?_
        refine HeadR.det rfl (fun β hβ => (det_move rfl)) ?_
        refine HeadR.yes rfl rfl (fun _ _ => rfl) (fun β hβ => (det_loadA ty30 rfl (List.Mem.head _) rfl)) ?_
        refine HeadR.yes rfl rfl (fun _ _ => rfl) (fun β hβ => (Det.to (det_call en23 rfl (fun w hb ho => POn_ok (fun p hp => ho.look (List.mem_append_right _ hp)))) (congrArg Value.bool (hA.a3)))) ?_
        refine HeadR.det rfl (fun β hβ => (det_pick rfl rfl)) ?_
        refine HeadR.det rfl (fun β hβ => (det_move rfl)) ?_
        refine HeadR.yes rfl rfl (fun _ _ => rfl) (fun β hβ => (det_loadA ty30 rfl (List.Mem.head _) rfl)) ?_
        refine HeadR.yes rfl rfl (fun _ _ => rfl) (fun β hβ => (det_call en22 rfl (fun w hb ho => PNeg_ok (fun p hp => ho.look (List.mem_append_right _ hp))))) ?_
        refine HeadR.yes rfl rfl (fun _ _ => rfl) (fun β hβ => (Det.to (det_call en23 rfl (fun w hb ho => POn_ok (fun p hp => ho.look (List.mem_append_right _ hp)))) (congrArg Value.bool (hA.a4)))) ?_
        refine HeadR.det rfl (fun β hβ => (det_pick rfl rfl)) ?_
        refine HeadR.det rfl (fun β hβ => (det_move rfl)) ?_
        refine HeadR.yes rfl rfl (fun _ _ => rfl) (fun β hβ => (det_loadA ty30 rfl (List.Mem.tail _ (List.Mem.tail _ (List.Mem.head _))) rfl)) ?_
        refine HeadR.yes rfl rfl (fun _ _ => rfl) (fun β hβ => (det_loadA ty30 rfl (List.Mem.tail _ (List.Mem.head _)) rfl)) ?_
        refine HeadR.yes rfl rfl (fun _ _ => rfl) (fun β hβ => (det_loadA ty30 rfl (List.Mem.head _) rfl)) ?_
        refine HeadR.yes rfl rfl (fun _ _ => rfl) (fun β hβ => (det_call en22 rfl (fun w hb ho => PNeg_ok (fun p hp => ho.look (List.mem_append_right _ hp))))) ?_
        refine HeadR.yes rfl rfl (fun _ _ => rfl) (fun β hβ => (Det.to (det_call en29 rfl (fun w hb ho => hA.a5 _ (fun p hp => ho.look (List.mem_append_right _ hp)))) (congrArg Value.bool (rfl)))) ?_
        refine HeadR.det rfl (fun β hβ => (det_pick rfl rfl)) ?_
        refine HeadR.det rfl (fun β hβ => (det_move rfl)) ?_
        refine HeadR.yes rfl rfl (fun _ _ => rfl) (fun β hβ => (det_loadA ty30 rfl (List.Mem.head _) rfl)) ?_
        refine HeadR.yes rfl rfl (fun _ _ => rfl) (fun β hβ => (det_loadA ty30 rfl (List.Mem.tail _ (List.Mem.head _)) rfl)) ?_
        refine HeadR.yes rfl rfl (fun _ _ => rfl) (fun β hβ => (det_loadA ty30 rfl (List.Mem.tail _ (List.Mem.tail _ (List.Mem.head _))) rfl)) ?_
        refine HeadR.yes rfl rfl (fun _ _ => rfl) (fun β hβ => (det_call en20 rfl (fun w hb ho => PAdd_ok (fun p hp => ho.look (List.mem_append_right _ hp))))) ?_
        refine HeadR.yes rfl rfl (fun _ _ => rfl) (fun β hβ => (Det.to (det_eql30 rfl rfl) (congrArg Value.bool (yb hA.a6.symm.symm)))) ?_
        refine HeadR.det rfl (fun β hβ => (det_pick rfl rfl)) ?_
        refine HeadR.det rfl (fun β hβ => (det_move rfl)) ?_
        refine HeadR.yes rfl rfl (fun _ _ => rfl) (fun β hβ => (det_loadA ty30 rfl (List.Mem.tail _ (List.Mem.tail _ (List.Mem.head _))) rfl)) ?_
        refine HeadR.yes rfl rfl (fun _ _ => rfl) (fun β hβ => (det_loadA ty30 rfl (List.Mem.tail _ (List.Mem.head _)) rfl)) ?_
        refine HeadR.yesFresh rfl rfl (fun _ _ => rfl) (fun β hβ => (fr_buildSlice rfl (slice45b (p := (gp la)) (q := (pneg (gp la))))).new) ?_
        refine HeadR.yes rfl rfl (fun _ _ => rfl) (fun β hβ => (det_call en21 rfl (fun w hb ho => PSum_ok (G' := [((β 84).1, blk (cellsP (gp la) ++ cellsP (pneg (gp la))) 30)]) pts2 (by show 2 ≤ 1000000000000; decide) (blocks_cons (hb _ (List.Mem.head _)) (fun p hp => ho.look (List.mem_append_right _ hp)))))) ?_
        refine HeadR.yes rfl rfl (fun _ _ => rfl) (fun β hβ => (det_loadA ty30 rfl (List.Mem.head _) rfl)) ?_
        refine HeadR.yes rfl rfl (fun _ _ => rfl) (fun β hβ => (Det.to (det_eql30 rfl rfl) (congrArg Value.bool (yb hA.a7)))) ?_
        refine HeadR.det rfl (fun β hβ => (det_pick rfl rfl)) ?_
        refine HeadR.det rfl (fun β hβ => (det_assign rfl)) ?_
        refine HeadR.done ⟨by kernel_rfl, fun β hβ => ?_⟩
        refine OpsW.norm (F' := ((52, _) :: (53, _) :: (54, _) :: (55, _) :: (56, _) :: (57, _) :: (58, _) :: (59, _) :: (60, _) :: (61, _) :: (62, _) :: (63, _) :: (64, _) :: (65, _) :: (66, _) :: (67, _) :: (68, _) :: (69, _) :: (70, _) :: (71, _) :: (72, _) :: (73, _) :: (74, _) :: (75, _) :: (76, _) :: (77, _) :: (78, _) :: (79, _) :: (80, _) :: (81, _) :: (82, _) :: (83, _) :: (84, .slice (some ⟨(β 84).1, 0, none⟩) 2 2) :: (85, _) :: (86, _) :: (87, _) :: (88, _) :: (10, _) :: (13, _) :: (12, _) :: (11, _) :: [])) (H' := [(_, _), (_, _), (_, _), (_, _)]) rfl rfl ?_
        generalize (β 84).1 = b84
        refine sNext ?_
        refine W.keep (F' := [(10, _)]) ⟨rfl, trivial⟩ ?_
        refine sRet ?_
        exact done1 Tryd.results6 (rv_tmp rfl) rfl
      · skip
        refine sSeq ?_
        refine W.region ?_
        refine OpsW.det (det_eql rfl rfl) rfl ?_
        refine OpsW.det (det_assign rfl) rfl ?_
        refine sNext ?_
        refine W.keep (F' := [(36, _), (28, _), (12, _), (11, _), (2, _), (3, _)]) ⟨rfl, rfl, rfl, rfl, rfl, rfl, trivial⟩ ?_
        refine W.cond rfl (fun hc36 => ?_) (fun hc36 => ?_)
        · skip
          have hA := hr (wild n) (gp lb) hn0 hb0
          refine W.region ?_
          refine OpsW.det (det_move rfl) rfl ?_
          refine OpsW.det (det_call en24 rfl (fun w hb ho => wild_ok hn (fun p hp => ho.look (List.mem_append_right _ hp)))) rfl ?_
          refine OpsW.store sz30 rfl rfl rfl rfl rfl (Upd.there (Upd.here)) rfl ?_
          refine sLast ?_
          refine bNext ?_
          refine W.keep (F' := [(12, _), (11, _)]) ⟨rfl, rfl, trivial⟩ ?_
          refine sSeq ?_
          refine W.region ?_
          refine OpsW.det (det_loadA ty30 rfl (List.Mem.tail _ (List.Mem.head _)) rfl) rfl ?_
          refine OpsW.det (det_loadA ty30 rfl (List.Mem.head _) rfl) rfl ?_
          refine OpsW.det (det_call en20 rfl (fun w hb ho => PAdd_ok (fun p hp => ho.look (List.mem_append_right _ hp)))) rfl ?_
          refine OpsW.fresh (fr_alloc z30r) rfl fun b13 => ?_
          refine OpsW.store sz30 rfl rfl rfl rfl rfl (Upd.here) rfl ?_
          refine sNext ?_
          refine W.keep (F' := [(13, _), (12, _), (11, _)]) ⟨rfl, rfl, rfl, trivial⟩ ?_
          refine sSeq ?_
          refine W.draw mixed 38 [[], [0], [0, 1], [0, 1, 2], [0, 1, 2, 3], [0, 1, 2, 3, 4], [0, 1, 2, 3, 4, 5], [0, 1, 2, 3, 4, 5, 6], [0, 1, 2, 3, 4, 5, 6, 7], [0, 1, 2, 3, 4, 5, 6, 7, 8], [0, 1, 2, 3, 4, 5, 6, 7, 8, 9], [0, 1, 2, 3, 4, 5, 6, 7, 8, 9, 10], [0, 1, 2, 3, 4, 5, 6, 7, 8, 9, 10, 11], [0, 1, 2, 3, 4, 5, 6, 7, 8, 9, 10, 11, 12], [0, 1, 2, 3, 4, 5, 6, 7, 8, 9, 10, 11, 12, 13], [0, 1, 2, 3, 4, 5, 6, 7, 8, 9, 10, 11, 12, 13, 14], [0, 1, 2, 3, 4, 5, 6, 7, 8, 9, 10, 11, 12, 13, 14, 15], [0, 1, 2, 3, 4, 5, 6, 7, 8, 9, 10, 11, 12, 13, 14, 15], [0, 1, 2, 3, 4, 5, 6, 7, 8, 9, 10, 11, 12, 13, 14, 15], [0, 1, 2, 3, 4, 5, 6, 7, 8, 9, 10, 11, 12, 13, 14, 15, 18], [0, 1, 2, 3, 4, 5, 6, 7, 8, 9, 10, 11, 12, 13, 14, 15, 16, 17, 18, 19], [0, 1, 2, 3, 4, 5, 6, 7, 8, 9, 10, 11, 12, 13, 14, 15, 16, 17, 18, 19, 20], [0, 1, 2, 3, 4, 5, 6, 7, 8, 9, 10, 11, 12, 13, 14, 15, 16, 17, 18, 19, 20, 21], [0, 1, 2, 3, 4, 5, 6, 7, 8, 9, 10, 11, 12, 13, 14, 15, 16, 17, 18, 19, 20, 21, 22], [0, 1, 2, 3, 4, 5, 6, 7, 8, 9, 10, 11, 12, 13, 14, 15, 16, 17, 18, 19, 20, 21, 22], [0, 1, 2, 3, 4, 5, 6, 7, 8, 9, 10, 11, 12, 13, 14, 15, 16, 17, 18, 19, 20, 21, 22], [0, 1, 2, 3, 4, 5, 6, 7, 8, 9, 10, 11, 12, 13, 14, 15, 16, 17, 18, 19, 20, 21, 22, 24, 25], [0, 1, 2, 3, 4, 5, 6, 7, 8, 9, 10, 11, 12, 13, 14, 15, 16, 17, 18, 19, 20, 21, 22, 23, 24, 25, 26], [0, 1, 2, 3, 4, 5, 6, 7, 8, 9, 10, 11, 12, 13, 14, 15, 16, 17, 18, 19, 20, 21, 22, 23, 24, 25, 26, 27], [0, 1, 2, 3, 4, 5, 6, 7, 8, 9, 10, 11, 12, 13, 14, 15, 16, 17, 18, 19, 20, 21, 22, 23, 24, 25, 26, 27, 28], [0, 1, 2, 3, 4, 5, 6, 7, 8, 9, 10, 11, 12, 13, 14, 15, 16, 17, 18, 19, 20, 21, 22, 23, 24, 25, 26, 27, 28, 29], [0, 1, 2, 3, 4, 5, 6, 7, 8, 9, 10, 11, 12, 13, 14, 15, 16, 17, 18, 19, 20, 21, 22, 23, 24, 25, 26, 27, 28, 29], [0, 1, 2, 3, 4, 5, 6, 7, 8, 9, 10, 11, 12, 13, 14, 15, 16, 17, 18, 19, 20, 21, 22, 23, 24, 25, 26, 27, 28, 29, 30, 31], [0, 1, 2, 3, 4, 5, 6, 7, 8, 9, 10, 11, 12, 13, 14, 15, 16, 17, 18, 19, 20, 21, 22, 23, 24, 25, 26, 27, 28, 29, 30, 31, 32], [0, 1, 2, 3, 4, 5, 6, 7, 8, 9, 10, 11, 12, 13, 14, 15, 16, 17, 18, 19, 20, 21, 22, 23, 24, 25, 26, 27, 28, 29], [0, 1, 2, 3, 4, 5, 6, 7, 8, 9, 10, 11, 12, 13, 14, 15, 16, 17, 18, 19, 20, 21, 22, 23, 24, 25, 26, 27, 28, 29, 30, 31, 32, 33, 34], [0, 1, 2, 3, 4, 5, 6, 7, 8, 9, 10, 11, 12, 13, 14, 15, 16, 17, 18, 19, 20, 21, 22, 23, 24, 25, 26, 27, 28, 29, 30, 31, 32, 33, 34, 35], [0, 1, 2, 3, 4, 5, 6, 7, 8, 9, 10, 11, 12, 13, 14, 15, 16, 17, 18, 19, 20, 21, 22, 23, 24, 25, 26, 27, 28, 29, 30, 31, 32, 33, 34, 35, 36]] (cl_lt (by decide)) ?_
          refine HeadR.start (cl_lt (by decide)) ?_
          refine HeadR.det rfl (fun β hβ => (det_loadA ty30 rfl (List.Mem.tail _ (List.Mem.tail _ (List.Mem.head _))) rfl)) ?_
          refine HeadR.det rfl (fun β hβ => (Det.to (det_call en23 rfl (fun w hb ho => POn_ok (fun p hp => ho.look (List.mem_append_right _ hp)))) (congrArg Value.bool (hA.a1)))) ?_
          refine HeadR.det rfl (fun β hβ => (det_move rfl)) ?_
          refine HeadR.yes rfl rfl (fun _ _ => rfl) (fun β hβ => (det_loadA ty30 rfl (List.Mem.tail _ (List.Mem.head _)) rfl)) ?_
          refine HeadR.yes rfl rfl (fun _ _ => rfl) (fun β hβ => (Det.to (det_call en23 rfl (fun w hb ho => POn_ok (fun p hp => ho.look (List.mem_append_right _ hp)))) (congrArg Value.bool (hA.a2)))) ?_
          refine HeadR.det rfl (fun β hβ => (det_pick rfl rfl)) ?_
          refine HeadR.det rfl (fun β hβ => (det_move rfl)) ?_
          refine HeadR.yes rfl rfl (fun _ _ => rfl) (fun β hβ => (det_loadA ty30 rfl (List.Mem.head _) rfl)) ?_
          refine HeadR.yes rfl rfl (fun _ _ => rfl) (fun β hβ => (Det.to (det_call en23 rfl (fun w hb ho => POn_ok (fun p hp => ho.look (List.mem_append_right _ hp)))) (congrArg Value.bool (hA.a3)))) ?_
          refine HeadR.det rfl (fun β hβ => (det_pick rfl rfl)) ?_
          refine HeadR.det rfl (fun β hβ => (det_move rfl)) ?_
          refine HeadR.yes rfl rfl (fun _ _ => rfl) (fun β hβ => (det_loadA ty30 rfl (List.Mem.head _) rfl)) ?_
          refine HeadR.yes rfl rfl (fun _ _ => rfl) (fun β hβ => (det_call en22 rfl (fun w hb ho => PNeg_ok (fun p hp => ho.look (List.mem_append_right _ hp))))) ?_
          refine HeadR.yes rfl rfl (fun _ _ => rfl) (fun β hβ => (Det.to (det_call en23 rfl (fun w hb ho => POn_ok (fun p hp => ho.look (List.mem_append_right _ hp)))) (congrArg Value.bool (hA.a4)))) ?_
          refine HeadR.det rfl (fun β hβ => (det_pick rfl rfl)) ?_
          refine HeadR.det rfl (fun β hβ => (det_move rfl)) ?_
          refine HeadR.yes rfl rfl (fun _ _ => rfl) (fun β hβ => (det_loadA ty30 rfl (List.Mem.tail _ (List.Mem.tail _ (List.Mem.head _))) rfl)) ?_
          refine HeadR.yes rfl rfl (fun _ _ => rfl) (fun β hβ => (det_loadA ty30 rfl (List.Mem.tail _ (List.Mem.head _)) rfl)) ?_
          refine HeadR.yes rfl rfl (fun _ _ => rfl) (fun β hβ => (det_loadA ty30 rfl (List.Mem.head _) rfl)) ?_
          refine HeadR.yes rfl rfl (fun _ _ => rfl) (fun β hβ => (det_call en22 rfl (fun w hb ho => PNeg_ok (fun p hp => ho.look (List.mem_append_right _ hp))))) ?_
          refine HeadR.yes rfl rfl (fun _ _ => rfl) (fun β hβ => (Det.to (det_call en29 rfl (fun w hb ho => hA.a5 _ (fun p hp => ho.look (List.mem_append_right _ hp)))) (congrArg Value.bool (rfl)))) ?_
          refine HeadR.det rfl (fun β hβ => (det_pick rfl rfl)) ?_
          refine HeadR.det rfl (fun β hβ => (det_move rfl)) ?_
          refine HeadR.yes rfl rfl (fun _ _ => rfl) (fun β hβ => (det_loadA ty30 rfl (List.Mem.head _) rfl)) ?_
          refine HeadR.yes rfl rfl (fun _ _ => rfl) (fun β hβ => (det_loadA ty30 rfl (List.Mem.tail _ (List.Mem.head _)) rfl)) ?_
          refine HeadR.yes rfl rfl (fun _ _ => rfl) (fun β hβ => (det_loadA ty30 rfl (List.Mem.tail _ (List.Mem.tail _ (List.Mem.head _))) rfl)) ?_
          refine HeadR.yes rfl rfl (fun _ _ => rfl) (fun β hβ => (det_call en20 rfl (fun w hb ho => PAdd_ok (fun p hp => ho.look (List.mem_append_right _ hp))))) ?_
          refine HeadR.yes rfl rfl (fun _ _ => rfl) (fun β hβ => (Det.to (det_eql30 rfl rfl) (congrArg Value.bool (yb hA.a6.symm.symm)))) ?_
          refine HeadR.det rfl (fun β hβ => (det_pick rfl rfl)) ?_
          refine HeadR.det rfl (fun β hβ => (det_move rfl)) ?_
          refine HeadR.yes rfl rfl (fun _ _ => rfl) (fun β hβ => (det_loadA ty30 rfl (List.Mem.tail _ (List.Mem.tail _ (List.Mem.head _))) rfl)) ?_
          refine HeadR.yes rfl rfl (fun _ _ => rfl) (fun β hβ => (det_loadA ty30 rfl (List.Mem.tail _ (List.Mem.head _)) rfl)) ?_
          refine HeadR.yesFresh rfl rfl (fun _ _ => rfl) (fun β hβ => (fr_buildSlice rfl (slice45b (p := (wild n)) (q := (gp lb)))).new) ?_
          refine HeadR.yes rfl rfl (fun _ _ => rfl) (fun β hβ => (det_call en21 rfl (fun w hb ho => PSum_ok (G' := [((β 84).1, blk (cellsP (wild n) ++ cellsP (gp lb)) 30)]) pts2 (by show 2 ≤ 1000000000000; decide) (blocks_cons (hb _ (List.Mem.head _)) (fun p hp => ho.look (List.mem_append_right _ hp)))))) ?_
          refine HeadR.yes rfl rfl (fun _ _ => rfl) (fun β hβ => (det_loadA ty30 rfl (List.Mem.head _) rfl)) ?_
          refine HeadR.yes rfl rfl (fun _ _ => rfl) (fun β hβ => (Det.to (det_eql30 rfl rfl) (congrArg Value.bool (yb hA.a7)))) ?_
          refine HeadR.det rfl (fun β hβ => (det_pick rfl rfl)) ?_
          refine HeadR.det rfl (fun β hβ => (det_assign rfl)) ?_
          refine HeadR.done ⟨by kernel_rfl, fun β hβ => ?_⟩
          refine OpsW.norm (F' := ((52, _) :: (53, _) :: (54, _) :: (55, _) :: (56, _) :: (57, _) :: (58, _) :: (59, _) :: (60, _) :: (61, _) :: (62, _) :: (63, _) :: (64, _) :: (65, _) :: (66, _) :: (67, _) :: (68, _) :: (69, _) :: (70, _) :: (71, _) :: (72, _) :: (73, _) :: (74, _) :: (75, _) :: (76, _) :: (77, _) :: (78, _) :: (79, _) :: (80, _) :: (81, _) :: (82, _) :: (83, _) :: (84, .slice (some ⟨(β 84).1, 0, none⟩) 2 2) :: (85, _) :: (86, _) :: (87, _) :: (88, _) :: (10, _) :: (13, _) :: (12, _) :: (11, _) :: [])) (H' := [(_, _), (_, _), (_, _), (_, _)]) rfl rfl ?_
          generalize (β 84).1 = b84
          refine sNext ?_
          refine W.keep (F' := [(10, _)]) ⟨rfl, trivial⟩ ?_
          refine sRet ?_
          exact done1 Tryd.results6 (rv_tmp rfl) rfl
        · skip
          refine sSeq ?_
          refine W.region ?_
          refine OpsW.det (det_eql rfl rfl) rfl ?_
          refine OpsW.det (det_assign rfl) rfl ?_
          refine sNext ?_
          refine W.keep (F' := [(40, _), (28, _), (12, _), (11, _), (2, _), (3, _)]) ⟨rfl, rfl, rfl, rfl, rfl, rfl, trivial⟩ ?_
          refine W.cond rfl (fun hc40 => ?_) (fun hc40 => ?_)
          · skip
            have hA := hr (wild n) (wild m) hn0 hm0
            refine sSeq ?_
            refine W.region ?_
            refine OpsW.det (det_move rfl) rfl ?_
            refine OpsW.det (det_call en24 rfl (fun w hb ho => wild_ok hn (fun p hp => ho.look (List.mem_append_right _ hp)))) rfl ?_
            refine OpsW.store sz30 rfl rfl rfl rfl rfl (Upd.there (Upd.here)) rfl ?_
            refine sNext ?_
            refine W.keep (F' := [(12, _), (11, _), (3, _)]) ⟨rfl, rfl, rfl, trivial⟩ ?_
            refine W.region ?_
            refine OpsW.det (det_move rfl) rfl ?_
            refine OpsW.det (det_call en24 rfl (fun w hb ho => wild_ok hm (fun p hp => ho.look (List.mem_append_right _ hp)))) rfl ?_
            refine OpsW.store sz30 rfl rfl rfl rfl rfl (Upd.here) rfl ?_
            refine sLast ?_
            refine bNext ?_
            refine W.keep (F' := [(12, _), (11, _)]) ⟨rfl, rfl, trivial⟩ ?_
            refine sSeq ?_
            refine W.region ?_
            refine OpsW.det (det_loadA ty30 rfl (List.Mem.tail _ (List.Mem.head _)) rfl) rfl ?_
            refine OpsW.det (det_loadA ty30 rfl (List.Mem.head _) rfl) rfl ?_
            refine OpsW.det (det_call en20 rfl (fun w hb ho => PAdd_ok (fun p hp => ho.look (List.mem_append_right _ hp)))) rfl ?_
            refine OpsW.fresh (fr_alloc z30r) rfl fun b13 => ?_
            refine OpsW.store sz30 rfl rfl rfl rfl rfl (Upd.here) rfl ?_
            refine sNext ?_
            refine W.keep (F' := [(13, _), (12, _), (11, _)]) ⟨rfl, rfl, rfl, trivial⟩ ?_
            refine sSeq ?_
            refine W.draw mixed 38 [[], [0], [0, 1], [0, 1, 2], [0, 1, 2, 3], [0, 1, 2, 3, 4], [0, 1, 2, 3, 4, 5], [0, 1, 2, 3, 4, 5, 6], [0, 1, 2, 3, 4, 5, 6, 7], [0, 1, 2, 3, 4, 5, 6, 7, 8], [0, 1, 2, 3, 4, 5, 6, 7, 8, 9], [0, 1, 2, 3, 4, 5, 6, 7, 8, 9, 10], [0, 1, 2, 3, 4, 5, 6, 7, 8, 9, 10, 11], [0, 1, 2, 3, 4, 5, 6, 7, 8, 9, 10, 11, 12], [0, 1, 2, 3, 4, 5, 6, 7, 8, 9, 10, 11, 12, 13], [0, 1, 2, 3, 4, 5, 6, 7, 8, 9, 10, 11, 12, 13, 14], [0, 1, 2, 3, 4, 5, 6, 7, 8, 9, 10, 11, 12, 13, 14, 15], [0, 1, 2, 3, 4, 5, 6, 7, 8, 9, 10, 11, 12, 13, 14, 15], [0, 1, 2, 3, 4, 5, 6, 7, 8, 9, 10, 11, 12, 13, 14, 15], [0, 1, 2, 3, 4, 5, 6, 7, 8, 9, 10, 11, 12, 13, 14, 15, 18], [0, 1, 2, 3, 4, 5, 6, 7, 8, 9, 10, 11, 12, 13, 14, 15, 16, 17, 18, 19], [0, 1, 2, 3, 4, 5, 6, 7, 8, 9, 10, 11, 12, 13, 14, 15, 16, 17, 18, 19, 20], [0, 1, 2, 3, 4, 5, 6, 7, 8, 9, 10, 11, 12, 13, 14, 15, 16, 17, 18, 19, 20, 21], [0, 1, 2, 3, 4, 5, 6, 7, 8, 9, 10, 11, 12, 13, 14, 15, 16, 17, 18, 19, 20, 21, 22], [0, 1, 2, 3, 4, 5, 6, 7, 8, 9, 10, 11, 12, 13, 14, 15, 16, 17, 18, 19, 20, 21, 22], [0, 1, 2, 3, 4, 5, 6, 7, 8, 9, 10, 11, 12, 13, 14, 15, 16, 17, 18, 19, 20, 21, 22], [0, 1, 2, 3, 4, 5, 6, 7, 8, 9, 10, 11, 12, 13, 14, 15, 16, 17, 18, 19, 20, 21, 22, 24, 25], [0, 1, 2, 3, 4, 5, 6, 7, 8, 9, 10, 11, 12, 13, 14, 15, 16, 17, 18, 19, 20, 21, 22, 23, 24, 25, 26], [0, 1, 2, 3, 4, 5, 6, 7, 8, 9, 10, 11, 12, 13, 14, 15, 16, 17, 18, 19, 20, 21, 22, 23, 24, 25, 26, 27], [0, 1, 2, 3, 4, 5, 6, 7, 8, 9, 10, 11, 12, 13, 14, 15, 16, 17, 18, 19, 20, 21, 22, 23, 24, 25, 26, 27, 28], [0, 1, 2, 3, 4, 5, 6, 7, 8, 9, 10, 11, 12, 13, 14, 15, 16, 17, 18, 19, 20, 21, 22, 23, 24, 25, 26, 27, 28, 29], [0, 1, 2, 3, 4, 5, 6, 7, 8, 9, 10, 11, 12, 13, 14, 15, 16, 17, 18, 19, 20, 21, 22, 23, 24, 25, 26, 27, 28, 29], [0, 1, 2, 3, 4, 5, 6, 7, 8, 9, 10, 11, 12, 13, 14, 15, 16, 17, 18, 19, 20, 21, 22, 23, 24, 25, 26, 27, 28, 29, 30, 31], [0, 1, 2, 3, 4, 5, 6, 7, 8, 9, 10, 11, 12, 13, 14, 15, 16, 17, 18, 19, 20, 21, 22, 23, 24, 25, 26, 27, 28, 29, 30, 31, 32], [0, 1, 2, 3, 4, 5, 6, 7, 8, 9, 10, 11, 12, 13, 14, 15, 16, 17, 18, 19, 20, 21, 22, 23, 24, 25, 26, 27, 28, 29], [0, 1, 2, 3, 4, 5, 6, 7, 8, 9, 10, 11, 12, 13, 14, 15, 16, 17, 18, 19, 20, 21, 22, 23, 24, 25, 26, 27, 28, 29, 30, 31, 32, 33, 34], [0, 1, 2, 3, 4, 5, 6, 7, 8, 9, 10, 11, 12, 13, 14, 15, 16, 17, 18, 19, 20, 21, 22, 23, 24, 25, 26, 27, 28, 29, 30, 31, 32, 33, 34, 35], [0, 1, 2, 3, 4, 5, 6, 7, 8, 9, 10, 11, 12, 13, 14, 15, 16, 17, 18, 19, 20, 21, 22, 23, 24, 25, 26, 27, 28, 29, 30, 31, 32, 33, 34, 35, 36]] (cl_lt (by decide)) ?_
            refine HeadR.start (cl_lt (by decide)) ?_
            refine HeadR.det rfl (fun β hβ => (det_loadA ty30 rfl (List.Mem.tail _ (List.Mem.tail _ (List.Mem.head _))) rfl)) ?_
            refine HeadR.det rfl (fun β hβ => (Det.to (det_call en23 rfl (fun w hb ho => POn_ok (fun p hp => ho.look (List.mem_append_right _ hp)))) (congrArg Value.bool (hA.a1)))) ?_
            refine HeadR.det rfl (fun β hβ => (det_move rfl)) ?_
            refine HeadR.yes rfl rfl (fun _ _ => rfl) (fun β hβ => (det_loadA ty30 rfl (List.Mem.tail _ (List.Mem.head _)) rfl)) ?_
            refine HeadR.yes rfl rfl (fun _ _ => rfl) (fun β hβ => (Det.to (det_call en23 rfl (fun w hb ho => POn_ok (fun p hp => ho.look (List.mem_append_right _ hp)))) (congrArg Value.bool (hA.a2)))) ?_
            refine HeadR.det rfl (fun β hβ => (det_pick rfl rfl)) ?_
            refine HeadR.det rfl (fun β hβ => (det_move rfl)) ?_
            refine HeadR.yes rfl rfl (fun _ _ => rfl) (fun β hβ => (det_loadA ty30 rfl (List.Mem.head _) rfl)) ?_
            refine HeadR.yes rfl rfl (fun _ _ => rfl) (fun β hβ => (Det.to (det_call en23 rfl (fun w hb ho => POn_ok (fun p hp => ho.look (List.mem_append_right _ hp)))) (congrArg Value.bool (hA.a3)))) ?_
            refine HeadR.det rfl (fun β hβ => (det_pick rfl rfl)) ?_
            refine HeadR.det rfl (fun β hβ => (det_move rfl)) ?_
            refine HeadR.yes rfl rfl (fun _ _ => rfl) (fun β hβ => (det_loadA ty30 rfl (List.Mem.head _) rfl)) ?_
            refine HeadR.yes rfl rfl (fun _ _ => rfl) (fun β hβ => (det_call en22 rfl (fun w hb ho => PNeg_ok (fun p hp => ho.look (List.mem_append_right _ hp))))) ?_
            refine HeadR.yes rfl rfl (fun _ _ => rfl) (fun β hβ => (Det.to (det_call en23 rfl (fun w hb ho => POn_ok (fun p hp => ho.look (List.mem_append_right _ hp)))) (congrArg Value.bool (hA.a4)))) ?_
            refine HeadR.det rfl (fun β hβ => (det_pick rfl rfl)) ?_
            refine HeadR.det rfl (fun β hβ => (det_move rfl)) ?_
            refine HeadR.yes rfl rfl (fun _ _ => rfl) (fun β hβ => (det_loadA ty30 rfl (List.Mem.tail _ (List.Mem.tail _ (List.Mem.head _))) rfl)) ?_
            refine HeadR.yes rfl rfl (fun _ _ => rfl) (fun β hβ => (det_loadA ty30 rfl (List.Mem.tail _ (List.Mem.head _)) rfl)) ?_
            refine HeadR.yes rfl rfl (fun _ _ => rfl) (fun β hβ => (det_loadA ty30 rfl (List.Mem.head _) rfl)) ?_
            refine HeadR.yes rfl rfl (fun _ _ => rfl) (fun β hβ => (det_call en22 rfl (fun w hb ho => PNeg_ok (fun p hp => ho.look (List.mem_append_right _ hp))))) ?_
            refine HeadR.yes rfl rfl (fun _ _ => rfl) (fun β hβ => (Det.to (det_call en29 rfl (fun w hb ho => hA.a5 _ (fun p hp => ho.look (List.mem_append_right _ hp)))) (congrArg Value.bool (rfl)))) ?_
            refine HeadR.det rfl (fun β hβ => (det_pick rfl rfl)) ?_
            refine HeadR.det rfl (fun β hβ => (det_move rfl)) ?_
            refine HeadR.yes rfl rfl (fun _ _ => rfl) (fun β hβ => (det_loadA ty30 rfl (List.Mem.head _) rfl)) ?_
            refine HeadR.yes rfl rfl (fun _ _ => rfl) (fun β hβ => (det_loadA ty30 rfl (List.Mem.tail _ (List.Mem.head _)) rfl)) ?_
            refine HeadR.yes rfl rfl (fun _ _ => rfl) (fun β hβ => (det_loadA ty30 rfl (List.Mem.tail _ (List.Mem.tail _ (List.Mem.head _))) rfl)) ?_
            refine HeadR.yes rfl rfl (fun _ _ => rfl) (fun β hβ => (det_call en20 rfl (fun w hb ho => PAdd_ok (fun p hp => ho.look (List.mem_append_right _ hp))))) ?_
            refine HeadR.yes rfl rfl (fun _ _ => rfl) (fun β hβ => (Det.to (det_eql30 rfl rfl) (congrArg Value.bool (yb hA.a6.symm.symm)))) ?_
            refine HeadR.det rfl (fun β hβ => (det_pick rfl rfl)) ?_
            refine HeadR.det rfl (fun β hβ => (det_move rfl)) ?_
            refine HeadR.yes rfl rfl (fun _ _ => rfl) (fun β hβ => (det_loadA ty30 rfl (List.Mem.tail _ (List.Mem.tail _ (List.Mem.head _))) rfl)) ?_
            refine HeadR.yes rfl rfl (fun _ _ => rfl) (fun β hβ => (det_loadA ty30 rfl (List.Mem.tail _ (List.Mem.head _)) rfl)) ?_
            refine HeadR.yesFresh rfl rfl (fun _ _ => rfl) (fun β hβ => (fr_buildSlice rfl (slice45b (p := (wild n)) (q := (wild m)))).new) ?_
            refine HeadR.yes rfl rfl (fun _ _ => rfl) (fun β hβ => (det_call en21 rfl (fun w hb ho => PSum_ok (G' := [((β 84).1, blk (cellsP (wild n) ++ cellsP (wild m)) 30)]) pts2 (by show 2 ≤ 1000000000000; decide) (blocks_cons (hb _ (List.Mem.head _)) (fun p hp => ho.look (List.mem_append_right _ hp)))))) ?_
            refine HeadR.yes rfl rfl (fun _ _ => rfl) (fun β hβ => (det_loadA ty30 rfl (List.Mem.head _) rfl)) ?_
            refine HeadR.yes rfl rfl (fun _ _ => rfl) (fun β hβ => (Det.to (det_eql30 rfl rfl) (congrArg Value.bool (yb hA.a7)))) ?_
            refine HeadR.det rfl (fun β hβ => (det_pick rfl rfl)) ?_
            refine HeadR.det rfl (fun β hβ => (det_assign rfl)) ?_
            refine HeadR.done ⟨by kernel_rfl, fun β hβ => ?_⟩
            refine OpsW.norm (F' := ((52, _) :: (53, _) :: (54, _) :: (55, _) :: (56, _) :: (57, _) :: (58, _) :: (59, _) :: (60, _) :: (61, _) :: (62, _) :: (63, _) :: (64, _) :: (65, _) :: (66, _) :: (67, _) :: (68, _) :: (69, _) :: (70, _) :: (71, _) :: (72, _) :: (73, _) :: (74, _) :: (75, _) :: (76, _) :: (77, _) :: (78, _) :: (79, _) :: (80, _) :: (81, _) :: (82, _) :: (83, _) :: (84, .slice (some ⟨(β 84).1, 0, none⟩) 2 2) :: (85, _) :: (86, _) :: (87, _) :: (88, _) :: (10, _) :: (13, _) :: (12, _) :: (11, _) :: [])) (H' := [(_, _), (_, _), (_, _), (_, _)]) rfl rfl ?_
            generalize (β 84).1 = b84
            refine sNext ?_
            refine W.keep (F' := [(10, _)]) ⟨rfl, trivial⟩ ?_
            refine sRet ?_
            exact done1 Tryd.results6 (rv_tmp rfl) rfl
          · skip
            refine sSeq ?_
            refine W.region ?_
            refine OpsW.det (det_eql rfl rfl) rfl ?_
            refine OpsW.det (det_assign rfl) rfl ?_
            refine sNext ?_
            refine W.keep (F' := [(46, _), (12, _), (11, _)]) ⟨rfl, rfl, rfl, trivial⟩ ?_
            refine W.cond rfl (fun hc46 => ?_) (fun hc46 => ?_)
            · skip
              have hA := hr ((0, 0) : Pt) (gp lb) ho_z hb0
              refine W.region ?_
              refine OpsW.det (det_zero bz30) rfl ?_
              refine OpsW.store sz30 rfl rfl rfl rfl rfl (Upd.there (Upd.here)) rfl ?_
              refine sLast ?_
              refine bNext ?_
              refine W.keep (F' := [(12, _), (11, _)]) ⟨rfl, rfl, trivial⟩ ?_
              refine sSeq ?_
              refine W.region ?_
              refine OpsW.det (det_loadA ty30 rfl (List.Mem.tail _ (List.Mem.head _)) rfl) rfl ?_
              refine OpsW.det (det_loadA ty30 rfl (List.Mem.head _) rfl) rfl ?_
              refine OpsW.det (det_call en20 rfl (fun w hb ho => PAdd_ok (fun p hp => ho.look (List.mem_append_right _ hp)))) rfl ?_
              refine OpsW.fresh (fr_alloc z30r) rfl fun b13 => ?_
              refine OpsW.store sz30 rfl rfl rfl rfl rfl (Upd.here) rfl ?_
              refine sNext ?_
              refine W.keep (F' := [(13, _), (12, _), (11, _)]) ⟨rfl, rfl, rfl, trivial⟩ ?_
              refine sSeq ?_
              refine W.draw mixed 38 [[], [0], [0, 1], [0, 1, 2], [0, 1, 2, 3], [0, 1, 2, 3, 4], [0, 1, 2, 3, 4, 5], [0, 1, 2, 3, 4, 5, 6], [0, 1, 2, 3, 4, 5, 6, 7], [0, 1, 2, 3, 4, 5, 6, 7, 8], [0, 1, 2, 3, 4, 5, 6, 7, 8, 9], [0, 1, 2, 3, 4, 5, 6, 7, 8, 9, 10], [0, 1, 2, 3, 4, 5, 6, 7, 8, 9, 10, 11], [0, 1, 2, 3, 4, 5, 6, 7, 8, 9, 10, 11, 12], [0, 1, 2, 3, 4, 5, 6, 7, 8, 9, 10, 11, 12, 13], [0, 1, 2, 3, 4, 5, 6, 7, 8, 9, 10, 11, 12, 13, 14], [0, 1, 2, 3, 4, 5, 6, 7, 8, 9, 10, 11, 12, 13, 14, 15], [0, 1, 2, 3, 4, 5, 6, 7, 8, 9, 10, 11, 12, 13, 14, 15], [0, 1, 2, 3, 4, 5, 6, 7, 8, 9, 10, 11, 12, 13, 14, 15], [0, 1, 2, 3, 4, 5, 6, 7, 8, 9, 10, 11, 12, 13, 14, 15, 18], [0, 1, 2, 3, 4, 5, 6, 7, 8, 9, 10, 11, 12, 13, 14, 15, 16, 17, 18, 19], [0, 1, 2, 3, 4, 5, 6, 7, 8, 9, 10, 11, 12, 13, 14, 15, 16, 17, 18, 19, 20], [0, 1, 2, 3, 4, 5, 6, 7, 8, 9, 10, 11, 12, 13, 14, 15, 16, 17, 18, 19, 20, 21], [0, 1, 2, 3, 4, 5, 6, 7, 8, 9, 10, 11, 12, 13, 14, 15, 16, 17, 18, 19, 20, 21, 22], [0, 1, 2, 3, 4, 5, 6, 7, 8, 9, 10, 11, 12, 13, 14, 15, 16, 17, 18, 19, 20, 21, 22], [0, 1, 2, 3, 4, 5, 6, 7, 8, 9, 10, 11, 12, 13, 14, 15, 16, 17, 18, 19, 20, 21, 22], [0, 1, 2, 3, 4, 5, 6, 7, 8, 9, 10, 11, 12, 13, 14, 15, 16, 17, 18, 19, 20, 21, 22, 24, 25], [0, 1, 2, 3, 4, 5, 6, 7, 8, 9, 10, 11, 12, 13, 14, 15, 16, 17, 18, 19, 20, 21, 22, 23, 24, 25, 26], [0, 1, 2, 3, 4, 5, 6, 7, 8, 9, 10, 11, 12, 13, 14, 15, 16, 17, 18, 19, 20, 21, 22, 23, 24, 25, 26, 27], [0, 1, 2, 3, 4, 5, 6, 7, 8, 9, 10, 11, 12, 13, 14, 15, 16, 17, 18, 19, 20, 21, 22, 23, 24, 25, 26, 27, 28], [0, 1, 2, 3, 4, 5, 6, 7, 8, 9, 10, 11, 12, 13, 14, 15, 16, 17, 18, 19, 20, 21, 22, 23, 24, 25, 26, 27, 28, 29], [0, 1, 2, 3, 4, 5, 6, 7, 8, 9, 10, 11, 12, 13, 14, 15, 16, 17, 18, 19, 20, 21, 22, 23, 24, 25, 26, 27, 28, 29], [0, 1, 2, 3, 4, 5, 6, 7, 8, 9, 10, 11, 12, 13, 14, 15, 16, 17, 18, 19, 20, 21, 22, 23, 24, 25, 26, 27, 28, 29, 30, 31], [0, 1, 2, 3, 4, 5, 6, 7, 8, 9, 10, 11, 12, 13, 14, 15, 16, 17, 18, 19, 20, 21, 22, 23, 24, 25, 26, 27, 28, 29, 30, 31, 32], [0, 1, 2, 3, 4, 5, 6, 7, 8, 9, 10, 11, 12, 13, 14, 15, 16, 17, 18, 19, 20, 21, 22, 23, 24, 25, 26, 27, 28, 29], [0, 1, 2, 3, 4, 5, 6, 7, 8, 9, 10, 11, 12, 13, 14, 15, 16, 17, 18, 19, 20, 21, 22, 23, 24, 25, 26, 27, 28, 29, 30, 31, 32, 33, 34], [0, 1, 2, 3, 4, 5, 6, 7, 8, 9, 10, 11, 12, 13, 14, 15, 16, 17, 18, 19, 20, 21, 22, 23, 24, 25, 26, 27, 28, 29, 30, 31, 32, 33, 34, 35], [0, 1, 2, 3, 4, 5, 6, 7, 8, 9, 10, 11, 12, 13, 14, 15, 16, 17, 18, 19, 20, 21, 22, 23, 24, 25, 26, 27, 28, 29, 30, 31, 32, 33, 34, 35, 36]] (cl_lt (by decide)) ?_
              refine HeadR.start (cl_lt (by decide)) ?_
              refine HeadR.det rfl (fun β hβ => (det_loadA ty30 rfl (List.Mem.tail _ (List.Mem.tail _ (List.Mem.head _))) rfl)) ?_
              refine HeadR.det rfl (fun β hβ => (Det.to (det_call en23 rfl (fun w hb ho => POn_ok (fun p hp => ho.look (List.mem_append_right _ hp)))) (congrArg Value.bool (hA.a1)))) ?_
              refine HeadR.det rfl (fun β hβ => (det_move rfl)) ?_
              refine HeadR.yes rfl rfl (fun _ _ => rfl) (fun β hβ => (det_loadA ty30 rfl (List.Mem.tail _ (List.Mem.head _)) rfl)) ?_
              refine HeadR.yes rfl rfl (fun _ _ => rfl) (fun β hβ => (Det.to (det_call en23 rfl (fun w hb ho => POn_ok (fun p hp => ho.look (List.mem_append_right _ hp)))) (congrArg Value.bool (hA.a2)))) ?_
              refine HeadR.det rfl (fun β hβ => (det_pick rfl rfl)) ?_
              refine HeadR.det rfl (fun β hβ => (det_move rfl)) ?_
              refine HeadR.yes rfl rfl (fun _ _ => rfl) (fun β hβ => (det_loadA ty30 rfl (List.Mem.head _) rfl)) ?_
              refine HeadR.yes rfl rfl (fun _ _ => rfl) (fun β hβ => (Det.to (det_call en23 rfl (fun w hb ho => POn_ok (fun p hp => ho.look (List.mem_append_right _ hp)))) (congrArg Value.bool (hA.a3)))) ?_
              refine HeadR.det rfl (fun β hβ => (det_pick rfl rfl)) ?_
              refine HeadR.det rfl (fun β hβ => (det_move rfl)) ?_
              refine HeadR.yes rfl rfl (fun _ _ => rfl) (fun β hβ => (det_loadA ty30 rfl (List.Mem.head _) rfl)) ?_
              refine HeadR.yes rfl rfl (fun _ _ => rfl) (fun β hβ => (det_call en22 rfl (fun w hb ho => PNeg_ok (fun p hp => ho.look (List.mem_append_right _ hp))))) ?_
              refine HeadR.yes rfl rfl (fun _ _ => rfl) (fun β hβ => (Det.to (det_call en23 rfl (fun w hb ho => POn_ok (fun p hp => ho.look (List.mem_append_right _ hp)))) (congrArg Value.bool (hA.a4)))) ?_
              refine HeadR.det rfl (fun β hβ => (det_pick rfl rfl)) ?_
              refine HeadR.det rfl (fun β hβ => (det_move rfl)) ?_
              refine HeadR.yes rfl rfl (fun _ _ => rfl) (fun β hβ => (det_loadA ty30 rfl (List.Mem.tail _ (List.Mem.tail _ (List.Mem.head _))) rfl)) ?_
              refine HeadR.yes rfl rfl (fun _ _ => rfl) (fun β hβ => (det_loadA ty30 rfl (List.Mem.tail _ (List.Mem.head _)) rfl)) ?_
              refine HeadR.yes rfl rfl (fun _ _ => rfl) (fun β hβ => (det_loadA ty30 rfl (List.Mem.head _) rfl)) ?_
              refine HeadR.yes rfl rfl (fun _ _ => rfl) (fun β hβ => (det_call en22 rfl (fun w hb ho => PNeg_ok (fun p hp => ho.look (List.mem_append_right _ hp))))) ?_
              refine HeadR.yes rfl rfl (fun _ _ => rfl) (fun β hβ => (Det.to (det_call en29 rfl (fun w hb ho => hA.a5 _ (fun p hp => ho.look (List.mem_append_right _ hp)))) (congrArg Value.bool (rfl)))) ?_
              refine HeadR.det rfl (fun β hβ => (det_pick rfl rfl)) ?_
              refine HeadR.det rfl (fun β hβ => (det_move rfl)) ?_
              refine HeadR.yes rfl rfl (fun _ _ => rfl) (fun β hβ => (det_loadA ty30 rfl (List.Mem.head _) rfl)) ?_
              refine HeadR.yes rfl rfl (fun _ _ => rfl) (fun β hβ => (det_loadA ty30 rfl (List.Mem.tail _ (List.Mem.head _)) rfl)) ?_
              refine HeadR.yes rfl rfl (fun _ _ => rfl) (fun β hβ => (det_loadA ty30 rfl (List.Mem.tail _ (List.Mem.tail _ (List.Mem.head _))) rfl)) ?_
              refine HeadR.yes rfl rfl (fun _ _ => rfl) (fun β hβ => (det_call en20 rfl (fun w hb ho => PAdd_ok (fun p hp => ho.look (List.mem_append_right _ hp))))) ?_
              refine HeadR.yes rfl rfl (fun _ _ => rfl) (fun β hβ => (Det.to (det_eql30 rfl rfl) (congrArg Value.bool (yb hA.a6.symm.symm)))) ?_
              refine HeadR.det rfl (fun β hβ => (det_pick rfl rfl)) ?_
              refine HeadR.det rfl (fun β hβ => (det_move rfl)) ?_
              refine HeadR.yes rfl rfl (fun _ _ => rfl) (fun β hβ => (det_loadA ty30 rfl (List.Mem.tail _ (List.Mem.tail _ (List.Mem.head _))) rfl)) ?_
              refine HeadR.yes rfl rfl (fun _ _ => rfl) (fun β hβ => (det_loadA ty30 rfl (List.Mem.tail _ (List.Mem.head _)) rfl)) ?_
              refine HeadR.yesFresh rfl rfl (fun _ _ => rfl) (fun β hβ => (fr_buildSlice rfl (slice45b (p := ((0, 0) : Pt)) (q := (gp lb)))).new) ?_
              refine HeadR.yes rfl rfl (fun _ _ => rfl) (fun β hβ => (det_call en21 rfl (fun w hb ho => PSum_ok (G' := [((β 84).1, blk (cellsP ((0, 0) : Pt) ++ cellsP (gp lb)) 30)]) pts2 (by show 2 ≤ 1000000000000; decide) (blocks_cons (hb _ (List.Mem.head _)) (fun p hp => ho.look (List.mem_append_right _ hp)))))) ?_
              refine HeadR.yes rfl rfl (fun _ _ => rfl) (fun β hβ => (det_loadA ty30 rfl (List.Mem.head _) rfl)) ?_
              refine HeadR.yes rfl rfl (fun _ _ => rfl) (fun β hβ => (Det.to (det_eql30 rfl rfl) (congrArg Value.bool (yb hA.a7)))) ?_
              refine HeadR.det rfl (fun β hβ => (det_pick rfl rfl)) ?_
              refine HeadR.det rfl (fun β hβ => (det_assign rfl)) ?_
              refine HeadR.done ⟨by kernel_rfl, fun β hβ => ?_⟩
              refine OpsW.norm (F' := ((52, _) :: (53, _) :: (54, _) :: (55, _) :: (56, _) :: (57, _) :: (58, _) :: (59, _) :: (60, _) :: (61, _) :: (62, _) :: (63, _) :: (64, _) :: (65, _) :: (66, _) :: (67, _) :: (68, _) :: (69, _) :: (70, _) :: (71, _) :: (72, _) :: (73, _) :: (74, _) :: (75, _) :: (76, _) :: (77, _) :: (78, _) :: (79, _) :: (80, _) :: (81, _) :: (82, _) :: (83, _) :: (84, .slice (some ⟨(β 84).1, 0, none⟩) 2 2) :: (85, _) :: (86, _) :: (87, _) :: (88, _) :: (10, _) :: (13, _) :: (12, _) :: (11, _) :: [])) (H' := [(_, _), (_, _), (_, _), (_, _)]) rfl rfl ?_
              generalize (β 84).1 = b84
              refine sNext ?_
              refine W.keep (F' := [(10, _)]) ⟨rfl, trivial⟩ ?_
              refine sRet ?_
              exact done1 Tryd.results6 (rv_tmp rfl) rfl
            · skip
              have hA := hr (gp la) (gp lb) ha0 hb0
              refine sSkip0 ?_
              refine bNext ?_
              refine W.keep (F' := [(12, _), (11, _)]) ⟨rfl, rfl, trivial⟩ ?_
              refine sSeq ?_
              refine W.region ?_
              refine OpsW.det (det_loadA ty30 rfl (List.Mem.tail _ (List.Mem.head _)) rfl) rfl ?_
              refine OpsW.det (det_loadA ty30 rfl (List.Mem.head _) rfl) rfl ?_
              refine OpsW.det (det_call en20 rfl (fun w hb ho => PAdd_ok (fun p hp => ho.look (List.mem_append_right _ hp)))) rfl ?_
              refine OpsW.fresh (fr_alloc z30r) rfl fun b13 => ?_
              refine OpsW.store sz30 rfl rfl rfl rfl rfl (Upd.here) rfl ?_
              refine sNext ?_
              refine W.keep (F' := [(13, _), (12, _), (11, _)]) ⟨rfl, rfl, rfl, trivial⟩ ?_
              refine sSeq ?_
              refine W.draw mixed 38 [[], [0], [0, 1], [0, 1, 2], [0, 1, 2, 3], [0, 1, 2, 3, 4], [0, 1, 2, 3, 4, 5], [0, 1, 2, 3, 4, 5, 6], [0, 1, 2, 3, 4, 5, 6, 7], [0, 1, 2, 3, 4, 5, 6, 7, 8], [0, 1, 2, 3, 4, 5, 6, 7, 8, 9], [0, 1, 2, 3, 4, 5, 6, 7, 8, 9, 10], [0, 1, 2, 3, 4, 5, 6, 7, 8, 9, 10, 11], [0, 1, 2, 3, 4, 5, 6, 7, 8, 9, 10, 11, 12], [0, 1, 2, 3, 4, 5, 6, 7, 8, 9, 10, 11, 12, 13], [0, 1, 2, 3, 4, 5, 6, 7, 8, 9, 10, 11, 12, 13, 14], [0, 1, 2, 3, 4, 5, 6, 7, 8, 9, 10, 11, 12, 13, 14, 15], [0, 1, 2, 3, 4, 5, 6, 7, 8, 9, 10, 11, 12, 13, 14, 15], [0, 1, 2, 3, 4, 5, 6, 7, 8, 9, 10, 11, 12, 13, 14, 15], [0, 1, 2, 3, 4, 5, 6, 7, 8, 9, 10, 11, 12, 13, 14, 15, 18], [0, 1, 2, 3, 4, 5, 6, 7, 8, 9, 10, 11, 12, 13, 14, 15, 16, 17, 18, 19], [0, 1, 2, 3, 4, 5, 6, 7, 8, 9, 10, 11, 12, 13, 14, 15, 16, 17, 18, 19, 20], [0, 1, 2, 3, 4, 5, 6, 7, 8, 9, 10, 11, 12, 13, 14, 15, 16, 17, 18, 19, 20, 21], [0, 1, 2, 3, 4, 5, 6, 7, 8, 9, 10, 11, 12, 13, 14, 15, 16, 17, 18, 19, 20, 21, 22], [0, 1, 2, 3, 4, 5, 6, 7, 8, 9, 10, 11, 12, 13, 14, 15, 16, 17, 18, 19, 20, 21, 22], [0, 1, 2, 3, 4, 5, 6, 7, 8, 9, 10, 11, 12, 13, 14, 15, 16, 17, 18, 19, 20, 21, 22], [0, 1, 2, 3, 4, 5, 6, 7, 8, 9, 10, 11, 12, 13, 14, 15, 16, 17, 18, 19, 20, 21, 22, 24, 25], [0, 1, 2, 3, 4, 5, 6, 7, 8, 9, 10, 11, 12, 13, 14, 15, 16, 17, 18, 19, 20, 21, 22, 23, 24, 25, 26], [0, 1, 2, 3, 4, 5, 6, 7, 8, 9, 10, 11, 12, 13, 14, 15, 16, 17, 18, 19, 20, 21, 22, 23, 24, 25, 26, 27], [0, 1, 2, 3, 4, 5, 6, 7, 8, 9, 10, 11, 12, 13, 14, 15, 16, 17, 18, 19, 20, 21, 22, 23, 24, 25, 26, 27, 28], [0, 1, 2, 3, 4, 5, 6, 7, 8, 9, 10, 11, 12, 13, 14, 15, 16, 17, 18, 19, 20, 21, 22, 23, 24, 25, 26, 27, 28, 29], [0, 1, 2, 3, 4, 5, 6, 7, 8, 9, 10, 11, 12, 13, 14, 15, 16, 17, 18, 19, 20, 21, 22, 23, 24, 25, 26, 27, 28, 29], [0, 1, 2, 3, 4, 5, 6, 7, 8, 9, 10, 11, 12, 13, 14, 15, 16, 17, 18, 19, 20, 21, 22, 23, 24, 25, 26, 27, 28, 29, 30, 31], [0, 1, 2, 3, 4, 5, 6, 7, 8, 9, 10, 11, 12, 13, 14, 15, 16, 17, 18, 19, 20, 21, 22, 23, 24, 25, 26, 27, 28, 29, 30, 31, 32], [0, 1, 2, 3, 4, 5, 6, 7, 8, 9, 10, 11, 12, 13, 14, 15, 16, 17, 18, 19, 20, 21, 22, 23, 24, 25, 26, 27, 28, 29], [0, 1, 2, 3, 4, 5, 6, 7, 8, 9, 10, 11, 12, 13, 14, 15, 16, 17, 18, 19, 20, 21, 22, 23, 24, 25, 26, 27, 28, 29, 30, 31, 32, 33, 34], [0, 1, 2, 3, 4, 5, 6, 7, 8, 9, 10, 11, 12, 13, 14, 15, 16, 17, 18, 19, 20, 21, 22, 23, 24, 25, 26, 27, 28, 29, 30, 31, 32, 33, 34, 35], [0, 1, 2, 3, 4, 5, 6, 7, 8, 9, 10, 11, 12, 13, 14, 15, 16, 17, 18, 19, 20, 21, 22, 23, 24, 25, 26, 27, 28, 29, 30, 31, 32, 33, 34, 35, 36]] (cl_lt (by decide)) ?_
              refine HeadR.start (cl_lt (by decide)) ?_
              refine HeadR.det rfl (fun β hβ => (det_loadA ty30 rfl (List.Mem.tail _ (List.Mem.tail _ (List.Mem.head _))) rfl)) ?_
              refine HeadR.det rfl (fun β hβ => (Det.to (det_call en23 rfl (fun w hb ho => POn_ok (fun p hp => ho.look (List.mem_append_right _ hp)))) (congrArg Value.bool (hA.a1)))) ?_
              refine HeadR.det rfl (fun β hβ => (det_move rfl)) ?_
              refine HeadR.yes rfl rfl (fun _ _ => rfl) (fun β hβ => (det_loadA ty30 rfl (List.Mem.tail _ (List.Mem.head _)) rfl)) ?_
              refine HeadR.yes rfl rfl (fun _ _ => rfl) (fun β hβ => (Det.to (det_call en23 rfl (fun w hb ho => POn_ok (fun p hp => ho.look (List.mem_append_right _ hp)))) (congrArg Value.bool (hA.a2)))) ?_
              refine HeadR.det rfl (fun β hβ => (det_pick rfl rfl)) ?_
              refine HeadR.det rfl (fun β hβ => (det_move rfl)) ?_
              refine HeadR.yes rfl rfl (fun _ _ => rfl) (fun β hβ => (det_loadA ty30 rfl (List.Mem.head _) rfl)) ?_
              refine HeadR.yes rfl rfl (fun _ _ => rfl) (fun β hβ => (Det.to (det_call en23 rfl (fun w hb ho => POn_ok (fun p hp => ho.look (List.mem_append_right _ hp)))) (congrArg Value.bool (hA.a3)))) ?_
              refine HeadR.det rfl (fun β hβ => (det_pick rfl rfl)) ?_
              refine HeadR.det rfl (fun β hβ => (det_move rfl)) ?_
              refine HeadR.yes rfl rfl (fun _ _ => rfl) (fun β hβ => (det_loadA ty30 rfl (List.Mem.head _) rfl)) ?_
              refine HeadR.yes rfl rfl (fun _ _ => rfl) (fun β hβ => (det_call en22 rfl (fun w hb ho => PNeg_ok (fun p hp => ho.look (List.mem_append_right _ hp))))) ?_
              refine HeadR.yes rfl rfl (fun _ _ => rfl) (fun β hβ => (Det.to (det_call en23 rfl (fun w hb ho => POn_ok (fun p hp => ho.look (List.mem_append_right _ hp)))) (congrArg Value.bool (hA.a4)))) ?_
              refine HeadR.det rfl (fun β hβ => (det_pick rfl rfl)) ?_
              refine HeadR.det rfl (fun β hβ => (det_move rfl)) ?_
              refine HeadR.yes rfl rfl (fun _ _ => rfl) (fun β hβ => (det_loadA ty30 rfl (List.Mem.tail _ (List.Mem.tail _ (List.Mem.head _))) rfl)) ?_
              refine HeadR.yes rfl rfl (fun _ _ => rfl) (fun β hβ => (det_loadA ty30 rfl (List.Mem.tail _ (List.Mem.head _)) rfl)) ?_
              refine HeadR.yes rfl rfl (fun _ _ => rfl) (fun β hβ => (det_loadA ty30 rfl (List.Mem.head _) rfl)) ?_
              refine HeadR.yes rfl rfl (fun _ _ => rfl) (fun β hβ => (det_call en22 rfl (fun w hb ho => PNeg_ok (fun p hp => ho.look (List.mem_append_right _ hp))))) ?_
              refine HeadR.yes rfl rfl (fun _ _ => rfl) (fun β hβ => (Det.to (det_call en29 rfl (fun w hb ho => hA.a5 _ (fun p hp => ho.look (List.mem_append_right _ hp)))) (congrArg Value.bool (rfl)))) ?_
              refine HeadR.det rfl (fun β hβ => (det_pick rfl rfl)) ?_
              refine HeadR.det rfl (fun β hβ => (det_move rfl)) ?_
              refine HeadR.yes rfl rfl (fun _ _ => rfl) (fun β hβ => (det_loadA ty30 rfl (List.Mem.head _) rfl)) ?_
              refine HeadR.yes rfl rfl (fun _ _ => rfl) (fun β hβ => (det_loadA ty30 rfl (List.Mem.tail _ (List.Mem.head _)) rfl)) ?_
              refine HeadR.yes rfl rfl (fun _ _ => rfl) (fun β hβ => (det_loadA ty30 rfl (List.Mem.tail _ (List.Mem.tail _ (List.Mem.head _))) rfl)) ?_
              refine HeadR.yes rfl rfl (fun _ _ => rfl) (fun β hβ => (det_call en20 rfl (fun w hb ho => PAdd_ok (fun p hp => ho.look (List.mem_append_right _ hp))))) ?_
              refine HeadR.yes rfl rfl (fun _ _ => rfl) (fun β hβ => (Det.to (det_eql30 rfl rfl) (congrArg Value.bool (yb hA.a6.symm.symm)))) ?_
              refine HeadR.det rfl (fun β hβ => (det_pick rfl rfl)) ?_
              refine HeadR.det rfl (fun β hβ => (det_move rfl)) ?_
              refine HeadR.yes rfl rfl (fun _ _ => rfl) (fun β hβ => (det_loadA ty30 rfl (List.Mem.tail _ (List.Mem.tail _ (List.Mem.head _))) rfl)) ?_
              refine HeadR.yes rfl rfl (fun _ _ => rfl) (fun β hβ => (det_loadA ty30 rfl (List.Mem.tail _ (List.Mem.head _)) rfl)) ?_
              refine HeadR.yesFresh rfl rfl (fun _ _ => rfl) (fun β hβ => (fr_buildSlice rfl (slice45b (p := (gp la)) (q := (gp lb)))).new) ?_
              refine HeadR.yes rfl rfl (fun _ _ => rfl) (fun β hβ => (det_call en21 rfl (fun w hb ho => PSum_ok (G' := [((β 84).1, blk (cellsP (gp la) ++ cellsP (gp lb)) 30)]) pts2 (by show 2 ≤ 1000000000000; decide) (blocks_cons (hb _ (List.Mem.head _)) (fun p hp => ho.look (List.mem_append_right _ hp)))))) ?_
              refine HeadR.yes rfl rfl (fun _ _ => rfl) (fun β hβ => (det_loadA ty30 rfl (List.Mem.head _) rfl)) ?_
              refine HeadR.yes rfl rfl (fun _ _ => rfl) (fun β hβ => (Det.to (det_eql30 rfl rfl) (congrArg Value.bool (yb hA.a7)))) ?_
              refine HeadR.det rfl (fun β hβ => (det_pick rfl rfl)) ?_
              refine HeadR.det rfl (fun β hβ => (det_assign rfl)) ?_
              refine HeadR.done ⟨by kernel_rfl, fun β hβ => ?_⟩
              refine OpsW.norm (F' := ((52, _) :: (53, _) :: (54, _) :: (55, _) :: (56, _) :: (57, _) :: (58, _) :: (59, _) :: (60, _) :: (61, _) :: (62, _) :: (63, _) :: (64, _) :: (65, _) :: (66, _) :: (67, _) :: (68, _) :: (69, _) :: (70, _) :: (71, _) :: (72, _) :: (73, _) :: (74, _) :: (75, _) :: (76, _) :: (77, _) :: (78, _) :: (79, _) :: (80, _) :: (81, _) :: (82, _) :: (83, _) :: (84, .slice (some ⟨(β 84).1, 0, none⟩) 2 2) :: (85, _) :: (86, _) :: (87, _) :: (88, _) :: (10, _) :: (13, _) :: (12, _) :: (11, _) :: [])) (H' := [(_, _), (_, _), (_, _), (_, _)]) rfl rfl ?_
              generalize (β 84).1 = b84
              refine sNext ?_
              refine W.keep (F' := [(10, _)]) ⟨rfl, trivial⟩ ?_
              refine sRet ?_
              exact done1 Tryd.results6 (rv_tmp rfl) rfl

end Go.Cu

/- The first group's laws: what scalars, counts, lines and the group's own test come to. -/
namespace Go.Cu
open Go.Ec
open Go Go.Vm
set_option linter.unusedVariables false
set_option linter.unusedSimpArgs false
set_option linter.unusedSectionVars false
open CR

theorem of_small {m n : Nat} [Pos m] (h : n < m) : (Zp.of n : Zp m).val = n := by rw [Zp.of_val, Nat.mod_eq_of_lt h]
/-! ### The turn, and the group's test -/
def te : Fq := turn * turn
theorem te_sq : te * te = turn := by decide +kernel
theorem te_cube : te * te * te = 1 := by decide +kernel
theorem sig_id {α : Type} [Fld α] : Sig (fun a : α => a) := ⟨fun _ _ => rfl, fun _ _ => rfl, fun _ _ h => h⟩
theorem te_ne : te ≠ 0 := by decide +kernel
theorem tturn : Turn four (fun a : Fq => a) te := ⟨sig_id, te_ne, by rw [te_cube, one_mul, one_mul]⟩
def phi (P : G1) : G1 := turnG tturn P
theorem phi_val (P : G1) : (phi P).1 = (P.1.1 * turn, P.1.2) := by
  show (te * te * P.1.1, te * te * te * P.1.2) = _
  rw [te_cube, te_sq, one_mul, mul_comm]
def sz : Nat := beN sizeL
theorem sz_val : sz = 0xd201000000010000 := rfl
theorem sz_lt : sz * sz < 2 ^ 256 := by rw [sz_val]; exact of_decide_eq_true (by kernel_rfl)
theorem inB_iff (P : G1) : inB P.1 = true ↔ phi P = -nmul sz (nmul sz P) := by
  unfold inB
  rw [times_ok sizeL_small, times_ok sizeL_small, pneg_ok, ← phi_val, decide_eq_true_iff]
  exact ⟨fun h => Gp.ext h, fun h => congrArg (fun x : G1 => x.1) h⟩
set_option maxRecDepth 100000 in
theorem phi_z : (gadd (glad gG.1 256 (sz * sz)) (phi gG).1).2.2 = 0 := by
  show (gadd (glad gen 256 (sz * sz)) (te * te * gen.1, te * te * te * gen.2)).2.2 = 0
  decide +kernel
theorem phi_gen : phi gG = -nmul sz (nmul sz gG) := by
  obtain ⟨h1, h2⟩ := glad_ok gG 256 (sz * sz) sz_lt
  obtain ⟨h3, h4⟩ := step_add (phi gG) h1 h2
  have hz : (gadd (glad gG.1 256 (sz * sz)) (phi gG).1).2.2 = 0 := phi_z
  have h5 : nmul (sz * sz) gG + phi gG = 0 := by
    generalize gadd (glad gG.1 256 (sz * sz)) (phi gG).1 = j at h4 hz
    exact Gp.ext (h4.symm.trans (if_pos hz))
  rw [nmul_mul] at h5
  exact a_neg_eq h5
theorem phi_mul (n : Nat) : phi (nmul n gG) = -nmul sz (nmul sz (nmul n gG)) := by
  show turnG tturn (nmul n gG) = _
  rw [turnG_nmul]
  show nmul n (phi gG) = _
  rw [phi_gen, nmul_neg, nmul_comm n, nmul_comm n]
theorem in_mul (n : Nat) : inB (nmul n gG).1 = true := (inB_iff _).2 (phi_mul n)

theorem gp_on (l : List Nat) : On four (gp l) := by rw [gp_ok]; exact (nmul (wide l).val gG).2
/-! ### Scalars -/
theorem order_mul (n : Nat) : nmul rr (nmul n gG) = 0 := by rw [nmul_comm, gG_order, nmul_zero]
theorem scalarsOk (x y : Fs) (c : List Nat) : ScalarsOk x y (gp c) := by
  have hp := gp_ok c
  have hin := in_mul (wide c).val
  have hord := order_mul (wide c).val
  generalize nmul (wide c).val gG = P at *
  rw [hp]
  exact {
    r1 := by
      rw [pmul_ok, pmul_ok, pmul_ok, padd_ok, Zp.add_val, nmul_mod hord, nmul_add]
    r2 := by
      rw [pmul_ok, pmul_ok, pmul_ok, Zp.mul_val, nmul_mod hord, nmul_mul]
    r3 := by
      rw [pmul_ok, pmul_ok, pneg_ok, Zp.sub_val, Zp.zero_val, nmul_mod hord, Nat.zero_add]
      refine congrArg (fun z : G1 => z.1) (a_neg_eq ?_).symm
      rw [← nmul_add, show x.val + (rr - x.val) = rr by have := x.lt; omega]; exact hord
    r4 := by rw [pmul_ok, of_small (by decide), nmul_one]
    r5 := by rw [pmul_ok, Zp.zero_val]; rfl
    r6 := hin
    r7 := by rw [pmul_ok]; exact onB_ok (nmul x.val P).2 }

/-! ### Points that are as a rule not of the group -/
theorem wfrom_on : ∀ f k, On four (wfrom f k)
  | 0, _ => .inl rfl
  | f + 1, k => by
    unfold wfrom
    split
    · rename_i h
      refine .inr ?_
      have h1 := h.1
      unfold sqrtF at h1 ⊢
      split at h1
      · rename_i hr
        rw [if_pos hr]
        exact hr
      · cases h1
    · exact wfrom_on f (k + 1)
def wG (n : Nat) : G1 := ⟨wild n, wfrom_on 200 n⟩

/-! ### Counts -/
theorem nadd_ok (P : G1) : ∀ k, nadd P.1 k = (nmul k P).1
  | 0 => rfl
  | k + 1 => by rw [nadd, nadd_ok P k, padd_ok, nmul]
theorem countsOk (k : Nat) (hk : k < 32) (P Q : G1) : CountsOk k P.1 Q.1 where
  c1 := by rw [times_ok (one_small (by omega)), nadd_ok, show beN [k] = k by simp [beN]]
  c2 := by rw [times_ok (three_small (by omega)), nadd_ok, show beN [0, 0, k] = k by simp [beN]]
  c3 := by rw [times_ok (one_small (by omega)), nadd_ok, show beN [k] = k by simp [beN]]
  c4 := times_ok (l := []) (fun c hc => by cases hc) Q
  c5 := by rw [pmul_ok, nadd_ok, of_small (Nat.lt_trans hk (by decide))]

/-! ### Lines -/
theorem addsOk (T : Nat → TypeId × Nat × Nat) (P Q : G1) : AddsOk T P.1 Q.1 where
  a1 := onB_ok P.2
  a2 := onB_ok Q.2
  a3 := by rw [padd_ok]; exact onB_ok (P + Q).2
  a4 := by rw [padd_ok, pneg_ok]; exact onB_ok (-(P + Q)).2
  a5 := fun w hG => by
    have hr : pneg (padd P.1 Q.1) = cneg (cadd P.1 Q.1) := by rw [padd_ok]; rfl
    have hrG : pneg (padd P.1 Q.1) = (-(P + Q)).1 := by rw [padd_ok, pneg_ok]
    by_cases hp : P.1 = (0, 0)
    · refine sidesA_ok hp ?_ hG
      have : P = 0 := Gp.ext hp
      rw [hrG, pneg_ok, a_neg_neg, this, AG.zero_a]
    by_cases hq : Q.1 = (0, 0)
    · refine sidesB_ok hp hq ?_ hG
      have : Q = 0 := Gp.ext hq
      rw [hrG, pneg_ok, a_neg_neg, this, a_zero]
    have hpa := P.2.resolve_left hp
    have hqa := Q.2.resolve_left hq
    by_cases hz : pneg (padd P.1 Q.1) = (0, 0)
    · refine sidesC_ok hp hq hz ?_ hG
      have h1 : -(P + Q) = 0 := Gp.ext (hrG.symm.trans hz)
      have h2 : P + Q = 0 := by rw [← a_neg_neg (P + Q), h1, a_neg_zero]
      rw [AG.acomm] at h2
      rw [pneg_ok, ← a_neg_eq h2]
    by_cases hpq : P.1 = Q.1
    · have hPQ : P = Q := Gp.ext hpq
      subst hPQ
      have hy : P.1.2 + P.1.2 ≠ 0 := fun h => hz (by
        rw [hr]
        unfold cadd
        rw [if_neg hp, if_neg hp, if_pos ⟨rfl, h⟩]
        exact cneg_zero)
      obtain ⟨h1, h2⟩ := tan_r hpa hy _ hr
      by_cases hx : (pneg (padd P.1 P.1)).1 = P.1.1
      · obtain ⟨h3, h4⟩ := h2 hx
        exact sidesE_ok hp hq hz hpq hx h3 (decide_eq_true h4) hG
      · exact sidesD_ok hp hq hz hpq hx h1 hG
    · have hx : P.1.1 ≠ Q.1.1 := fun hx => by
        rcases same_x hpa hqa hx with h | h
        · exact hpq h
        · refine hz ?_
          have h1 : P = -Q := Gp.ext h
          rw [hrG, h1, AG.neg_a, a_neg_zero]; rfl
      obtain ⟨h1, h2⟩ := chord_r hpa hqa hx _ hr
      exact sidesF_ok hp hq hz hpq hx h1 (decide_eq_true h2) hG
  a6 := by rw [padd_ok, padd_ok, AG.acomm]
  a7 := by
    have := psum_ok [P, Q]
    simp only [List.map_cons, List.map_nil, List.foldl_cons, List.foldl_nil, AG.zero_a] at this
    rw [padd_ok]; exact this
end Go.Cu

/- The first group: of the curve's points just those are in the group that come to nought when taken r times. -/
namespace Go.Cu
open Go.Ec
open Go Go.Vm
set_option linter.unusedVariables false
set_option linter.unusedSimpArgs false
set_option linter.unusedSectionVars false
open CR

/-- No more pigeons than holes. -/
theorem pigeon : ∀ (M N : Nat) (f : Nat → Nat), (∀ i, i < N → f i < M) → (∀ i j, i < N → j < N → f i = f j → i = j) → N ≤ M
  | 0, N, f, hf, hi => by
    rcases Nat.eq_zero_or_pos N with h | h
    · omega
    · exact absurd (hf 0 h) (Nat.not_lt_zero _)
  | M + 1, N, f, hf, hi => by
    by_cases hx : ∃ i, i < N ∧ f i = M
    · obtain ⟨k, hk, hfk⟩ := hx
      have hs : ∀ i, i < N - 1 → (if i < k then i else i + 1) < N ∧ (if i < k then i else i + 1) ≠ k := by
        intro i h
        by_cases hik : i < k
        · rw [if_pos hik]; omega
        · rw [if_neg hik]; omega
      have := pigeon M (N - 1) (fun i => f (if i < k then i else i + 1)) (fun i h => by
        have h1 := hf _ (hs i h).1
        have h2 : f (if i < k then i else i + 1) ≠ M := fun e => (hs i h).2 (hi _ _ (hs i h).1 hk (e.trans hfk.symm))
        show f (if i < k then i else i + 1) < M
        omega) (fun i j h1 h2 e => by
        have e2 := hi _ _ (hs i h1).1 (hs j h2).1 e
        by_cases hik : i < k
        · rw [if_pos hik] at e2
          by_cases hjk : j < k
          · rwa [if_pos hjk] at e2
          · rw [if_neg hjk] at e2; omega
        · rw [if_neg hik] at e2
          by_cases hjk : j < k
          · rw [if_pos hjk] at e2; omega
          · rw [if_neg hjk] at e2; omega)
      omega
    · have := pigeon M N f (fun i h => by
        have h1 := hf i h
        have h2 : f i ≠ M := fun e => hx ⟨i, h, e⟩
        omega) hi
      omega

section
variable {γ : Type} [AG γ]
open AG
instance acA : Std.Associative (α := γ) (· + ·) := ⟨aassoc⟩
instance acC : Std.Commutative (α := γ) (· + ·) := ⟨acomm⟩
theorem a_cancel_r {a b c : γ} (h : b + a = c + a) : b = c := a_cancel (a := a) (by rw [acomm a b, acomm a c]; exact h)
variable {f : γ → γ} (fadd : ∀ a b, f (a + b) = f a + f b) {s r : Nat} (hr : r + s = s * s + 1) (h3 : ∀ x, f (f x) + f x + x = 0)
include fadd
theorem f_zero : f 0 = 0 := a_cancel (a := f 0) (by rw [← fadd, a_zero, a_zero])
theorem f_nmul (x : γ) : ∀ n, f (nmul n x) = nmul n (f x)
  | 0 => f_zero fadd
  | n + 1 => by rw [nmul, fadd, f_nmul x n, nmul]
include hr h3
theorem in_zero {x : γ} (h : f x + nmul s x = 0) : nmul r x = 0 := by
  have h1 : f (f x) + nmul s (f x) = 0 := by rw [← f_nmul fadd, ← fadd, h, f_zero fadd]
  have h2 : nmul s (f x) + nmul (s * s) x = 0 := by rw [nmul_mul, ← nmul_dist, h, nmul_zero]
  have h4 := h3 x
  have h5 : nmul r x + nmul s x = nmul (s * s) x + x := by rw [← nmul_add, hr, nmul_add, nmul_one]
  have h6 : f (f x) = nmul (s * s) x := a_cancel_r (a := nmul s (f x)) (by rw [h1, acomm, h2])
  rw [h6] at h4
  refine a_cancel_r (a := nmul s x) ?_
  rw [h5, zero_a]
  refine a_cancel_r (a := f x) ?_
  rw [acomm (nmul s x), h, ← h4]
  ac_rfl
theorem zero_q {x : γ} (h : nmul r x = 0) : nmul r (f x + nmul s x) = 0 ∧ f (f x + nmul s x) + (f x + nmul s x) = nmul s (f x + nmul s x) := by
  refine ⟨?_, ?_⟩
  · rw [nmul_dist, ← f_nmul fadd, h, f_zero fadd, nmul_comm, h, nmul_zero, zero_a]
  · have h4 := h3 x
    have h5 : nmul s x = nmul (s * s) x + x := by
      have : nmul (r + s) x = nmul s x := by rw [nmul_add, h, zero_a]
      rw [← this, hr, nmul_add, nmul_one]
    rw [fadd, nmul_dist, f_nmul fadd, ← nmul_mul]
    have e : f (f x) + nmul s (f x) + (f x + nmul s x) = nmul s (f x) + (f (f x) + f x + x) + nmul (s * s) x := by
      rw [h5]; ac_rfl
    rw [e, h4, a_zero]
omit fadd hr h3
include fadd
theorem both_zero {u v : Nat} (hu : u * (s + s) = v * r + 1 + u) {G Q : γ} (hG : f G + nmul s G = 0) (hQ : f Q + Q = nmul s Q) (hr0 : nmul r G = 0) {a b : Nat} (h : nmul a G = nmul b Q) : nmul a G = 0 := by
  have h1 : f (nmul a G) + nmul s (nmul a G) = 0 := by rw [f_nmul fadd, nmul_comm, ← nmul_dist, hG, nmul_zero]
  have h2 : f (nmul a G) + nmul a G = nmul s (nmul a G) := by rw [h, f_nmul fadd, nmul_comm, ← nmul_dist, hQ]
  have h0 : nmul r (nmul a G) = 0 := by rw [nmul_comm, hr0, nmul_zero]
  generalize nmul a G = R at h1 h2 h0
  have h5 : nmul (s + s) R = R := by
    refine a_cancel (a := f R) ?_
    rw [h2, nmul_add, ← aassoc, h1, zero_a]
  have h6 : nmul (u * (s + s)) R = nmul u R := by rw [Nat.mul_comm, nmul_mul, h5]
  rw [hu, nmul_add, nmul_add, nmul_one, Nat.mul_comm, nmul_mul, h0, nmul_zero, zero_a] at h6
  exact a_cancel_r (a := nmul u R) (h6.trans (zero_a _).symm)
omit fadd
/-- Pairs of multiples of two points that meet in nought alone are all different. -/
theorem pair_inj {G Q : γ} (hG0 : nmul r G = 0) (hQ0 : nmul r Q = 0) (hGo : ∀ b, nmul b G = 0 → b % r = 0) (hQo : ∀ b, nmul b Q = 0 → b % r = 0)
    (hm : ∀ a b, nmul a G = nmul b Q → nmul a G = 0) {i j i' j' : Nat} (hi : i < r) (hj : j < r) (hi' : i' < r) (hj' : j' < r) (h : nmul i G + nmul j Q = nmul i' G + nmul j' Q) : i = i' ∧ j = j' := by
  have key : nmul (i + (r - i')) G = nmul (j' + (r - j)) Q := by
    have e1 : nmul (r - i') G + nmul i' G = 0 := by rw [← nmul_add, show r - i' + i' = r by omega, hG0]
    have e2 : nmul (r - j) Q + nmul j Q = 0 := by rw [← nmul_add, show r - j + j = r by omega, hQ0]
    refine a_cancel_r (a := nmul i' G + nmul j Q) ?_
    rw [nmul_add, nmul_add]
    have e3 : nmul i G + nmul (r - i') G + (nmul i' G + nmul j Q) = (nmul (r - i') G + nmul i' G) + (nmul i G + nmul j Q) := by ac_rfl
    have e4 : nmul j' Q + nmul (r - j) Q + (nmul i' G + nmul j Q) = (nmul (r - j) Q + nmul j Q) + (nmul i' G + nmul j' Q) := by ac_rfl
    rw [e3, e4, e1, e2, h]
  have z1 := hm _ _ key
  have d1 := hGo _ z1
  have d2 := hQo _ (key.symm.trans z1)
  have m1 : i + (r - i') < 2 * r := by omega
  have m2 : j' + (r - j) < 2 * r := by omega
  have two : ∀ n, n % r = 0 → 0 < n → n < 2 * r → n = r := by
    intro n hn h0 h2
    rcases Nat.lt_or_ge n r with hlt | hge
    · rw [Nat.mod_eq_of_lt hlt] at hn; omega
    · rw [Nat.mod_eq_sub_mod hge, Nat.mod_eq_of_lt (by omega)] at hn; omega
  have t1 := two _ d1 (by omega) m1
  have t2 := two _ d2 (by omega) m2
  omega
end

theorem ss_r : rr + sz * sz = sz * sz * (sz * sz) + 1 := by rw [sz_val]; exact of_decide_eq_true (by kernel_rfl)
theorem ss_u : 17478625058375396826482580169395321945744191626740779555491317182005930972502 * (sz * sz + sz * sz) = 152659206768433052043235717973596089001 * rr + 1 + 17478625058375396826482580169395321945744191626740779555491317182005930972502 := by rw [sz_val]; exact of_decide_eq_true (by kernel_rfl)
theorem turn_sq : turn * turn + turn + 1 = 0 := by decide +kernel
theorem turn_one : turn - 1 ≠ 0 := by decide +kernel
theorem phi_add (P Q : G1) : phi (P + Q) = phi P + phi Q := turnG_add tturn P Q
theorem phi_zero : phi 0 = 0 := turnG_zero tturn
/-- The point and its two turns lie on one line. -/
theorem turn_sum (P : G1) : phi (phi P) + phi P + P = 0 := by
  by_cases hz : P.1 = (0, 0)
  · have : P = 0 := Gp.ext hz
    subst this
    rw [phi_zero, phi_zero, AG.zero_a, AG.zero_a]
  have ha := P.2.resolve_left hz
  have hv := phi_val P
  have hv2 := phi_val (phi P)
  have hq : Aff four (phi P).1 := by
    refine (phi P).2.resolve_left fun e => ?_
    rw [hv] at e
    have e1 : P.1.1 * turn = 0 := congrArg Prod.fst e
    have e2 : P.1.2 = 0 := congrArg Prod.snd e
    by_cases hx : P.1.1 = 0
    · exact hz (Prod.ext hx e2)
    · exact Fld.mul_ne hx (by decide +kernel : turn ≠ 0) e1
  have hline : ¬ ((phi P).1.1 = P.1.1 ∧ (phi P).1.2 + P.1.2 = 0) := by
    rintro ⟨h1, h2⟩
    rw [hv] at h1 h2
    have hy : P.1.2 = 0 := by
      refine Classical.byContradiction fun hy => ?_
      exact half four hy h2
    have hx : P.1.1 = 0 := by
      refine Classical.byContradiction fun hx => ?_
      refine Fld.mul_ne hx turn_one ?_
      have h1 : P.1.1 * turn = P.1.1 := h1
      exact (eq_of_sub (Eq.trans (show ((P.1.1 * (turn - 1)) - 0) = (1 * ((P.1.1 * turn) - P.1.1)) from ring_id (fun vi_ => vget vi_ [P.1.1, turn]) (.sub (.mul (.var 0) (.sub (.var 1) .one)) .zero) (.mul .one (.sub (.mul (.var 0) (.var 1)) (.var 0))) (by kernel_rfl)) (lz h1)))
    exact hz (Prod.ext hx hy)
  have hT := turn_sq
  have hl : Ln 0 (phi P).1 P.1 := by
    rw [hv]
    refine ⟨?_, ?_⟩
    · exact (show P.1.2 = (P.1.2 + (0 * (P.1.1 - (P.1.1 * turn)))) from ring_id (fun vi_ => vget vi_ [P.1.1, P.1.2, turn]) (.var 1) (.add (.var 1) (.mul .zero (.sub (.var 0) (.mul (.var 0) (.var 2))))) (by kernel_rfl))
    · exact (eq_of_sub (Eq.trans (show (((((P.1.1 * turn) * (P.1.1 * turn)) + ((P.1.1 * turn) * P.1.1)) + (P.1.1 * P.1.1)) - (0 * ((P.1.2 + P.1.2) + (0 * (P.1.1 - (P.1.1 * turn)))))) = ((P.1.1 * P.1.1) * ((((turn * turn) + turn) + 1) - 0)) from ring_id (fun vi_ => vget vi_ [P.1.1, P.1.2, turn]) (.sub (.add (.add (.mul (.mul (.var 0) (.var 2)) (.mul (.var 0) (.var 2))) (.mul (.mul (.var 0) (.var 2)) (.var 0))) (.mul (.var 0) (.var 0))) (.mul .zero (.add (.add (.var 1) (.var 1)) (.mul .zero (.sub (.var 0) (.mul (.var 0) (.var 2))))))) (.mul (.mul (.var 0) (.var 0)) (.sub (.add (.add (.mul (.var 2) (.var 2)) (.var 2)) .one) .zero)) (by kernel_rfl)) (lz hT)))
  have hs : phi P + P = -phi (phi P) := by
    refine Gp.ext ?_
    show cadd (phi P).1 P.1 = cneg (phi (phi P)).1
    rw [cadd_line hq ha hline hl, hv2, hv]
    have hne : ((P.1.1 * turn * turn, P.1.2) : Pt) ≠ (0, 0) := fun e => by
      have e1 : P.1.1 * turn * turn = 0 := congrArg Prod.fst e
      have e2 : P.1.2 = 0 := congrArg Prod.snd e
      by_cases hx : P.1.1 = 0
      · exact hz (Prod.ext hx e2)
      · exact Fld.mul_ne (Fld.mul_ne hx (by decide +kernel : turn ≠ 0)) (by decide +kernel : turn ≠ 0) e1
    unfold cneg third
    rw [if_neg hne]
    refine Prod.ext ?_ ?_
    · exact (eq_of_sub (Eq.trans (show ((((0 * 0) - (P.1.1 * turn)) - P.1.1) - ((P.1.1 * turn) * turn)) = ((0 - P.1.1) * ((((turn * turn) + turn) + 1) - 0)) from ring_id (fun vi_ => vget vi_ [P.1.1, turn]) (.sub (.sub (.sub (.mul .zero .zero) (.mul (.var 0) (.var 1))) (.var 0)) (.mul (.mul (.var 0) (.var 1)) (.var 1))) (.mul (.sub .zero (.var 0)) (.sub (.add (.add (.mul (.var 1) (.var 1)) (.var 1)) .one) .zero)) (by kernel_rfl)) (lz hT)))
    · exact (show ((0 * ((P.1.1 * turn) - (((0 * 0) - (P.1.1 * turn)) - P.1.1))) - P.1.2) = (0 - P.1.2) from ring_id (fun vi_ => vget vi_ [P.1.1, P.1.2, turn]) (.sub (.mul .zero (.sub (.mul (.var 0) (.var 2)) (.sub (.sub (.mul .zero .zero) (.mul (.var 0) (.var 2))) (.var 0)))) (.var 1)) (.sub .zero (.var 1)) (by kernel_rfl))
  rw [AG.aassoc, hs, a_neg]

/-- A point's number: there are at most 2 p + 1. -/
def pcode (P : G1) : Nat := if P.1 = (0, 0) then 0 else 1 + (2 * P.1.1.val + (if P.1.2.val < (0 - P.1.2).val then 0 else 1))
theorem pcode_lt (P : G1) : pcode P < 2 * pp + 1 := by
  unfold pcode
  have := P.1.1.lt
  split
  · omega
  · split <;> omega
theorem pcode_inj {P Q : G1} (h : pcode P = pcode Q) : P = Q := by
  unfold pcode at h
  by_cases hP : P.1 = (0, 0)
  · by_cases hQ : Q.1 = (0, 0)
    · exact Gp.ext (hP.trans hQ.symm)
    · rw [if_pos hP, if_neg hQ] at h; omega
  · by_cases hQ : Q.1 = (0, 0)
    · rw [if_neg hP, if_pos hQ] at h; omega
    · rw [if_neg hP, if_neg hQ] at h
      have hx : P.1.1 = Q.1.1 := Zp.ext (by split at h <;> split at h <;> omega)
      rcases same_x (P.2.resolve_left hP) (Q.2.resolve_left hQ) hx with e | e
      · exact Gp.ext e
      · have e1 : P.1.2 = 0 - Q.1.2 := by
          rw [e]; unfold cneg; rw [if_neg hQ]
        have e2 : 0 - P.1.2 = Q.1.2 := by rw [e1]; exact (show (0 - (0 - Q.1.2)) = Q.1.2 from ring_id (fun vi_ => vget vi_ [Q.1.2]) (.sub .zero (.sub .zero (.var 0))) (.var 0) (by kernel_rfl))
        rw [e2, e1] at h
        have hv : (0 - Q.1.2).val = Q.1.2.val := by
          split at h <;> split at h <;> omega
        exact Gp.ext (Prod.ext hx (e1.trans (Zp.ext hv)))

theorem ord_mod {Q : G1} (h0 : nmul rr Q = 0) (hQ : Q ≠ 0) (b : Nat) (hb : nmul b Q = 0) : b % rr = 0 := by
  refine Classical.byContradiction fun hne => hQ ?_
  have hx : (Zp.of b : Fs) ≠ 0 := fun e => hne (by
    have := congrArg Zp.val e
    rw [Zp.of_val, Zp.zero_val] at this; exact this)
  have hi := congrArg Zp.val (Fld.mul_finv (Zp.of b : Fs) hx)
  obtain ⟨v, hv⟩ : ∃ v, v = (Fld.finv (Zp.of b : Fs)).val := ⟨_, rfl⟩
  rw [Zp.mul_val, Zp.of_val, ← hv] at hi
  have h1 : (1 : Fs).val = 1 := by decide +kernel
  rw [h1] at hi
  have e1 : nmul (b % rr * v % rr) Q = nmul (b % rr * v) Q := nmul_mod h0 _
  rw [hi, nmul_one, nmul_mul, nmul_mod h0, hb, nmul_zero] at e1
  exact e1

theorem in_iff (P : G1) : inB P.1 = true ↔ phi P + nmul (sz * sz) P = 0 := by
  rw [inB_iff, nmul_mul]
  constructor
  · intro h; rw [h, AG.neg_a]
  · intro h; rw [AG.acomm] at h; exact a_neg_eq h
theorem many : ¬ rr * rr ≤ 2 * pp + 1 := of_decide_eq_true (by kernel_rfl)
theorem in_rr (P : G1) : inB P.1 = true ↔ nmul rr P = 0 := by
  rw [in_iff]
  refine ⟨fun h => in_zero phi_add ss_r turn_sum h, fun h => ?_⟩
  obtain ⟨h1, h2⟩ := zero_q phi_add ss_r turn_sum h
  obtain ⟨Q, hQ⟩ : ∃ Q, Q = phi P + nmul (sz * sz) P := ⟨_, rfl⟩
  rw [← hQ] at h1 h2 ⊢
  refine Classical.byContradiction fun hne => many ?_
  have hg : phi gG + nmul (sz * sz) gG = 0 := (in_iff gG).1 (by have := in_mul 1; rwa [nmul_one] at this)
  have hgn : gG ≠ 0 := fun e => gen_ne (congrArg (fun x : G1 => x.1) e)
  have hr0 : 0 < rr := by decide
  refine pigeon (2 * pp + 1) (rr * rr) (fun k => pcode (nmul (k / rr) gG + nmul (k % rr) Q)) (fun k _ => pcode_lt _) (fun k l hk hl e => ?_)
  have e := pcode_inj e
  have hk2 : k / rr < rr := Nat.div_lt_of_lt_mul hk
  have hl2 : l / rr < rr := Nat.div_lt_of_lt_mul hl
  obtain ⟨e1, e2⟩ := pair_inj gG_order h1 (ord_mod gG_order hgn) (ord_mod h1 hne) (fun a b hab => both_zero phi_add ss_u hg h2 gG_order hab) hk2 (Nat.mod_lt _ hr0) hl2 (Nat.mod_lt _ hr0) e
  rw [← Nat.div_add_mod k rr, ← Nat.div_add_mod l rr, e1, e2]
theorem in_add (P Q : G1) (hQ : inB Q.1 = true) : inB (P + Q).1 = inB P.1 := by
  have hq := (in_iff Q).1 hQ
  have h : phi (P + Q) + nmul (sz * sz) (P + Q) = phi P + nmul (sz * sz) P := by
    rw [phi_add, nmul_dist, a_four, hq, a_zero]
  rw [Bool.eq_iff_iff, in_iff, in_iff, h]
end Go.Cu

/- The first group's laws: G1Groups: the walk. Conditions: the rules that the points obey. -/
namespace Go.Cu
open Go Go.Vm Go.RowKit Go.Proofs 
attribute [local irreducible] W OpsW Det Fresh New Writes Vm.Pure Makes Changes ExternTo BuildTo ZeroTo FieldTo IndexTo BinTo SliceTo Vm.Enters
set_option linter.unusedVariables false
set_option linter.unusedSimpArgs false
variable {T : Nat → TypeId × Nat × Nat}

/-- The bytes of r, and of r - 1. -/
def rL : List Nat := [115, 237, 167, 83, 41, 157, 125, 72, 51, 57, 216, 8, 9, 161, 216, 5, 83, 189, 164, 2, 255, 254, 91, 254, 255, 255, 255, 255, 0, 0, 0, 1]
def rmL : List Nat := [115, 237, 167, 83, 41, 157, 125, 72, 51, 57, 216, 8, 9, 161, 216, 5, 83, 189, 164, 2, 255, 254, 91, 254, 255, 255, 255, 255, 0, 0, 0, 0]
theorem rL_small : ∀ c ∈ rL, c < 256 := by decide
theorem rm_cells : rbytes (0 - Zp.of 1) = bcells rmL := by rw [rbytes_eq]; exact congrArg bcells (by decide +kernel : blist (0 - Zp.of 1) = rmL)
theorem rL_put : splice (0 + (31 : Int).toNat * 1) [.int .u8 1] (bcells rmL) = some (bcells rL) := rfl
theorem rL_at : (bcells rmL)[0 + (31 : Int).toNat * 1]? = some (.int .u8 0) := rfl
theorem rL_Bs {b : Nat} : Bs [(b, blk (bcells rL) 52)] (.slice (some ⟨b, 0, none⟩) 32 32) rL := by
  have := Bs.of (l := rL) (b := b) (cap := 32) (spare := []) (e := 52) (fr := (0, 0)) rL_small (by decide)
  rwa [List.append_nil] at this
theorem tc5 : TyC Tryd.prog 5 := ⟨by kernel_rfl, by kernel_rfl⟩
theorem ne_same {a b : Bool} (h : a = b) : (a != b) = false := by subst h; cases a <;> rfl
theorem eq_same {a b : Bool} (h : a = b) : (a == b) = true := by subst h; cases a <;> rfl
structure GroupsOk (p q : Pt) : Prop where
  g1 : inB p = true
  g2 : inB q = decide (times rL q = (0, 0))
  g3 : onB q = true
  g4 : times rL p = (0, 0)
  g5 : inB (padd q p) = inB q
  g6 : onB (q.1, q.2 + q.2) = decide (q = (0, 0))

theorem u4 : Tryd.prog.underlying 4 = some (.bool) := by kernel_rfl
set_option maxHeartbeats 4000000 in
set_option maxRecDepth 100000 in
theorem G1Groups_ok {G' : Hp} {va : Value} {la : List Nat} {n : Nat} (ha : Bs G' va la) (hn : n < 65536) (hh : HeadOk) (hr : GroupsOk (gp la) (wild n)) {w : World} (hG : Blocks (G' ++ GH T) w)  : Vm.Pure Tryd.prog 8 #[va, .int .u16 (n : Nat)] w (.bool true) := by
  obtain ⟨aa, ca, hva⟩ := ha.shape
  refine pure_of_W (n := 75) (args := [va, .int .u16 (n : Nat)]) Tryd.func8 rfl Tryd.ntmps8 (Nat.le_of_ble_eq_true rfl) hG ?_
  refine sStart ?_
  refine sSeq ?_
  subst hva
  refine W.region ?_
  refine OpsW.det (det_assign rfl) rfl ?_
  refine sNext ?_
  refine W.keep (F' := [(0, _), (1, _)]) ⟨rfl, rfl, trivial⟩ ?_
  refine sSeq ?_
  refine sSeq ?_
  refine W.region ?_
  refine OpsW.det (det_call en15 rfl (fun w hb ho => head_ok hh (fun p hp => ho.look (List.mem_append_right _ hp)))) rfl ?_
  refine OpsW.det (det_not rfl) rfl ?_
  refine sNext ?_
  refine W.keep (F' := [(10, _), (0, _), (1, _)]) ⟨rfl, rfl, rfl, trivial⟩ ?_
  refine W.cond_false rfl ?_
  refine sSkip ?_
  refine sSeq ?_
  refine sSeq ?_
  refine W.region ?_
  refine OpsW.det (det_move rfl) rfl ?_
  refine OpsW.det (det_call en16 rfl (fun w hb ho => long_ok (fun p hp => ho.look (List.mem_append_right _ hp)))) rfl ?_
  refine sNext ?_
  refine W.keep (F' := [(12, _), (0, _), (1, _)]) ⟨rfl, rfl, rfl, trivial⟩ ?_
  refine W.cond rfl (fun hc12 => ?_) (fun hc12 => ?_)
  · skip
    refine sSeq ?_
    refine W.region ?_
    refine OpsW.det (det_assign rfl) rfl ?_
    refine sNext ?_
    refine W.keep (F' := [(4, _)]) ⟨rfl, trivial⟩ ?_
    refine sRet ?_
    exact done1 Tryd.results8 (rv_tmp rfl) rfl
  · skip
    have hl := not_long hc12
    refine sSkip ?_
    refine sSeq ?_
    refine W.region ?_
    refine OpsW.det (det_call en17 rfl (fun w hb ho => Gen_ok (fun p hp => ho.look (List.mem_append_right _ hp)))) rfl ?_
    refine OpsW.det (det_move rfl) rfl ?_
    refine OpsW.det (det_call en19 rfl (fun w hb ho => scalar_ok (G' := G') ha (Nat.le_trans hl.1 (by decide)) ho.blocks)) rfl ?_
    refine OpsW.det (det_call en18 rfl (fun w hb ho => PMul_ok (fun p hp => ho.look (List.mem_append_right _ hp)))) rfl ?_
    refine OpsW.fresh (fr_alloc z30r) rfl fun b5 => ?_
    refine OpsW.store sz30 rfl rfl rfl rfl rfl (Upd.here) rfl ?_
    refine sNext ?_
    refine W.keep (F' := [(5, _), (1, _)]) ⟨rfl, rfl, trivial⟩ ?_
    refine sSeq ?_
    refine W.region ?_
    refine OpsW.det (det_move rfl) rfl ?_
    refine OpsW.det (det_call en24 rfl (fun w hb ho => wild_ok hn (fun p hp => ho.look (List.mem_append_right _ hp)))) rfl ?_
    refine OpsW.fresh (fr_alloc z30r) rfl fun b6 => ?_
    refine OpsW.store sz30 rfl rfl rfl rfl rfl (Upd.here) rfl ?_
    refine sNext ?_
    refine W.keep (F' := [(6, _), (5, _)]) ⟨rfl, rfl, trivial⟩ ?_
    refine sSeq ?_
    refine W.region ?_
    refine OpsW.det (det_call en26 rfl (fun w hb ho => ROf_ok (n := 1) (by decide) (fun p hp => ho.look (List.mem_append_right _ hp)))) rfl ?_
    refine OpsW.det (det_call en27 rfl (fun w hb ho => RNeg_ok (fun p hp => ho.look (List.mem_append_right _ hp)))) rfl ?_
    refine OpsW.det (det_call en32 rfl (fun w hb ho => RBytes_ok (fun p hp => ho.look (List.mem_append_right _ hp)))) rfl ?_
    refine OpsW.fresh (fr_alloc z52) rfl fun b7 => ?_
    refine OpsW.store sz52 rfl rfl rfl (rbytes_len _) (rbytes_one _) (Upd.here) (splice_52 _) ?_
    rw [rm_cells]
    refine sNext ?_
    refine W.keep (F' := [(7, _), (6, _), (5, _)]) ⟨rfl, rfl, rfl, trivial⟩ ?_
    refine sSeq ?_
    refine W.region ?_
    refine OpsW.det ((det_sliceArr (lo := none) (hi := none) (l := 0) (h := 32) u52 sz5 rfl rfl rfl (by decide) (by decide)).to (v := .slice (some ⟨b7, 0, none⟩) 32 32) rfl) rfl ?_
    refine OpsW.det (det_assign rfl) rfl ?_
    refine sNext ?_
    refine W.keep (F' := [(8, _), (6, _), (5, _)]) ⟨rfl, rfl, rfl, trivial⟩ ?_
    refine sSeq ?_
    refine W.region ?_
    refine OpsW.det (det_move rfl) rfl ?_
    refine OpsW.det (det_indexAddr_sl u22 sz5 rfl rfl ⟨by decide, by decide⟩) rfl ?_
    refine OpsW.det (det_loadC tc5 rfl (List.Mem.head _) rL_at) rfl ?_
    refine OpsW.det ((det_add (a := 0) (b := 1) rfl rfl).to (v := .int .u8 1) rfl) rfl ?_
    refine OpsW.det (det_indexAddr_sl u22 sz5 rfl rfl ⟨by decide, by decide⟩) rfl ?_
    refine OpsW.store sz5 rfl rfl rfl rfl rfl (Upd.here) rL_put ?_
    refine sNext ?_
    refine W.keep (F' := [(8, _), (6, _), (5, _)]) ⟨rfl, rfl, rfl, trivial⟩ ?_
    refine sSeq ?_
    refine sSeq ?_
    refine W.draw mixed 25 [[], [0], [0, 1], [0, 1, 2], [0, 1, 2, 3], [0, 1, 2, 3, 4], [0, 1, 2, 3], [0, 1, 2, 3], [0, 1, 2, 3, 4, 5, 6, 7], [0, 1, 2, 3], [0, 1, 2, 3, 4, 5, 6, 7, 8, 9], [0, 1, 2, 3, 4, 5, 6, 7, 8, 9, 10], [0, 1, 2, 3, 4, 5, 6, 7, 8, 9, 10, 11], [0, 1, 2, 3, 4, 5, 6, 7, 8, 9, 10, 11, 12], [0, 1, 2, 3, 4, 5, 6, 7, 8, 9, 10, 11, 12, 13], [0, 1, 2, 3, 4, 5, 6, 7, 8, 9, 10, 11, 12, 13, 14], [0, 1, 2, 3, 4, 5, 6, 7, 8, 9, 10, 11, 12, 13, 14, 15], [0, 1, 2, 3, 4, 5, 6, 7, 8, 9, 10, 11, 12, 13, 14, 15, 16], [0, 1, 2, 3, 4, 5, 6, 7, 8, 9, 10, 11, 12, 13, 14, 15, 16, 17], [0, 1, 2, 3, 4, 5, 6, 7, 8, 9, 10, 11, 12, 13, 14, 15, 16, 17, 18], [0, 1, 2, 3, 4, 5, 6, 7, 8, 9, 10, 11, 12, 13, 14, 15, 16, 17, 18], [0, 1, 2, 3, 4, 5, 6, 7, 8, 9, 10, 11, 12, 13, 14, 15, 16, 17, 18, 19, 20], [0, 1, 2, 3, 4, 5, 6, 7, 8, 9, 10, 11, 12, 13, 14, 15, 16, 17, 18], [0, 1, 2, 3, 4, 5, 6, 7, 8, 9, 10, 11, 12, 13, 14, 15, 16, 17, 18, 19, 20, 21, 22], [0, 1, 2, 3, 4, 5, 6, 7, 8, 9, 10, 11, 12, 13, 14, 15, 16, 17, 18, 19, 20, 21, 22, 23]] (cl_lt (by decide)) ?_
    refine HeadR.start (cl_lt (by decide)) ?_
    refine HeadR.det rfl (fun β hβ => (det_loadA ty30 rfl (List.Mem.tail _ (List.Mem.tail _ (List.Mem.head _))) rfl)) ?_
    refine HeadR.det rfl (fun β hβ => (Det.to (det_call en31 rfl (fun w hb ho => PIn_ok (fun p hp => ho.look (List.mem_append_right _ hp)))) (congrArg Value.bool (hr.g1)))) ?_
    refine HeadR.det rfl (fun β hβ => (det_not rfl)) ?_
    refine HeadR.det rfl (fun β hβ => (det_move rfl)) ?_
    refine HeadR.yes rfl rfl (fun _ _ => rfl) (fun β hβ => (det_loadA ty30 rfl (List.Mem.tail _ (List.Mem.head _)) rfl)) ?_
    refine HeadR.yes rfl rfl (fun _ _ => rfl) (fun β hβ => (det_call en31 rfl (fun w hb ho => PIn_ok (fun p hp => ho.look (List.mem_append_right _ hp))))) ?_
    refine HeadR.yes rfl rfl (fun _ _ => rfl) (fun β hβ => (det_loadA ty30 rfl (List.Mem.tail _ (List.Mem.head _)) rfl)) ?_
    refine HeadR.yes rfl rfl (fun _ _ => rfl) (fun β hβ => (det_move rfl)) ?_
    refine HeadR.yes rfl rfl (fun _ _ => rfl) (fun β hβ => (det_call en25 rfl (fun w hb ho => Times_ok (G' := [(b7, blk (bcells rL) 52)]) (l := rL) (p := wild n) rL_Bs (by decide) (blocks_cons (hb _ (by repeat (first | exact List.Mem.head _ | apply List.Mem.tail))) (fun p hp => ho.look (List.mem_append_right _ hp)))))) ?_
    refine HeadR.yes rfl rfl (fun _ _ => rfl) (fun β hβ => (det_zero bz30)) ?_
    refine HeadR.yes rfl rfl (fun _ _ => rfl) (fun β hβ => (det_eql30 rfl rfl)) ?_
    refine HeadR.yes rfl rfl (fun _ _ => rfl) (fun β hβ => (Det.to (det_neqb u4 rfl rfl) (congrArg Value.bool (ne_same hr.g2)))) ?_
    refine HeadR.det rfl (fun β hβ => (det_pick rfl rfl)) ?_
    refine HeadR.det rfl (fun β hβ => (det_move rfl)) ?_
    refine HeadR.yes rfl rfl (fun _ _ => rfl) (fun β hβ => (det_loadA ty30 rfl (List.Mem.tail _ (List.Mem.head _)) rfl)) ?_
    refine HeadR.yes rfl rfl (fun _ _ => rfl) (fun β hβ => (Det.to (det_call en23 rfl (fun w hb ho => POn_ok (fun p hp => ho.look (List.mem_append_right _ hp)))) (congrArg Value.bool (hr.g3)))) ?_
    refine HeadR.yes rfl rfl (fun _ _ => rfl) (fun β hβ => (det_not rfl)) ?_
    refine HeadR.det rfl (fun β hβ => (det_pick rfl rfl)) ?_
    refine HeadR.det rfl (fun β hβ => (det_move rfl)) ?_
    refine HeadR.yes rfl rfl (fun _ _ => rfl) (fun β hβ => (det_loadA ty30 rfl (List.Mem.tail _ (List.Mem.tail _ (List.Mem.head _))) rfl)) ?_
    refine HeadR.yes rfl rfl (fun _ _ => rfl) (fun β hβ => (det_move rfl)) ?_
    refine HeadR.yes rfl rfl (fun _ _ => rfl) (fun β hβ => (det_call en25 rfl (fun w hb ho => Times_ok (G' := [(b7, blk (bcells rL) 52)]) (l := rL) (p := gp la) rL_Bs (by decide) (blocks_cons (hb _ (by repeat (first | exact List.Mem.head _ | apply List.Mem.tail))) (fun p hp => ho.look (List.mem_append_right _ hp)))))) ?_
    refine HeadR.yes rfl rfl (fun _ _ => rfl) (fun β hβ => (det_zero bz30)) ?_
    refine HeadR.yes rfl rfl (fun _ _ => rfl) (fun β hβ => (Det.to (det_neq30 rfl rfl) (congrArg Value.bool (nb hr.g4)))) ?_
    refine HeadR.det rfl (fun β hβ => (det_pick rfl rfl)) ?_
    refine HeadR.done ⟨by kernel_rfl, fun β hβ => ?_⟩
    refine OpsW.norm (F' := [(28, _), (29, _), (30, _), (31, _), (32, _), (33, _), (34, _), (35, _), (36, _), (37, _), (38, _), (39, _), (40, _), (41, _), (42, _), (43, _), (44, _), (45, _), (46, _), (47, _), (48, _), (49, _), (50, _), (51, _), (52, _), (8, _), (6, _), (5, _)]) (H' := [(_, _), (_, _), (_, _)]) rfl rfl ?_
    refine sNext ?_
    refine W.keep (F' := [(52, _), (6, _), (5, _)]) ⟨rfl, rfl, rfl, trivial⟩ ?_
    refine W.cond_false rfl ?_
    refine sSkip ?_
    refine sSeq ?_
    refine W.draw mixed 23 [[], [], [0, 1], [0, 1, 2], [], [0, 1, 2, 3, 4], [0, 1, 2, 3, 4, 5], [0, 1, 2, 3, 4, 5, 6], [0, 1, 2, 3, 4, 5, 6, 7], [0, 1, 2, 3, 4, 5, 6, 7, 8], [0, 1, 2, 3, 4, 5, 6, 7], [0, 1, 2, 3, 4, 5, 6, 7, 10], [0, 1, 2, 3, 4, 5, 6, 7], [0, 1, 2, 3, 4, 5, 6, 7, 12], [0, 1, 2, 3, 4, 5, 6, 7, 10, 11, 12, 13], [0, 1, 2, 3, 4, 5, 6, 7, 8, 9, 10, 11, 12, 13, 14], [0, 1, 2, 3, 4, 5, 6, 7, 8, 9, 10, 11, 12, 13, 14, 15], [0, 1, 2, 3, 4, 5, 6, 7], [0, 1, 2, 3, 4, 5, 6, 7], [0, 1, 2, 3, 4, 5, 6, 7, 17, 18], [0, 1, 2, 3, 4, 5, 6, 7, 8, 9, 10, 11, 12, 13, 14, 15, 16, 17, 18, 19], [0, 1, 2, 3, 4, 5, 6, 7, 8, 9, 10, 11, 12, 13, 14, 15, 16, 17, 18, 19, 20], [0, 1, 2, 3, 4, 5, 6, 7, 8, 9, 10, 11, 12, 13, 14, 15, 16, 17, 18, 19, 20, 21]] (cl_lt (by decide)) ?_
    refine HeadR.start (cl_lt (by decide)) ?_
    refine HeadR.det rfl (fun β hβ => (det_loadA ty30 rfl (List.Mem.tail _ (List.Mem.head _)) rfl)) ?_
    refine HeadR.det rfl (fun β hβ => (det_loadA ty30 rfl (List.Mem.tail _ (List.Mem.tail _ (List.Mem.head _))) rfl)) ?_
    refine HeadR.det rfl (fun β hβ => (det_call en20 rfl (fun w hb ho => PAdd_ok (fun p hp => ho.look (List.mem_append_right _ hp))))) ?_
    refine HeadR.det rfl (fun β hβ => (det_call en31 rfl (fun w hb ho => PIn_ok (fun p hp => ho.look (List.mem_append_right _ hp))))) ?_
    refine HeadR.det rfl (fun β hβ => (det_loadA ty30 rfl (List.Mem.tail _ (List.Mem.head _)) rfl)) ?_
    refine HeadR.det rfl (fun β hβ => (det_call en31 rfl (fun w hb ho => PIn_ok (fun p hp => ho.look (List.mem_append_right _ hp))))) ?_
    refine HeadR.det rfl (fun β hβ => (Det.to (det_eqlb u4 rfl rfl) (congrArg Value.bool (eq_same hr.g5)))) ?_
    refine HeadR.det rfl (fun β hβ => (det_move rfl)) ?_
    refine HeadR.yes rfl rfl (fun _ _ => rfl) (fun β hβ => (det_fieldAddr fl30_0 rfl)) ?_
    refine HeadR.yes rfl rfl (fun _ _ => rfl) (fun β hβ => (det_loadA ty28 rfl (List.Mem.tail _ (List.Mem.head _)) rfl)) ?_
    refine HeadR.yes rfl rfl (fun _ _ => rfl) (fun β hβ => (det_fieldAddr fl30_1 rfl)) ?_
    refine HeadR.yes rfl rfl (fun _ _ => rfl) (fun β hβ => (det_loadA ty28 rfl (List.Mem.tail _ (List.Mem.head _)) rfl)) ?_
    refine HeadR.yes rfl rfl (fun _ _ => rfl) (fun β hβ => (det_fieldAddr fl30_1 rfl)) ?_
    refine HeadR.yes rfl rfl (fun _ _ => rfl) (fun β hβ => (det_loadA ty28 rfl (List.Mem.tail _ (List.Mem.head _)) rfl)) ?_
    refine HeadR.yes rfl rfl (fun _ _ => rfl) (fun β hβ => (det_call en33 rfl (fun w hb ho => Add_ok (fun p hp => ho.look (List.mem_append_right _ hp))))) ?_
    refine HeadR.yes rfl rfl (fun _ _ => rfl) (fun β hβ => (det_build rfl bld30)) ?_
    refine HeadR.yes rfl rfl (fun _ _ => rfl) (fun β hβ => (det_call en23 rfl (fun w hb ho => POn_ok (fun p hp => ho.look (List.mem_append_right _ hp))))) ?_
    refine HeadR.yes rfl rfl (fun _ _ => rfl) (fun β hβ => (det_loadA ty30 rfl (List.Mem.tail _ (List.Mem.head _)) rfl)) ?_
    refine HeadR.yes rfl rfl (fun _ _ => rfl) (fun β hβ => (det_zero bz30)) ?_
    refine HeadR.yes rfl rfl (fun _ _ => rfl) (fun β hβ => (det_eql30 rfl rfl)) ?_
    refine HeadR.yes rfl rfl (fun _ _ => rfl) (fun β hβ => (Det.to (det_eqlb u4 rfl rfl) (congrArg Value.bool (eq_same hr.g6)))) ?_
    refine HeadR.det rfl (fun β hβ => (det_pick rfl rfl)) ?_
    refine HeadR.det rfl (fun β hβ => (det_assign rfl)) ?_
    refine HeadR.done ⟨by kernel_rfl, fun β hβ => ?_⟩
    refine OpsW.norm (F' := [(53, _), (54, _), (55, _), (56, _), (57, _), (58, _), (59, _), (60, _), (61, _), (62, _), (63, _), (64, _), (65, _), (66, _), (67, _), (68, _), (69, _), (70, _), (71, _), (72, _), (73, _), (74, _), (4, _), (52, _), (6, _), (5, _)]) (H' := [(_, _), (_, _), (_, _)]) rfl rfl ?_
    refine sNext ?_
    refine W.keep (F' := [(4, _)]) ⟨rfl, trivial⟩ ?_
    refine sRet ?_
    exact done1 Tryd.results8 (rv_tmp rfl) rfl

end Go.Cu

/- The first group: what G1Groups asks of a point that the generator makes and of any other one. -/
namespace Go.Cu
open Go.Ec
open Go Go.Vm
set_option linter.unusedVariables false
set_option linter.unusedSimpArgs false
set_option linter.unusedSectionVars false
open CR
theorem rL_val : beN rL = rr := by decide +kernel
theorem times_r (P : G1) : times rL P.1 = (0, 0) ↔ nmul rr P = 0 := by
  rw [times_ok rL_small, rL_val]
  exact ⟨fun h => Gp.ext h, fun h => congrArg (fun x : G1 => x.1) h⟩
/-- Of the points that wild makes none has order two. -/
theorem wfrom_y : ∀ f k, wfrom f k = (0, 0) ∨ (wfrom f k).2 ≠ 0
  | 0, _ => .inl rfl
  | f + 1, k => by
    obtain ⟨r, hr⟩ : ∃ r, r = sqrtF (wcube k) := ⟨_, rfl⟩
    rw [wfrom, ← hr]
    by_cases h : r.2 = true ∧ r.1 ≠ 0
    · rw [if_pos h]; exact .inr h.2
    · rw [if_neg h]; exact wfrom_y f (k + 1)
theorem on_twice {q : Pt} (hq : On four q) (hy : q = (0, 0) ∨ q.2 ≠ 0) : onB (q.1, q.2 + q.2) = decide (q = (0, 0)) := by
  rcases hy with rfl | hy
  · decide +kernel
  · have hne : q ≠ (0, 0) := fun e => hy (by rw [e])
    rw [decide_eq_false hne]
    refine Bool.eq_false_iff.2 fun h => ?_
    have h1 := hq.resolve_left hne
    have hyy : q.2 + q.2 ≠ 0 := half four hy
    have h2 : Aff four (q.1, q.2 + q.2) := (on_of h).resolve_left fun e => hyy (congrArg Prod.snd e)
    have h1 : q.2 * q.2 = q.1 * q.1 * q.1 + four := h1
    have h2 : (q.2 + q.2) * (q.2 + q.2) = q.1 * q.1 * q.1 + four := h2
    refine Fld.mul_ne (Fld.mul_ne hy hy) (Gd.three (B := four)) ?_
    exact (eq_of_sub (Eq.trans (show (((q.2 * q.2) * ((1 + 1) + 1)) - 0) = ((1 * (((q.2 + q.2) * (q.2 + q.2)) - (((q.1 * q.1) * q.1) + four))) + ((0 - 1) * ((q.2 * q.2) - (((q.1 * q.1) * q.1) + four)))) from ring_id (fun vi_ => vget vi_ [q.1, q.2, four]) (.sub (.mul (.mul (.var 1) (.var 1)) (.add (.add .one .one) .one)) .zero) (.add (.mul .one (.sub (.mul (.add (.var 1) (.var 1)) (.add (.var 1) (.var 1))) (.add (.mul (.mul (.var 0) (.var 0)) (.var 0)) (.var 2)))) (.mul (.sub .zero .one) (.sub (.mul (.var 1) (.var 1)) (.add (.mul (.mul (.var 0) (.var 0)) (.var 0)) (.var 2))))) (by kernel_rfl)) (lz2 (lz h2) (lz h1))))
theorem groupsOk (a : List Nat) (n : Nat) : GroupsOk (gp a) (wild n) := by
  have hq : wild n = (wG n).1 := rfl
  have hy := wfrom_y 200 n
  have hw : wild n = wfrom 200 n := rfl
  rw [← hw] at hy
  have hon := (wG n).2
  rw [← hq] at hon
  have h6 := on_twice hon hy
  have hin := in_mul (wide a).val
  have hord := order_mul (wide a).val
  rw [gp_ok]
  generalize nmul (wide a).val gG = P at *
  refine ⟨hin, ?_, onB_ok hon, ?_, ?_, h6⟩
  · rw [hq, Bool.eq_iff_iff, in_rr, decide_eq_true_iff, times_r]
  · exact (times_r P).2 hord
  · rw [hq, padd_ok, in_add _ _ hin]
end Go.Cu
