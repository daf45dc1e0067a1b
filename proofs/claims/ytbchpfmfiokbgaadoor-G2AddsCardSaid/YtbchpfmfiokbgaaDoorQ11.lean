/-
  Part 11 of the joined texts of the curves' laws: The second group's laws: G2Adds: the walk. Conditions: the rules that the points obey.
  Conditions: those that each theorem states.
-/
import Derived.Test.YtbchpfmfiokbgaaDoorQ10
import Derived.Test.YtbchpfmfiokbgaaDoorQ6
import Derived.Test.YtbchpfmfiokbgaaDoorQ8
/- The second group's laws: G2Adds: the walk. Conditions: the rules that the points obey. -/
namespace Go.Cw
open Go Go.Vm Go.RowKit Go.Proofs Go.Cu
attribute [local irreducible] W OpsW Det Fresh New Writes Vm.Pure Makes Changes ExternTo BuildTo ZeroTo FieldTo IndexTo BinTo SliceTo Vm.Enters
set_option linter.unusedVariables false
set_option linter.unusedSimpArgs false
variable {T : Nat → TypeId × Nat × Nat}

structure AddsOk (T : Nat → TypeId × Nat × Nat) (p q : Pt) : Prop where
  a1 : onB p = true
  a2 : onB q = true
  a3 : onB (padd p q) = true
  a4 : onB (pneg (padd p q)) = true
  a5 : ∀ w, Blocks (GH T) w → Vm.Pure Tryd.prog 46 #[encP p, encP q, encP (pneg (padd p q))] w (.bool true)
  a6 : padd p q = padd q p
  a7 : psum [p, q] = padd p q
theorem slice64b {p q : Pt} : SliceTo Tryd.prog 64 2 [(0, encP p), (1, encP q)] (cellsP p ++ cellsP q) 59 := SliceTo.of fun _ => by kernel_rfl
theorem pts2 {p q : Pt} {b : Nat} : Pts [(b, blk (cellsP p ++ cellsP q) 59)] (.slice (some ⟨b, 0, none⟩) 2 2) [p, q] :=
  ⟨⟨_, _, rfl⟩, fun i h => ⟨b, 0, 2, _, 59, (0, 0), rfl, List.mem_singleton.2 rfl, by
    have h : i < 2 := h
    have : i = 0 ∨ i = 1 := by omega
    rcases this with rfl | rfl <;> rfl⟩⟩
attribute [local irreducible] pmul times padd pneg psum wide gen sqrt2

theorem en46 : Vm.Enters Tryd.prog 46 := Vm.Enters.of fun _ _ => by kernel_rfl
set_option maxHeartbeats 8000000 in
set_option maxRecDepth 100000 in
theorem G2Adds_ok {G' : Hp} {va vb : Value} {la lb : List Nat} {n m : Nat} {how : Int} (ha : Bs G' va la) (hb' : Bs G' vb lb) (hn : n < 65536) (hm : m < 65536) (hh : HeadOk) {On : Pt → Prop} (ha0 : On (gp la)) (hb0 : On (gp lb)) (hn0 : On (wild n)) (hm0 : On (wild m)) (ho_pn : ∀ {p}, On p → On (pneg p)) (ho_z : On (0, 0)) (hr : ∀ p q, On p → On q → AddsOk T p q) {w : World} (hG : Blocks (G' ++ GH T) w)  : Vm.Pure Tryd.prog 13 #[va, vb, .int .u16 (n : Nat), .int .u16 (m : Nat), .int .i64 how] w (.bool true) := by
  obtain ⟨aa, ca, hva⟩ := ha.shape
  obtain ⟨ab, cb, hvb⟩ := hb'.shape
  refine pure_of_W (n := 89) (args := [va, vb, .int .u16 (n : Nat), .int .u16 (m : Nat), .int .i64 how]) Tryd.func13 rfl Tryd.ntmps13 (Nat.le_of_ble_eq_true rfl) hG ?_
  refine sStart ?_
  refine sSeq ?_
  subst hva
  subst hvb
  refine W.region ?_
  refine OpsW.det (det_assign rfl) rfl ?_
  refine sNext ?_
  refine W.keep (F' := [(0, _), (1, _), (2, _), (3, _), (4, _)]) ⟨rfl, rfl, rfl, rfl, rfl, trivial⟩ ?_
  refine sSeq ?_
  refine sSeq ?_
  refine W.region ?_
  refine OpsW.det (det_call en34 rfl (fun w hb ho => head_ok hh (fun p hp => ho.look (List.mem_append_right _ hp)))) rfl ?_
  refine OpsW.det (det_not rfl) rfl ?_
  refine sNext ?_
  refine W.keep (F' := [(15, _), (0, _), (1, _), (2, _), (3, _), (4, _)]) ⟨rfl, rfl, rfl, rfl, rfl, rfl, trivial⟩ ?_
  refine W.cond_false rfl ?_
  refine sSkip ?_
  refine sSeq ?_
  refine sSeq ?_
  refine W.region ?_
  refine OpsW.det (det_move rfl) rfl ?_
  refine OpsW.det (det_move rfl) rfl ?_
  refine OpsW.det (det_call en35 rfl (fun w hb ho => long_ok (fun p hp => ho.look (List.mem_append_right _ hp)))) rfl ?_
  refine sNext ?_
  refine W.keep (F' := [(18, _), (0, _), (1, _), (2, _), (3, _), (4, _)]) ⟨rfl, rfl, rfl, rfl, rfl, rfl, trivial⟩ ?_
  refine W.cond rfl (fun hc18 => ?_) (fun hc18 => ?_)
  · skip
    refine sSeq ?_
    refine W.region ?_
    refine OpsW.det (det_assign rfl) rfl ?_
    refine sNext ?_
    refine W.keep (F' := [(10, _)]) ⟨rfl, trivial⟩ ?_
    refine sRet ?_
    exact done1 Tryd.results13 (rv_tmp rfl) rfl
  · skip
    have hl := not_long hc18
    refine sSkip ?_
    refine sSeq ?_
    refine W.region ?_
    refine OpsW.det (det_call en36 rfl (fun w hb ho => Gen_ok (fun p hp => ho.look (List.mem_append_right _ hp)))) rfl ?_
    refine OpsW.det (det_move rfl) rfl ?_
    refine OpsW.det (det_call en38 rfl (fun w hb ho => scalar_ok (G' := G') ha (Nat.le_trans hl.1 (by decide)) ho.blocks)) rfl ?_
    refine OpsW.det (det_call en37 rfl (fun w hb ho => PMul_ok (fun p hp => ho.look (List.mem_append_right _ hp)))) rfl ?_
    refine OpsW.fresh (fr_alloc z59r) rfl fun b11 => ?_
    refine OpsW.storeW59 rfl rfl (Upd.here) ?_
    refine sNext ?_
    refine W.keep (F' := [(11, _), (1, _), (2, _), (3, _), (4, _)]) ⟨rfl, rfl, rfl, rfl, rfl, trivial⟩ ?_
    refine sSeq ?_
    refine W.region ?_
    refine OpsW.det (det_call en36 rfl (fun w hb ho => Gen_ok (fun p hp => ho.look (List.mem_append_right _ hp)))) rfl ?_
    refine OpsW.det (det_move rfl) rfl ?_
    refine OpsW.det (det_call en38 rfl (fun w hb ho => scalar_ok (G' := G') hb' (Nat.le_trans hl.2.1 (by decide)) ho.blocks)) rfl ?_
    refine OpsW.det (det_call en37 rfl (fun w hb ho => PMul_ok (fun p hp => ho.look (List.mem_append_right _ hp)))) rfl ?_
    refine OpsW.fresh (fr_alloc z59r) rfl fun b12 => ?_
    refine OpsW.storeW59 rfl rfl (Upd.here) ?_
    refine sNext ?_
    refine W.keep (F' := [(12, _), (11, _), (2, _), (3, _), (4, _)]) ⟨rfl, rfl, rfl, rfl, rfl, trivial⟩ ?_
    refine sSeq ?_
    refine sSeq ?_
    refine W.region ?_
    refine OpsW.det (det_move rfl) rfl ?_
    refine OpsW.det (det_and rfl rfl) rfl ?_
    generalize bitsOf .and .i64 how 7 = dd
    refine sNext ?_
    refine W.keep (F' := [(28, _), (12, _), (11, _), (2, _), (3, _)]) ⟨rfl, rfl, rfl, rfl, rfl, trivial⟩ ?_
    refine sBlock ?_
    refine sSeq ?_
    refine W.region ?_
    refine OpsW.det (det_eql rfl rfl) rfl ?_
    refine OpsW.det (det_assign rfl) rfl ?_
    refine sNext ?_
    refine W.keep (F' := [(29, _), (28, _), (12, _), (11, _), (2, _), (3, _)]) ⟨rfl, rfl, rfl, rfl, rfl, rfl, trivial⟩ ?_
    refine W.cond rfl (fun hc29 => ?_) (fun hc29 => ?_)
    · skip
      have hA := hr (gp la) (gp la) ha0 ha0
      refine W.region ?_
      refine OpsW.det (det_loadW59 rfl (List.Mem.tail _ (List.Mem.head _))) rfl ?_
      refine OpsW.storeW59 rfl rfl (Upd.here) ?_
      refine sLast ?_
      refine bNext ?_
      refine W.keep (F' := [(12, _), (11, _)]) ⟨rfl, rfl, trivial⟩ ?_
      refine sSeq ?_
      refine W.region ?_
      refine OpsW.det (det_loadW59 rfl (List.Mem.tail _ (List.Mem.head _))) rfl ?_
      refine OpsW.det (det_loadW59 rfl (List.Mem.head _)) rfl ?_
      refine OpsW.det (det_call en39 rfl (fun w hb ho => PAdd_ok (fun p hp => ho.look (List.mem_append_right _ hp)))) rfl ?_
      refine OpsW.fresh (fr_alloc z59r) rfl fun b13 => ?_
      refine OpsW.storeW59 rfl rfl (Upd.here) ?_
      refine sNext ?_
      refine W.keep (F' := [(13, _), (12, _), (11, _)]) ⟨rfl, rfl, rfl, trivial⟩ ?_
      refine sSeq ?_
      refine W.draw mixed 38 [[], [0], [0, 1], [0, 1, 2], [0, 1, 2, 3], [0, 1, 2, 3, 4], [0, 1, 2, 3, 4, 5], [0, 1, 2, 3, 4, 5, 6], [0, 1, 2, 3, 4, 5, 6, 7], [0, 1, 2, 3, 4, 5, 6, 7, 8], [0, 1, 2, 3, 4, 5, 6, 7, 8, 9], [0, 1, 2, 3, 4, 5, 6, 7, 8, 9, 10], [0, 1, 2, 3, 4, 5, 6, 7, 8, 9, 10, 11], [0, 1, 2, 3, 4, 5, 6, 7, 8, 9, 10, 11, 12], [0, 1, 2, 3, 4, 5, 6, 7, 8, 9, 10, 11, 12, 13], [0, 1, 2, 3, 4, 5, 6, 7, 8, 9, 10, 11, 12, 13, 14], [0, 1, 2, 3, 4, 5, 6, 7, 8, 9, 10, 11, 12, 13, 14, 15], [0, 1, 2, 3, 4, 5, 6, 7, 8, 9, 10, 11, 12, 13, 14, 15], [0, 1, 2, 3, 4, 5, 6, 7, 8, 9, 10, 11, 12, 13, 14, 15], [0, 1, 2, 3, 4, 5, 6, 7, 8, 9, 10, 11, 12, 13, 14, 15, 18], [0, 1, 2, 3, 4, 5, 6, 7, 8, 9, 10, 11, 12, 13, 14, 15, 16, 17, 18, 19], [0, 1, 2, 3, 4, 5, 6, 7, 8, 9, 10, 11, 12, 13, 14, 15, 16, 17, 18, 19, 20], [0, 1, 2, 3, 4, 5, 6, 7, 8, 9, 10, 11, 12, 13, 14, 15, 16, 17, 18, 19, 20, 21], [0, 1, 2, 3, 4, 5, 6, 7, 8, 9, 10, 11, 12, 13, 14, 15, 16, 17, 18, 19, 20, 21, 22], [0, 1, 2, 3, 4, 5, 6, 7, 8, 9, 10, 11, 12, 13, 14, 15, 16, 17, 18, 19, 20, 21, 22], [0, 1, 2, 3, 4, 5, 6, 7, 8, 9, 10, 11, 12, 13, 14, 15, 16, 17, 18, 19, 20, 21, 22], [0, 1, 2, 3, 4, 5, 6, 7, 8, 9, 10, 11, 12, 13, 14, 15, 16, 17, 18, 19, 20, 21, 22, 24, 25], [0, 1, 2, 3, 4, 5, 6, 7, 8, 9, 10, 11, 12, 13, 14, 15, 16, 17, 18, 19, 20, 21, 22, 23, 24, 25, 26], [0, 1, 2, 3, 4, 5, 6, 7, 8, 9, 10, 11, 12, 13, 14, 15, 16, 17, 18, 19, 20, 21, 22, 23, 24, 25, 26, 27], [0, 1, 2, 3, 4, 5, 6, 7, 8, 9, 10, 11, 12, 13, 14, 15, 16, 17, 18, 19, 20, 21, 22, 23, 24, 25, 26, 27, 28], [0, 1, 2, 3, 4, 5, 6, 7, 8, 9, 10, 11, 12, 13, 14, 15, 16, 17, 18, 19, 20, 21, 22, 23, 24, 25, 26, 27, 28, 29], [0, 1, 2, 3, 4, 5, 6, 7, 8, 9, 10, 11, 12, 13, 14, 15, 16, 17, 18, 19, 20, 21, 22, 23, 24, 25, 26, 27, 28, 29], [0, 1, 2, 3, 4, 5, 6, 7, 8, 9, 10, 11, 12, 13, 14, 15, 16, 17, 18, 19, 20, 21, 22, 23, 24, 25, 26, 27, 28, 29, 30, 31], [0, 1, 2, 3, 4, 5, 6, 7, 8, 9, 10, 11, 12, 13, 14, 15, 16, 17, 18, 19, 20, 21, 22, 23, 24, 25, 26, 27, 28, 29, 30, 31, 32], [0, 1, 2, 3, 4, 5, 6, 7, 8, 9, 10, 11, 12, 13, 14, 15, 16, 17, 18, 19, 20, 21, 22, 23, 24, 25, 26, 27, 28, 29], [0, 1, 2, 3, 4, 5, 6, 7, 8, 9, 10, 11, 12, 13, 14, 15, 16, 17, 18, 19, 20, 21, 22, 23, 24, 25, 26, 27, 28, 29, 30, 31, 32, 33, 34], [0, 1, 2, 3, 4, 5, 6, 7, 8, 9, 10, 11, 12, 13, 14, 15, 16, 17, 18, 19, 20, 21, 22, 23, 24, 25, 26, 27, 28, 29, 30, 31, 32, 33, 34, 35], [0, 1, 2, 3, 4, 5, 6, 7, 8, 9, 10, 11, 12, 13, 14, 15, 16, 17, 18, 19, 20, 21, 22, 23, 24, 25, 26, 27, 28, 29, 30, 31, 32, 33, 34, 35, 36]] (cl_lt (by decide)) ?_
      refine HeadR.start (cl_lt (by decide)) ?_
      refine HeadR.det rfl (fun β hβ => (det_loadW59 rfl (List.Mem.tail _ (List.Mem.tail _ (List.Mem.head _))))) ?_
      refine HeadR.det rfl (fun β hβ => (Det.to (det_call en42 rfl (fun w hb ho => POn_ok (fun p hp => ho.look (List.mem_append_right _ hp)))) (congrArg Value.bool (hA.a1)))) ?_
      refine HeadR.det rfl (fun β hβ => (det_move rfl)) ?_
      refine HeadR.yes rfl rfl (fun _ _ => rfl) (fun β hβ => (det_loadW59 rfl (List.Mem.tail _ (List.Mem.head _)))) ?_
      refine HeadR.yes rfl rfl (fun _ _ => rfl) (fun β hβ => (Det.to (det_call en42 rfl (fun w hb ho => POn_ok (fun p hp => ho.look (List.mem_append_right _ hp)))) (congrArg Value.bool (hA.a2)))) ?_
      refine HeadR.det rfl (fun β hβ => (det_pick rfl rfl)) ?_
      refine HeadR.det rfl (fun β hβ => (det_move rfl)) ?_
      refine HeadR.yes rfl rfl (fun _ _ => rfl) (fun β hβ => (det_loadW59 rfl (List.Mem.head _))) ?_
      refine HeadR.yes rfl rfl (fun _ _ => rfl) (fun β hβ => (Det.to (det_call en42 rfl (fun w hb ho => POn_ok (fun p hp => ho.look (List.mem_append_right _ hp)))) (congrArg Value.bool (hA.a3)))) ?_
      refine HeadR.det rfl (fun β hβ => (det_pick rfl rfl)) ?_
      refine HeadR.det rfl (fun β hβ => (det_move rfl)) ?_
      refine HeadR.yes rfl rfl (fun _ _ => rfl) (fun β hβ => (det_loadW59 rfl (List.Mem.head _))) ?_
      refine HeadR.yes rfl rfl (fun _ _ => rfl) (fun β hβ => (det_call en41 rfl (fun w hb ho => PNeg_ok (fun p hp => ho.look (List.mem_append_right _ hp))))) ?_
      refine HeadR.yes rfl rfl (fun _ _ => rfl) (fun β hβ => (Det.to (det_call en42 rfl (fun w hb ho => POn_ok (fun p hp => ho.look (List.mem_append_right _ hp)))) (congrArg Value.bool (hA.a4)))) ?_
      refine HeadR.det rfl (fun β hβ => (det_pick rfl rfl)) ?_
      refine HeadR.det rfl (fun β hβ => (det_move rfl)) ?_
      refine HeadR.yes rfl rfl (fun _ _ => rfl) (fun β hβ => (det_loadW59 rfl (List.Mem.tail _ (List.Mem.tail _ (List.Mem.head _))))) ?_
      refine HeadR.yes rfl rfl (fun _ _ => rfl) (fun β hβ => (det_loadW59 rfl (List.Mem.tail _ (List.Mem.head _)))) ?_
      refine HeadR.yes rfl rfl (fun _ _ => rfl) (fun β hβ => (det_loadW59 rfl (List.Mem.head _))) ?_
      refine HeadR.yes rfl rfl (fun _ _ => rfl) (fun β hβ => (det_call en41 rfl (fun w hb ho => PNeg_ok (fun p hp => ho.look (List.mem_append_right _ hp))))) ?_
      refine HeadR.yes rfl rfl (fun _ _ => rfl) (fun β hβ => (Det.to (det_call en46 rfl (fun w hb ho => hA.a5 _ (fun p hp => ho.look (List.mem_append_right _ hp)))) (congrArg Value.bool (rfl)))) ?_
      refine HeadR.det rfl (fun β hβ => (det_pick rfl rfl)) ?_
      refine HeadR.det rfl (fun β hβ => (det_move rfl)) ?_
      refine HeadR.yes rfl rfl (fun _ _ => rfl) (fun β hβ => (det_loadW59 rfl (List.Mem.head _))) ?_
      refine HeadR.yes rfl rfl (fun _ _ => rfl) (fun β hβ => (det_loadW59 rfl (List.Mem.tail _ (List.Mem.head _)))) ?_
      refine HeadR.yes rfl rfl (fun _ _ => rfl) (fun β hβ => (det_loadW59 rfl (List.Mem.tail _ (List.Mem.tail _ (List.Mem.head _))))) ?_
      refine HeadR.yes rfl rfl (fun _ _ => rfl) (fun β hβ => (det_call en39 rfl (fun w hb ho => PAdd_ok (fun p hp => ho.look (List.mem_append_right _ hp))))) ?_
      refine HeadR.yes rfl rfl (fun _ _ => rfl) (fun β hβ => (Det.to (det_eql59 rfl rfl) (congrArg Value.bool (yb hA.a6.symm.symm)))) ?_
      refine HeadR.det rfl (fun β hβ => (det_pick rfl rfl)) ?_
      refine HeadR.det rfl (fun β hβ => (det_move rfl)) ?_
      refine HeadR.yes rfl rfl (fun _ _ => rfl) (fun β hβ => (det_loadW59 rfl (List.Mem.tail _ (List.Mem.tail _ (List.Mem.head _))))) ?_
      refine HeadR.yes rfl rfl (fun _ _ => rfl) (fun β hβ => (det_loadW59 rfl (List.Mem.tail _ (List.Mem.head _)))) ?_
      refine HeadR.yesFresh rfl rfl (fun _ _ => rfl) (fun β hβ => (fr_buildSlice rfl (slice64b (p := (gp la)) (q := (gp la)))).new) ?_
      refine HeadR.yes rfl rfl (fun _ _ => rfl) (fun β hβ => (det_call en40 rfl (fun w hb ho => PSum_ok (G' := [((β 84).1, blk (cellsP (gp la) ++ cellsP (gp la)) 59)]) pts2 (by show 2 ≤ 1000000000000; decide) (blocks_cons (hb _ (List.Mem.head _)) (fun p hp => ho.look (List.mem_append_right _ hp)))))) ?_
      refine HeadR.yes rfl rfl (fun _ _ => rfl) (fun β hβ => (det_loadW59 rfl (List.Mem.head _))) ?_
      refine HeadR.yes rfl rfl (fun _ _ => rfl) (fun β hβ => (Det.to (det_eql59 rfl rfl) (congrArg Value.bool (yb hA.a7)))) ?_
      refine HeadR.det rfl (fun β hβ => (det_pick rfl rfl)) ?_
      refine HeadR.det rfl (fun β hβ => (det_assign rfl)) ?_
      refine HeadR.done ⟨by kernel_rfl, fun β hβ => ?_⟩
      refine OpsW.norm (F' := ((52, _) :: (53, _) :: (54, _) :: (55, _) :: (56, _) :: (57, _) :: (58, _) :: (59, _) :: (60, _) :: (61, _) :: (62, _) :: (63, _) :: (64, _) :: (65, _) :: (66, _) :: (67, _) :: (68, _) :: (69, _) :: (70, _) :: (71, _) :: (72, _) :: (73, _) :: (74, _) :: (75, _) :: (76, _) :: (77, _) :: (78, _) :: (79, _) :: (80, _) :: (81, _) :: (82, _) :: (83, _) :: (84, .slice (some ⟨(β 84).1, 0, none⟩) 2 2) :: (85, _) :: (86, _) :: (87, _) :: (88, _) :: (10, _) :: (13, _) :: (12, _) :: (11, _) :: [])) (H' := [(_, _), (_, _), (_, _), (_, _)]) rfl rfl ?_
      generalize (β 84).1 = b84
      refine sNext ?_
      refine W.keep (F' := [(10, _)]) ⟨rfl, trivial⟩ ?_
      refine sRet ?_
      exact done1 Tryd.results13 (rv_tmp rfl) rfl
    · skip
      refine sSeq ?_
      refine W.region ?_
      refine OpsW.det (det_eql rfl rfl) rfl ?_
      refine OpsW.det (det_assign rfl) rfl ?_
      refine sNext ?_
      refine W.keep (F' := [(32, _), (28, _), (12, _), (11, _), (2, _), (3, _)]) ⟨rfl, rfl, rfl, rfl, rfl, rfl, trivial⟩ ?_
      refine W.cond rfl (fun hc32 => ?_) (fun hc32 => ?_)
      · skip
        have hA := hr (gp la) (pneg (gp la)) ha0 (ho_pn ha0)
        refine W.region ?_
        refine OpsW.det (det_loadW59 rfl (List.Mem.tail _ (List.Mem.head _))) rfl ?_
        refine OpsW.det (det_call en41 rfl (fun w hb ho => PNeg_ok (fun p hp => ho.look (List.mem_append_right _ hp)))) rfl ?_
        refine OpsW.storeW59 rfl rfl (Upd.here) ?_
        refine sLast ?_
        refine bNext ?_
        refine W.keep (F' := [(12, _), (11, _)]) ⟨rfl, rfl, trivial⟩ ?_
        refine sSeq ?_
        refine W.region ?_
        refine OpsW.det (det_loadW59 rfl (List.Mem.tail _ (List.Mem.head _))) rfl ?_
        refine OpsW.det (det_loadW59 rfl (List.Mem.head _)) rfl ?_
        refine OpsW.det (det_call en39 rfl (fun w hb ho => PAdd_ok (fun p hp => ho.look (List.mem_append_right _ hp)))) rfl ?_
        refine OpsW.fresh (fr_alloc z59r) rfl fun b13 => ?_
        refine OpsW.storeW59 rfl rfl (Upd.here) ?_
        refine sNext ?_
        refine W.keep (F' := [(13, _), (12, _), (11, _)]) ⟨rfl, rfl, rfl, trivial⟩ ?_
        refine sSeq ?_
        refine W.draw mixed 38 [[], [0], [0, 1], [0, 1, 2], [0, 1, 2, 3], [0, 1, 2, 3, 4], [0, 1, 2, 3, 4, 5], [0, 1, 2, 3, 4, 5, 6], [0, 1, 2, 3, 4, 5, 6, 7], [0, 1, 2, 3, 4, 5, 6, 7, 8], [0, 1, 2, 3, 4, 5, 6, 7, 8, 9], [0, 1, 2, 3, 4, 5, 6, 7, 8, 9, 10], [0, 1, 2, 3, 4, 5, 6, 7, 8, 9, 10, 11], [0, 1, 2, 3, 4, 5, 6, 7, 8, 9, 10, 11, 12], [0, 1, 2, 3, 4, 5, 6, 7, 8, 9, 10, 11, 12, 13], [0, 1, 2, 3, 4, 5, 6, 7, 8, 9, 10, 11, 12, 13, 14], [0, 1, 2, 3, 4, 5, 6, 7, 8, 9, 10, 11, 12, 13, 14, 15], [0, 1, 2, 3, 4, 5, 6, 7, 8, 9, 10, 11, 12, 13, 14, 15], [0, 1, 2, 3, 4, 5, 6, 7, 8, 9, 10, 11, 12, 13, 14, 15], [0, 1, 2, 3, 4, 5, 6, 7, 8, 9, 10, 11, 12, 13, 14, 15, 18], [0, 1, 2, 3, 4, 5, 6, 7, 8, 9, 10, 11, 12, 13, 14, 15, 16, 17, 18, 19], [0, 1, 2, 3, 4, 5, 6, 7, 8, 9, 10, 11, 12, 13, 14, 15, 16, 17, 18, 19, 20], [0, 1, 2, 3, 4, 5, 6, 7, 8, 9, 10, 11, 12, 13, 14, 15, 16, 17, 18, 19, 20, 21], [0, 1, 2, 3, 4, 5, 6, 7, 8, 9, 10, 11, 12, 13, 14, 15, 16, 17, 18, 19, 20, 21, 22], [0, 1, 2, 3, 4, 5, 6, 7, 8, 9, 10, 11, 12, 13, 14, 15, 16, 17, 18, 19, 20, 21, 22], [0, 1, 2, 3, 4, 5, 6, 7, 8, 9, 10, 11, 12, 13, 14, 15, 16, 17, 18, 19, 20, 21, 22], [0, 1, 2, 3, 4, 5, 6, 7, 8, 9, 10, 11, 12, 13, 14, 15, 16, 17, 18, 19, 20, 21, 22, 24, 25], [0, 1, 2, 3, 4, 5, 6, 7, 8, 9, 10, 11, 12, 13, 14, 15, 16, 17, 18, 19, 20, 21, 22, 23, 24, 25, 26], [0, 1, 2, 3, 4, 5, 6, 7, 8, 9, 10, 11, 12, 13, 14, 15, 16, 17, 18, 19, 20, 21, 22, 23, 24, 25, 26, 27], [0, 1, 2, 3, 4, 5, 6, 7, 8, 9, 10, 11, 12, 13, 14, 15, 16, 17, 18, 19, 20, 21, 22, 23, 24, 25, 26, 27, 28], [0, 1, 2, 3, 4, 5, 6, 7, 8, 9, 10, 11, 12, 13, 14, 15, 16, 17, 18, 19, 20, 21, 22, 23, 24, 25, 26, 27, 28, 29], [0, 1, 2, 3, 4, 5, 6, 7, 8, 9, 10, 11, 12, 13, 14, 15, 16, 17, 18, 19, 20, 21, 22, 23, 24, 25, 26, 27, 28, 29], [0, 1, 2, 3, 4, 5, 6, 7, 8, 9, 10, 11, 12, 13, 14, 15, 16, 17, 18, 19, 20, 21, 22, 23, 24, 25, 26, 27, 28, 29, 30, 31], [0, 1, 2, 3, 4, 5, 6, 7, 8, 9, 10, 11, 12, 13, 14, 15, 16, 17, 18, 19, 20, 21, 22, 23, 24, 25, 26, 27, 28, 29, 30, 31, 32], [0, 1, 2, 3, 4, 5, 6, 7, 8, 9, 10, 11, 12, 13, 14, 15, 16, 17, 18, 19, 20, 21, 22, 23, 24, 25, 26, 27, 28, 29], [0, 1, 2, 3, 4, 5, 6, 7, 8, 9, 10, 11, 12, 13, 14, 15, 16, 17, 18, 19, 20, 21, 22, 23, 24, 25, 26, 27, 28, 29, 30, 31, 32, 33, 34], [0, 1, 2, 3, 4, 5, 6, 7, 8, 9, 10, 11, 12, 13, 14, 15, 16, 17, 18, 19, 20, 21, 22, 23, 24, 25, 26, 27, 28, 29, 30, 31, 32, 33, 34, 35], [0, 1, 2, 3, 4, 5, 6, 7, 8, 9, 10, 11, 12, 13, 14, 15, 16, 17, 18, 19, 20, 21, 22, 23, 24, 25, 26, 27, 28, 29, 30, 31, 32, 33, 34, 35, 36]] (cl_lt (by decide)) ?_
        refine HeadR.start (cl_lt (by decide)) ?_
        refine HeadR.det rfl (fun β hβ => (det_loadW59 rfl (List.Mem.tail _ (List.Mem.tail _ (List.Mem.head _))))) ?_
        refine HeadR.det rfl (fun β hβ => (Det.to (det_call en42 rfl (fun w hb ho => POn_ok (fun p hp => ho.look (List.mem_append_right _ hp)))) (congrArg Value.bool (hA.a1)))) ?_
        refine HeadR.det rfl (fun β hβ => (det_move rfl)) ?_
        refine HeadR.yes rfl rfl (fun _ _ => rfl) (fun β hβ => (det_loadW59 rfl (List.Mem.tail _ (List.Mem.head _)))) ?_
        refine HeadR.yes rfl rfl (fun _ _ => rfl) (fun β hβ => (Det.to (det_call en42 rfl (fun w hb ho => POn_ok (fun p hp => ho.look (List.mem_append_right _ hp)))) (congrArg Value.bool (hA.a2)))) ?_
        refine HeadR.det rfl (fun β hβ => (det_pick rfl rfl)) ?_
        refine HeadR.det rfl (fun β hβ => (det_move rfl)) ?_
        refine HeadR.yes rfl rfl (fun _ _ => rfl) (fun β hβ => (det_loadW59 rfl (List.Mem.head _))) ?_
        refine HeadR.yes rfl rfl (fun _ _ => rfl) (fun β hβ => (Det.to (det_call en42 rfl (fun w hb ho => POn_ok (fun p hp => ho.look (List.mem_append_right _ hp)))) (congrArg Value.bool (hA.a3)))) ?_
        refine HeadR.det rfl (fun β hβ => (det_pick rfl rfl)) ?_
        refine HeadR.det rfl (fun β hβ => (det_move rfl)) ?_
        refine HeadR.yes rfl rfl (fun _ _ => rfl) (fun β hβ => (det_loadW59 rfl (List.Mem.head _))) ?_
        refine HeadR.yes rfl rfl (fun _ _ => rfl) (fun β hβ => (det_call en41 rfl (fun w hb ho => PNeg_ok (fun p hp => ho.look (List.mem_append_right _ hp))))) ?_
        refine HeadR.yes rfl rfl (fun _ _ => rfl) (fun β hβ => (Det.to (det_call en42 rfl (fun w hb ho => POn_ok (fun p hp => ho.look (List.mem_append_right _ hp)))) (congrArg Value.bool (hA.a4)))) ?_
        refine HeadR.det rfl (fun β hβ => (det_pick rfl rfl)) ?_
        refine HeadR.det rfl (fun β hβ => (det_move rfl)) ?_
        refine HeadR.yes rfl rfl (fun _ _ => rfl) (fun β hβ => (det_loadW59 rfl (List.Mem.tail _ (List.Mem.tail _ (List.Mem.head _))))) ?_
        refine HeadR.yes rfl rfl (fun _ _ => rfl) (fun β hβ => (det_loadW59 rfl (List.Mem.tail _ (List.Mem.head _)))) ?_
        refine HeadR.yes rfl rfl (fun _ _ => rfl) (fun β hβ => (det_loadW59 rfl (List.Mem.head _))) ?_
        refine HeadR.yes rfl rfl (fun _ _ => rfl) (fun β hβ => (det_call en41 rfl (fun w hb ho => PNeg_ok (fun p hp => ho.look (List.mem_append_right _ hp))))) ?_
        refine HeadR.yes rfl rfl (fun _ _ => rfl) (fun β hβ => (Det.to (det_call en46 rfl (fun w hb ho => hA.a5 _ (fun p hp => ho.look (List.mem_append_right _ hp)))) (congrArg Value.bool (rfl)))) ?_
        refine HeadR.det rfl (fun β hβ => (det_pick rfl rfl)) ?_
        refine HeadR.det rfl (fun β hβ => (det_move rfl)) ?_
        refine HeadR.yes rfl rfl (fun _ _ => rfl) (fun β hβ => (det_loadW59 rfl (List.Mem.head _))) ?_
        refine HeadR.yes rfl rfl (fun _ _ => rfl) (fun β hβ => (det_loadW59 rfl (List.Mem.tail _ (List.Mem.head _)))) ?_
        refine HeadR.yes rfl rfl (fun _ _ => rfl) (fun β hβ => (det_loadW59 rfl (List.Mem.tail _ (List.Mem.tail _ (List.Mem.head _))))) ?_
        refine HeadR.yes rfl rfl (fun _ _ => rfl) (fun β hβ => (det_call en39 rfl (fun w hb ho => PAdd_ok (fun p hp => ho.look (List.mem_append_right _ hp))))) ?_
        refine HeadR.yes rfl rfl (fun _ _ => rfl) (fun β hβ => (Det.to (det_eql59 rfl rfl) (congrArg Value.bool (yb hA.a6.symm.symm)))) ?_
        refine HeadR.det rfl (fun β hβ => (det_pick rfl rfl)) ?_
        refine HeadR.det rfl (fun β hβ => (det_move rfl)) ?_
        refine HeadR.yes rfl rfl (fun _ _ => rfl) (fun β hβ => (det_loadW59 rfl (List.Mem.tail _ (List.Mem.tail _ (List.Mem.head _))))) ?_
        refine HeadR.yes rfl rfl (fun _ _ => rfl) (fun β hβ => (det_loadW59 rfl (List.Mem.tail _ (List.Mem.head _)))) ?_
        refine HeadR.yesFresh rfl rfl (fun _ _ => rfl) (fun β hβ => (fr_buildSlice rfl (slice64b (p := (gp la)) (q := (pneg (gp la))))).new) ?_
        refine HeadR.yes rfl rfl (fun _ _ => rfl) (fun β hβ => (det_call en40 rfl (fun w hb ho => PSum_ok (G' := [((β 84).1, blk (cellsP (gp la) ++ cellsP (pneg (gp la))) 59)]) pts2 (by show 2 ≤ 1000000000000; decide) (blocks_cons (hb _ (List.Mem.head _)) (fun p hp => ho.look (List.mem_append_right _ hp)))))) ?_
        refine HeadR.yes rfl rfl (fun _ _ => rfl) (fun β hβ => (det_loadW59 rfl (List.Mem.head _))) ?_
        refine HeadR.yes rfl rfl (fun _ _ => rfl) (fun β hβ => (Det.to (det_eql59 rfl rfl) (congrArg Value.bool (yb hA.a7)))) ?_
        refine HeadR.det rfl (fun β hβ => (det_pick rfl rfl)) ?_
        refine HeadR.det rfl (fun β hβ => (det_assign rfl)) ?_
        refine HeadR.done ⟨by kernel_rfl, fun β hβ => ?_⟩
        refine OpsW.norm (F' := ((52, _) :: (53, _) :: (54, _) :: (55, _) :: (56, _) :: (57, _) :: (58, _) :: (59, _) :: (60, _) :: (61, _) :: (62, _) :: (63, _) :: (64, _) :: (65, _) :: (66, _) :: (67, _) :: (68, _) :: (69, _) :: (70, _) :: (71, _) :: (72, _) :: (73, _) :: (74, _) :: (75, _) :: (76, _) :: (77, _) :: (78, _) :: (79, _) :: (80, _) :: (81, _) :: (82, _) :: (83, _) :: (84, .slice (some ⟨(β 84).1, 0, none⟩) 2 2) :: (85, _) :: (86, _) :: (87, _) :: (88, _) :: (10, _) :: (13, _) :: (12, _) :: (11, _) :: [])) (H' := [(_, _), (_, _), (_, _), (_, _)]) rfl rfl ?_
        generalize (β 84).1 = b84
        refine sNext ?_
        refine W.keep (F' := [(10, _)]) ⟨rfl, trivial⟩ ?_
        refine sRet ?_
        exact done1 Tryd.results13 (rv_tmp rfl) rfl
      · skip
        refine sSeq ?_
        refine W.region ?_
        refine OpsW.det (det_eql rfl rfl) rfl ?_
        refine OpsW.det (det_assign rfl) rfl ?_
        refine sNext ?_
        refine W.keep (F' := [(36, _), (28, _), (12, _), (11, _), (2, _), (3, _)]) ⟨rfl, rfl, rfl, rfl, rfl, rfl, trivial⟩ ?_
        refine W.cond rfl (fun hc36 => ?_) (fun hc36 => ?_)
        · skip
          have hA := hr (wild n) (gp lb) hn0 hb0
          refine W.region ?_
          refine OpsW.det (det_move rfl) rfl ?_
          refine OpsW.det (det_call en44 rfl (fun w hb ho => wild_ok hn (fun p hp => ho.look (List.mem_append_right _ hp)))) rfl ?_
          refine OpsW.storeW59 rfl rfl (Upd.there (Upd.here)) ?_
          refine sLast ?_
          refine bNext ?_
          refine W.keep (F' := [(12, _), (11, _)]) ⟨rfl, rfl, trivial⟩ ?_
          refine sSeq ?_
          refine W.region ?_
          refine OpsW.det (det_loadW59 rfl (List.Mem.tail _ (List.Mem.head _))) rfl ?_
          refine OpsW.det (det_loadW59 rfl (List.Mem.head _)) rfl ?_
          refine OpsW.det (det_call en39 rfl (fun w hb ho => PAdd_ok (fun p hp => ho.look (List.mem_append_right _ hp)))) rfl ?_
          refine OpsW.fresh (fr_alloc z59r) rfl fun b13 => ?_
          refine OpsW.storeW59 rfl rfl (Upd.here) ?_
          refine sNext ?_
          refine W.keep (F' := [(13, _), (12, _), (11, _)]) ⟨rfl, rfl, rfl, trivial⟩ ?_
          refine sSeq ?_
          refine W.draw mixed 38 [[], [0], [0, 1], [0, 1, 2], [0, 1, 2, 3], [0, 1, 2, 3, 4], [0, 1, 2, 3, 4, 5], [0, 1, 2, 3, 4, 5, 6], [0, 1, 2, 3, 4, 5, 6, 7], [0, 1, 2, 3, 4, 5, 6, 7, 8], [0, 1, 2, 3, 4, 5, 6, 7, 8, 9], [0, 1, 2, 3, 4, 5, 6, 7, 8, 9, 10], [0, 1, 2, 3, 4, 5, 6, 7, 8, 9, 10, 11], [0, 1, 2, 3, 4, 5, 6, 7, 8, 9, 10, 11, 12], [0, 1, 2, 3, 4, 5, 6, 7, 8, 9, 10, 11, 12, 13], [0, 1, 2, 3, 4, 5, 6, 7, 8, 9, 10, 11, 12, 13, 14], [0, 1, 2, 3, 4, 5, 6, 7, 8, 9, 10, 11, 12, 13, 14, 15], [0, 1, 2, 3, 4, 5, 6, 7, 8, 9, 10, 11, 12, 13, 14, 15], [0, 1, 2, 3, 4, 5, 6, 7, 8, 9, 10, 11, 12, 13, 14, 15], [0, 1, 2, 3, 4, 5, 6, 7, 8, 9, 10, 11, 12, 13, 14, 15, 18], [0, 1, 2, 3, 4, 5, 6, 7, 8, 9, 10, 11, 12, 13, 14, 15, 16, 17, 18, 19], [0, 1, 2, 3, 4, 5, 6, 7, 8, 9, 10, 11, 12, 13, 14, 15, 16, 17, 18, 19, 20], [0, 1, 2, 3, 4, 5, 6, 7, 8, 9, 10, 11, 12, 13, 14, 15, 16, 17, 18, 19, 20, 21], [0, 1, 2, 3, 4, 5, 6, 7, 8, 9, 10, 11, 12, 13, 14, 15, 16, 17, 18, 19, 20, 21, 22], [0, 1, 2, 3, 4, 5, 6, 7, 8, 9, 10, 11, 12, 13, 14, 15, 16, 17, 18, 19, 20, 21, 22], [0, 1, 2, 3, 4, 5, 6, 7, 8, 9, 10, 11, 12, 13, 14, 15, 16, 17, 18, 19, 20, 21, 22], [0, 1, 2, 3, 4, 5, 6, 7, 8, 9, 10, 11, 12, 13, 14, 15, 16, 17, 18, 19, 20, 21, 22, 24, 25], [0, 1, 2, 3, 4, 5, 6, 7, 8, 9, 10, 11, 12, 13, 14, 15, 16, 17, 18, 19, 20, 21, 22, 23, 24, 25, 26], [0, 1, 2, 3, 4, 5, 6, 7, 8, 9, 10, 11, 12, 13, 14, 15, 16, 17, 18, 19, 20, 21, 22, 23, 24, 25, 26, 27], [0, 1, 2, 3, 4, 5, 6, 7, 8, 9, 10, 11, 12, 13, 14, 15, 16, 17, 18, 19, 20, 21, 22, 23, 24, 25, 26, 27, 28], [0, 1, 2, 3, 4, 5, 6, 7, 8, 9, 10, 11, 12, 13, 14, 15, 16, 17, 18, 19, 20, 21, 22, 23, 24, 25, 26, 27, 28, 29], [0, 1, 2, 3, 4, 5, 6, 7, 8, 9, 10, 11, 12, 13, 14, 15, 16, 17, 18, 19, 20, 21, 22, 23, 24, 25, 26, 27, 28, 29], [0, 1, 2, 3, 4, 5, 6, 7, 8, 9, 10, 11, 12, 13, 14, 15, 16, 17, 18, 19, 20, 21, 22, 23, 24, 25, 26, 27, 28, 29, 30, 31], [0, 1, 2, 3, 4, 5, 6, 7, 8, 9, 10, 11, 12, 13, 14, 15, 16, 17, 18, 19, 20, 21, 22, 23, 24, 25, 26, 27, 28, 29, 30, 31, 32], [0, 1, 2, 3, 4, 5, 6, 7, 8, 9, 10, 11, 12, 13, 14, 15, 16, 17, 18, 19, 20, 21, 22, 23, 24, 25, 26, 27, 28, 29], [0, 1, 2, 3, 4, 5, 6, 7, 8, 9, 10, 11, 12, 13, 14, 15, 16, 17, 18, 19, 20, 21, 22, 23, 24, 25, 26, 27, 28, 29, 30, 31, 32, 33, 34], [0, 1, 2, 3, 4, 5, 6, 7, 8, 9, 10, 11, 12, 13, 14, 15, 16, 17, 18, 19, 20, 21, 22, 23, 24, 25, 26, 27, 28, 29, 30, 31, 32, 33, 34, 35], [0, 1, 2, 3, 4, 5, 6, 7, 8, 9, 10, 11, 12, 13, 14, 15, 16, 17, 18, 19, 20, 21, 22, 23, 24, 25, 26, 27, 28, 29, 30, 31, 32, 33, 34, 35, 36]] (cl_lt (by decide)) ?_
          refine HeadR.start (cl_lt (by decide)) ?_
          refine HeadR.det rfl (fun β hβ => (det_loadW59 rfl (List.Mem.tail _ (List.Mem.tail _ (List.Mem.head _))))) ?_
          refine HeadR.det rfl (fun β hβ => (Det.to (det_call en42 rfl (fun w hb ho => POn_ok (fun p hp => ho.look (List.mem_append_right _ hp)))) (congrArg Value.bool (hA.a1)))) ?_
          refine HeadR.det rfl (fun β hβ => (det_move rfl)) ?_
          refine HeadR.yes rfl rfl (fun _ _ => rfl) (fun β hβ => (det_loadW59 rfl (List.Mem.tail _ (List.Mem.head _)))) ?_
          refine HeadR.yes rfl rfl (fun _ _ => rfl) (fun β hβ => (Det.to (det_call en42 rfl (fun w hb ho => POn_ok (fun p hp => ho.look (List.mem_append_right _ hp)))) (congrArg Value.bool (hA.a2)))) ?_
          refine HeadR.det rfl (fun β hβ => (det_pick rfl rfl)) ?_
          refine HeadR.det rfl (fun β hβ => (det_move rfl)) ?_
          refine HeadR.yes rfl rfl (fun _ _ => rfl) (fun β hβ => (det_loadW59 rfl (List.Mem.head _))) ?_
          refine HeadR.yes rfl rfl (fun _ _ => rfl) (fun β hβ => (Det.to (det_call en42 rfl (fun w hb ho => POn_ok (fun p hp => ho.look (List.mem_append_right _ hp)))) (congrArg Value.bool (hA.a3)))) ?_
          refine HeadR.det rfl (fun β hβ => (det_pick rfl rfl)) ?_
          refine HeadR.det rfl (fun β hβ => (det_move rfl)) ?_
          refine HeadR.yes rfl rfl (fun _ _ => rfl) (fun β hβ => (det_loadW59 rfl (List.Mem.head _))) ?_
          refine HeadR.yes rfl rfl (fun _ _ => rfl) (fun β hβ => (det_call en41 rfl (fun w hb ho => PNeg_ok (fun p hp => ho.look (List.mem_append_right _ hp))))) ?_
          refine HeadR.yes rfl rfl (fun _ _ => rfl) (fun β hβ => (Det.to (det_call en42 rfl (fun w hb ho => POn_ok (fun p hp => ho.look (List.mem_append_right _ hp)))) (congrArg Value.bool (hA.a4)))) ?_
          refine HeadR.det rfl (fun β hβ => (det_pick rfl rfl)) ?_
          refine HeadR.det rfl (fun β hβ => (det_move rfl)) ?_
          refine HeadR.yes rfl rfl (fun _ _ => rfl) (fun β hβ => (det_loadW59 rfl (List.Mem.tail _ (List.Mem.tail _ (List.Mem.head _))))) ?_
          refine HeadR.yes rfl rfl (fun _ _ => rfl) (fun β hβ => (det_loadW59 rfl (List.Mem.tail _ (List.Mem.head _)))) ?_
          refine HeadR.yes rfl rfl (fun _ _ => rfl) (fun β hβ => (det_loadW59 rfl (List.Mem.head _))) ?_
          refine HeadR.yes rfl rfl (fun _ _ => rfl) (fun β hβ => (det_call en41 rfl (fun w hb ho => PNeg_ok (fun p hp => ho.look (List.mem_append_right _ hp))))) ?_
          refine HeadR.yes rfl rfl (fun _ _ => rfl) (fun β hβ => (Det.to (det_call en46 rfl (fun w hb ho => hA.a5 _ (fun p hp => ho.look (List.mem_append_right _ hp)))) (congrArg Value.bool (rfl)))) ?_
          refine HeadR.det rfl (fun β hβ => (det_pick rfl rfl)) ?_
          refine HeadR.det rfl (fun β hβ => (det_move rfl)) ?_
          refine HeadR.yes rfl rfl (fun _ _ => rfl) (fun β hβ => (det_loadW59 rfl (List.Mem.head _))) ?_
          refine HeadR.yes rfl rfl (fun _ _ => rfl) (fun β hβ => (det_loadW59 rfl (List.Mem.tail _ (List.Mem.head _)))) ?_
          refine HeadR.yes rfl rfl (fun _ _ => rfl) (fun β hβ => (det_loadW59 rfl (List.Mem.tail _ (List.Mem.tail _ (List.Mem.head _))))) ?_
          refine HeadR.yes rfl rfl (fun _ _ => rfl) (fun β hβ => (det_call en39 rfl (fun w hb ho => PAdd_ok (fun p hp => ho.look (List.mem_append_right _ hp))))) ?_
          refine HeadR.yes rfl rfl (fun _ _ => rfl) (fun β hβ => (Det.to (det_eql59 rfl rfl) (congrArg Value.bool (yb hA.a6.symm.symm)))) ?_
          refine HeadR.det rfl (fun β hβ => (det_pick rfl rfl)) ?_
          refine HeadR.det rfl (fun β hβ => (det_move rfl)) ?_
          refine HeadR.yes rfl rfl (fun _ _ => rfl) (fun β hβ => (det_loadW59 rfl (List.Mem.tail _ (List.Mem.tail _ (List.Mem.head _))))) ?_
          refine HeadR.yes rfl rfl (fun _ _ => rfl) (fun β hβ => (det_loadW59 rfl (List.Mem.tail _ (List.Mem.head _)))) ?_
          refine HeadR.yesFresh rfl rfl (fun _ _ => rfl) (fun β hβ => (fr_buildSlice rfl (slice64b (p := (wild n)) (q := (gp lb)))).new) ?_
          refine HeadR.yes rfl rfl (fun _ _ => rfl) (fun β hβ => (det_call en40 rfl (fun w hb ho => PSum_ok (G' := [((β 84).1, blk (cellsP (wild n) ++ cellsP (gp lb)) 59)]) pts2 (by show 2 ≤ 1000000000000; decide) (blocks_cons (hb _ (List.Mem.head _)) (fun p hp => ho.look (List.mem_append_right _ hp)))))) ?_
          refine HeadR.yes rfl rfl (fun _ _ => rfl) (fun β hβ => (det_loadW59 rfl (List.Mem.head _))) ?_
          refine HeadR.yes rfl rfl (fun _ _ => rfl) (fun β hβ => (Det.to (det_eql59 rfl rfl) (congrArg Value.bool (yb hA.a7)))) ?_
          refine HeadR.det rfl (fun β hβ => (det_pick rfl rfl)) ?_
          refine HeadR.det rfl (fun β hβ => (det_assign rfl)) ?_
          refine HeadR.done ⟨by kernel_rfl, fun β hβ => ?_⟩
          refine OpsW.norm (F' := ((52, _) :: (53, _) :: (54, _) :: (55, _) :: (56, _) :: (57, _) :: (58, _) :: (59, _) :: (60, _) :: (61, _) :: (62, _) :: (63, _) :: (64, _) :: (65, _) :: (66, _) :: (67, _) :: (68, _) :: (69, _) :: (70, _) :: (71, _) :: (72, _) :: (73, _) :: (74, _) :: (75, _) :: (76, _) :: (77, _) :: (78, _) :: (79, _) :: (80, _) :: (81, _) :: (82, _) :: (83, _) :: (84, .slice (some ⟨(β 84).1, 0, none⟩) 2 2) :: (85, _) :: (86, _) :: (87, _) :: (88, _) :: (10, _) :: (13, _) :: (12, _) :: (11, _) :: [])) (H' := [(_, _), (_, _), (_, _), (_, _)]) rfl rfl ?_
          generalize (β 84).1 = b84
          refine sNext ?_
          refine W.keep (F' := [(10, _)]) ⟨rfl, trivial⟩ ?_
          refine sRet ?_
          exact done1 Tryd.results13 (rv_tmp rfl) rfl
        · skip
          refine sSeq ?_
          refine W.region ?_
          refine OpsW.det (det_eql rfl rfl) rfl ?_
          refine OpsW.det (det_assign rfl) rfl ?_
          refine sNext ?_
          refine W.keep (F' := [(40, _), (28, _), (12, _), (11, _), (2, _), (3, _)]) ⟨rfl, rfl, rfl, rfl, rfl, rfl, trivial⟩ ?_
          refine W.cond rfl (fun hc40 => ?_) (fun hc40 => ?_)
          · skip
            have hA := hr (wild n) (wild m) hn0 hm0
            refine sSeq ?_
            refine W.region ?_
            refine OpsW.det (det_move rfl) rfl ?_
            refine OpsW.det (det_call en44 rfl (fun w hb ho => wild_ok hn (fun p hp => ho.look (List.mem_append_right _ hp)))) rfl ?_
            refine OpsW.storeW59 rfl rfl (Upd.there (Upd.here)) ?_
            refine sNext ?_
            refine W.keep (F' := [(12, _), (11, _), (3, _)]) ⟨rfl, rfl, rfl, trivial⟩ ?_
            refine W.region ?_
            refine OpsW.det (det_move rfl) rfl ?_
            refine OpsW.det (det_call en44 rfl (fun w hb ho => wild_ok hm (fun p hp => ho.look (List.mem_append_right _ hp)))) rfl ?_
            refine OpsW.storeW59 rfl rfl (Upd.here) ?_
            refine sLast ?_
            refine bNext ?_
            refine W.keep (F' := [(12, _), (11, _)]) ⟨rfl, rfl, trivial⟩ ?_
            refine sSeq ?_
            refine W.region ?_
            refine OpsW.det (det_loadW59 rfl (List.Mem.tail _ (List.Mem.head _))) rfl ?_
            refine OpsW.det (det_loadW59 rfl (List.Mem.head _)) rfl ?_
            refine OpsW.det (det_call en39 rfl (fun w hb ho => PAdd_ok (fun p hp => ho.look (List.mem_append_right _ hp)))) rfl ?_
            refine OpsW.fresh (fr_alloc z59r) rfl fun b13 => ?_
            refine OpsW.storeW59 rfl rfl (Upd.here) ?_
            refine sNext ?_
            refine W.keep (F' := [(13, _), (12, _), (11, _)]) ⟨rfl, rfl, rfl, trivial⟩ ?_
            refine sSeq ?_
            refine W.draw mixed 38 [[], [0], [0, 1], [0, 1, 2], [0, 1, 2, 3], [0, 1, 2, 3, 4], [0, 1, 2, 3, 4, 5], [0, 1, 2, 3, 4, 5, 6], [0, 1, 2, 3, 4, 5, 6, 7], [0, 1, 2, 3, 4, 5, 6, 7, 8], [0, 1, 2, 3, 4, 5, 6, 7, 8, 9], [0, 1, 2, 3, 4, 5, 6, 7, 8, 9, 10], [0, 1, 2, 3, 4, 5, 6, 7, 8, 9, 10, 11], [0, 1, 2, 3, 4, 5, 6, 7, 8, 9, 10, 11, 12], [0, 1, 2, 3, 4, 5, 6, 7, 8, 9, 10, 11, 12, 13], [0, 1, 2, 3, 4, 5, 6, 7, 8, 9, 10, 11, 12, 13, 14], [0, 1, 2, 3, 4, 5, 6, 7, 8, 9, 10, 11, 12, 13, 14, 15], [0, 1, 2, 3, 4, 5, 6, 7, 8, 9, 10, 11, 12, 13, 14, 15], [0, 1, 2, 3, 4, 5, 6, 7, 8, 9, 10, 11, 12, 13, 14, 15], [0, 1, 2, 3, 4, 5, 6, 7, 8, 9, 10, 11, 12, 13, 14, 15, 18], [0, 1, 2, 3, 4, 5, 6, 7, 8, 9, 10, 11, 12, 13, 14, 15, 16, 17, 18, 19], [0, 1, 2, 3, 4, 5, 6, 7, 8, 9, 10, 11, 12, 13, 14, 15, 16, 17, 18, 19, 20], [0, 1, 2, 3, 4, 5, 6, 7, 8, 9, 10, 11, 12, 13, 14, 15, 16, 17, 18, 19, 20, 21], [0, 1, 2, 3, 4, 5, 6, 7, 8, 9, 10, 11, 12, 13, 14, 15, 16, 17, 18, 19, 20, 21, 22], [0, 1, 2, 3, 4, 5, 6, 7, 8, 9, 10, 11, 12, 13, 14, 15, 16, 17, 18, 19, 20, 21, 22], [0, 1, 2, 3, 4, 5, 6, 7, 8, 9, 10, 11, 12, 13, 14, 15, 16, 17, 18, 19, 20, 21, 22], [0, 1, 2, 3, 4, 5, 6, 7, 8, 9, 10, 11, 12, 13, 14, 15, 16, 17, 18, 19, 20, 21, 22, 24, 25], [0, 1, 2, 3, 4, 5, 6, 7, 8, 9, 10, 11, 12, 13, 14, 15, 16, 17, 18, 19, 20, 21, 22, 23, 24, 25, 26], [0, 1, 2, 3, 4, 5, 6, 7, 8, 9, 10, 11, 12, 13, 14, 15, 16, 17, 18, 19, 20, 21, 22, 23, 24, 25, 26, 27], [0, 1, 2, 3, 4, 5, 6, 7, 8, 9, 10, 11, 12, 13, 14, 15, 16, 17, 18, 19, 20, 21, 22, 23, 24, 25, 26, 27, 28], [0, 1, 2, 3, 4, 5, 6, 7, 8, 9, 10, 11, 12, 13, 14, 15, 16, 17, 18, 19, 20, 21, 22, 23, 24, 25, 26, 27, 28, 29], [0, 1, 2, 3, 4, 5, 6, 7, 8, 9, 10, 11, 12, 13, 14, 15, 16, 17, 18, 19, 20, 21, 22, 23, 24, 25, 26, 27, 28, 29], [0, 1, 2, 3, 4, 5, 6, 7, 8, 9, 10, 11, 12, 13, 14, 15, 16, 17, 18, 19, 20, 21, 22, 23, 24, 25, 26, 27, 28, 29, 30, 31], [0, 1, 2, 3, 4, 5, 6, 7, 8, 9, 10, 11, 12, 13, 14, 15, 16, 17, 18, 19, 20, 21, 22, 23, 24, 25, 26, 27, 28, 29, 30, 31, 32], [0, 1, 2, 3, 4, 5, 6, 7, 8, 9, 10, 11, 12, 13, 14, 15, 16, 17, 18, 19, 20, 21, 22, 23, 24, 25, 26, 27, 28, 29], [0, 1, 2, 3, 4, 5, 6, 7, 8, 9, 10, 11, 12, 13, 14, 15, 16, 17, 18, 19, 20, 21, 22, 23, 24, 25, 26, 27, 28, 29, 30, 31, 32, 33, 34], [0, 1, 2, 3, 4, 5, 6, 7, 8, 9, 10, 11, 12, 13, 14, 15, 16, 17, 18, 19, 20, 21, 22, 23, 24, 25, 26, 27, 28, 29, 30, 31, 32, 33, 34, 35], [0, 1, 2, 3, 4, 5, 6, 7, 8, 9, 10, 11, 12, 13, 14, 15, 16, 17, 18, 19, 20, 21, 22, 23, 24, 25, 26, 27, 28, 29, 30, 31, 32, 33, 34, 35, 36]] (cl_lt (by decide)) ?_
            refine HeadR.start (cl_lt (by decide)) ?_
            refine HeadR.det rfl (fun β hβ => (det_loadW59 rfl (List.Mem.tail _ (List.Mem.tail _ (List.Mem.head _))))) ?_
            refine HeadR.det rfl (fun β hβ => (Det.to (det_call en42 rfl (fun w hb ho => POn_ok (fun p hp => ho.look (List.mem_append_right _ hp)))) (congrArg Value.bool (hA.a1)))) ?_
            refine HeadR.det rfl (fun β hβ => (det_move rfl)) ?_
            refine HeadR.yes rfl rfl (fun _ _ => rfl) (fun β hβ => (det_loadW59 rfl (List.Mem.tail _ (List.Mem.head _)))) ?_
            refine HeadR.yes rfl rfl (fun _ _ => rfl) (fun β hβ => (Det.to (det_call en42 rfl (fun w hb ho => POn_ok (fun p hp => ho.look (List.mem_append_right _ hp)))) (congrArg Value.bool (hA.a2)))) ?_
            refine HeadR.det rfl (fun β hβ => (det_pick rfl rfl)) ?_
            refine HeadR.det rfl (fun β hβ => (det_move rfl)) ?_
            refine HeadR.yes rfl rfl (fun _ _ => rfl) (fun β hβ => (det_loadW59 rfl (List.Mem.head _))) ?_
            refine HeadR.yes rfl rfl (fun _ _ => rfl) (fun β hβ => (Det.to (det_call en42 rfl (fun w hb ho => POn_ok (fun p hp => ho.look (List.mem_append_right _ hp)))) (congrArg Value.bool (hA.a3)))) ?_
            refine HeadR.det rfl (fun β hβ => (det_pick rfl rfl)) ?_
            refine HeadR.det rfl (fun β hβ => (det_move rfl)) ?_
            refine HeadR.yes rfl rfl (fun _ _ => rfl) (fun β hβ => (det_loadW59 rfl (List.Mem.head _))) ?_
            refine HeadR.yes rfl rfl (fun _ _ => rfl) (fun β hβ => (det_call en41 rfl (fun w hb ho => PNeg_ok (fun p hp => ho.look (List.mem_append_right _ hp))))) ?_
            refine HeadR.yes rfl rfl (fun _ _ => rfl) (fun β hβ => (Det.to (det_call en42 rfl (fun w hb ho => POn_ok (fun p hp => ho.look (List.mem_append_right _ hp)))) (congrArg Value.bool (hA.a4)))) ?_
            refine HeadR.det rfl (fun β hβ => (det_pick rfl rfl)) ?_
            refine HeadR.det rfl (fun β hβ => (det_move rfl)) ?_
            refine HeadR.yes rfl rfl (fun _ _ => rfl) (fun β hβ => (det_loadW59 rfl (List.Mem.tail _ (List.Mem.tail _ (List.Mem.head _))))) ?_
            refine HeadR.yes rfl rfl (fun _ _ => rfl) (fun β hβ => (det_loadW59 rfl (List.Mem.tail _ (List.Mem.head _)))) ?_
            refine HeadR.yes rfl rfl (fun _ _ => rfl) (fun β hβ => (det_loadW59 rfl (List.Mem.head _))) ?_
            refine HeadR.yes rfl rfl (fun _ _ => rfl) (fun β hβ => (det_call en41 rfl (fun w hb ho => PNeg_ok (fun p hp => ho.look (List.mem_append_right _ hp))))) ?_
            refine HeadR.yes rfl rfl (fun _ _ => rfl) (fun β hβ => (Det.to (det_call en46 rfl (fun w hb ho => hA.a5 _ (fun p hp => ho.look (List.mem_append_right _ hp)))) (congrArg Value.bool (rfl)))) ?_
            refine HeadR.det rfl (fun β hβ => (det_pick rfl rfl)) ?_
            refine HeadR.det rfl (fun β hβ => (det_move rfl)) ?_
            refine HeadR.yes rfl rfl (fun _ _ => rfl) (fun β hβ => (det_loadW59 rfl (List.Mem.head _))) ?_
            refine HeadR.yes rfl rfl (fun _ _ => rfl) (fun β hβ => (det_loadW59 rfl (List.Mem.tail _ (List.Mem.head _)))) ?_
            refine HeadR.yes rfl rfl (fun _ _ => rfl) (fun β hβ => (det_loadW59 rfl (List.Mem.tail _ (List.Mem.tail _ (List.Mem.head _))))) ?_
            refine HeadR.yes rfl rfl (fun _ _ => rfl) (fun β hβ => (det_call en39 rfl (fun w hb ho => PAdd_ok (fun p hp => ho.look (List.mem_append_right _ hp))))) ?_
            refine HeadR.yes rfl rfl (fun _ _ => rfl) (fun β hβ => (Det.to (det_eql59 rfl rfl) (congrArg Value.bool (yb hA.a6.symm.symm)))) ?_
            refine HeadR.det rfl (fun β hβ => (det_pick rfl rfl)) ?_
            refine HeadR.det rfl (fun β hβ => (det_move rfl)) ?_
            refine HeadR.yes rfl rfl (fun _ _ => rfl) (fun β hβ => (det_loadW59 rfl (List.Mem.tail _ (List.Mem.tail _ (List.Mem.head _))))) ?_
            refine HeadR.yes rfl rfl (fun _ _ => rfl) (fun β hβ => (det_loadW59 rfl (List.Mem.tail _ (List.Mem.head _)))) ?_
            refine HeadR.yesFresh rfl rfl (fun _ _ => rfl) (fun β hβ => (fr_buildSlice rfl (slice64b (p := (wild n)) (q := (wild m)))).new) ?_
            refine HeadR.yes rfl rfl (fun _ _ => rfl) (fun β hβ => (det_call en40 rfl (fun w hb ho => PSum_ok (G' := [((β 84).1, blk (cellsP (wild n) ++ cellsP (wild m)) 59)]) pts2 (by show 2 ≤ 1000000000000; decide) (blocks_cons (hb _ (List.Mem.head _)) (fun p hp => ho.look (List.mem_append_right _ hp)))))) ?_
            refine HeadR.yes rfl rfl (fun _ _ => rfl) (fun β hβ => (det_loadW59 rfl (List.Mem.head _))) ?_
            refine HeadR.yes rfl rfl (fun _ _ => rfl) (fun β hβ => (Det.to (det_eql59 rfl rfl) (congrArg Value.bool (yb hA.a7)))) ?_
            refine HeadR.det rfl (fun β hβ => (det_pick rfl rfl)) ?_
            refine HeadR.det rfl (fun β hβ => (det_assign rfl)) ?_
            refine HeadR.done ⟨by kernel_rfl, fun β hβ => ?_⟩
            refine OpsW.norm (F' := ((52, _) :: (53, _) :: (54, _) :: (55, _) :: (56, _) :: (57, _) :: (58, _) :: (59, _) :: (60, _) :: (61, _) :: (62, _) :: (63, _) :: (64, _) :: (65, _) :: (66, _) :: (67, _) :: (68, _) :: (69, _) :: (70, _) :: (71, _) :: (72, _) :: (73, _) :: (74, _) :: (75, _) :: (76, _) :: (77, _) :: (78, _) :: (79, _) :: (80, _) :: (81, _) :: (82, _) :: (83, _) :: (84, .slice (some ⟨(β 84).1, 0, none⟩) 2 2) :: (85, _) :: (86, _) :: (87, _) :: (88, _) :: (10, _) :: (13, _) :: (12, _) :: (11, _) :: [])) (H' := [(_, _), (_, _), (_, _), (_, _)]) rfl rfl ?_
            generalize (β 84).1 = b84
            refine sNext ?_
            refine W.keep (F' := [(10, _)]) ⟨rfl, trivial⟩ ?_
            refine sRet ?_
            exact done1 Tryd.results13 (rv_tmp rfl) rfl
          · skip
            refine sSeq ?_
            refine W.region ?_
            refine OpsW.det (det_eql rfl rfl) rfl ?_
            refine OpsW.det (det_assign rfl) rfl ?_
            refine sNext ?_
            refine W.keep (F' := [(46, _), (12, _), (11, _)]) ⟨rfl, rfl, rfl, trivial⟩ ?_
            refine W.cond rfl (fun hc46 => ?_) (fun hc46 => ?_)
            · skip
              have hA := hr ((0, 0) : Pt) (gp lb) ho_z hb0
              refine W.region ?_
              refine OpsW.det (det_zero bz59) rfl ?_
              refine OpsW.storeW59 rfl rfl (Upd.there (Upd.here)) ?_
              refine sLast ?_
              refine bNext ?_
              refine W.keep (F' := [(12, _), (11, _)]) ⟨rfl, rfl, trivial⟩ ?_
              refine sSeq ?_
              refine W.region ?_
              refine OpsW.det (det_loadW59 rfl (List.Mem.tail _ (List.Mem.head _))) rfl ?_
              refine OpsW.det (det_loadW59 rfl (List.Mem.head _)) rfl ?_
              refine OpsW.det (det_call en39 rfl (fun w hb ho => PAdd_ok (fun p hp => ho.look (List.mem_append_right _ hp)))) rfl ?_
              refine OpsW.fresh (fr_alloc z59r) rfl fun b13 => ?_
              refine OpsW.storeW59 rfl rfl (Upd.here) ?_
              refine sNext ?_
              refine W.keep (F' := [(13, _), (12, _), (11, _)]) ⟨rfl, rfl, rfl, trivial⟩ ?_
              refine sSeq ?_
              refine W.draw mixed 38 [[], [0], [0, 1], [0, 1, 2], [0, 1, 2, 3], [0, 1, 2, 3, 4], [0, 1, 2, 3, 4, 5], [0, 1, 2, 3, 4, 5, 6], [0, 1, 2, 3, 4, 5, 6, 7], [0, 1, 2, 3, 4, 5, 6, 7, 8], [0, 1, 2, 3, 4, 5, 6, 7, 8, 9], [0, 1, 2, 3, 4, 5, 6, 7, 8, 9, 10], [0, 1, 2, 3, 4, 5, 6, 7, 8, 9, 10, 11], [0, 1, 2, 3, 4, 5, 6, 7, 8, 9, 10, 11, 12], [0, 1, 2, 3, 4, 5, 6, 7, 8, 9, 10, 11, 12, 13], [0, 1, 2, 3, 4, 5, 6, 7, 8, 9, 10, 11, 12, 13, 14], [0, 1, 2, 3, 4, 5, 6, 7, 8, 9, 10, 11, 12, 13, 14, 15], [0, 1, 2, 3, 4, 5, 6, 7, 8, 9, 10, 11, 12, 13, 14, 15], [0, 1, 2, 3, 4, 5, 6, 7, 8, 9, 10, 11, 12, 13, 14, 15], [0, 1, 2, 3, 4, 5, 6, 7, 8, 9, 10, 11, 12, 13, 14, 15, 18], [0, 1, 2, 3, 4, 5, 6, 7, 8, 9, 10, 11, 12, 13, 14, 15, 16, 17, 18, 19], [0, 1, 2, 3, 4, 5, 6, 7, 8, 9, 10, 11, 12, 13, 14, 15, 16, 17, 18, 19, 20], [0, 1, 2, 3, 4, 5, 6, 7, 8, 9, 10, 11, 12, 13, 14, 15, 16, 17, 18, 19, 20, 21], [0, 1, 2, 3, 4, 5, 6, 7, 8, 9, 10, 11, 12, 13, 14, 15, 16, 17, 18, 19, 20, 21, 22], [0, 1, 2, 3, 4, 5, 6, 7, 8, 9, 10, 11, 12, 13, 14, 15, 16, 17, 18, 19, 20, 21, 22], [0, 1, 2, 3, 4, 5, 6, 7, 8, 9, 10, 11, 12, 13, 14, 15, 16, 17, 18, 19, 20, 21, 22], [0, 1, 2, 3, 4, 5, 6, 7, 8, 9, 10, 11, 12, 13, 14, 15, 16, 17, 18, 19, 20, 21, 22, 24, 25], [0, 1, 2, 3, 4, 5, 6, 7, 8, 9, 10, 11, 12, 13, 14, 15, 16, 17, 18, 19, 20, 21, 22, 23, 24, 25, 26], [0, 1, 2, 3, 4, 5, 6, 7, 8, 9, 10, 11, 12, 13, 14, 15, 16, 17, 18, 19, 20, 21, 22, 23, 24, 25, 26, 27], [0, 1, 2, 3, 4, 5, 6, 7, 8, 9, 10, 11, 12, 13, 14, 15, 16, 17, 18, 19, 20, 21, 22, 23, 24, 25, 26, 27, 28], [0, 1, 2, 3, 4, 5, 6, 7, 8, 9, 10, 11, 12, 13, 14, 15, 16, 17, 18, 19, 20, 21, 22, 23, 24, 25, 26, 27, 28, 29], [0, 1, 2, 3, 4, 5, 6, 7, 8, 9, 10, 11, 12, 13, 14, 15, 16, 17, 18, 19, 20, 21, 22, 23, 24, 25, 26, 27, 28, 29], [0, 1, 2, 3, 4, 5, 6, 7, 8, 9, 10, 11, 12, 13, 14, 15, 16, 17, 18, 19, 20, 21, 22, 23, 24, 25, 26, 27, 28, 29, 30, 31], [0, 1, 2, 3, 4, 5, 6, 7, 8, 9, 10, 11, 12, 13, 14, 15, 16, 17, 18, 19, 20, 21, 22, 23, 24, 25, 26, 27, 28, 29, 30, 31, 32], [0, 1, 2, 3, 4, 5, 6, 7, 8, 9, 10, 11, 12, 13, 14, 15, 16, 17, 18, 19, 20, 21, 22, 23, 24, 25, 26, 27, 28, 29], [0, 1, 2, 3, 4, 5, 6, 7, 8, 9, 10, 11, 12, 13, 14, 15, 16, 17, 18, 19, 20, 21, 22, 23, 24, 25, 26, 27, 28, 29, 30, 31, 32, 33, 34], [0, 1, 2, 3, 4, 5, 6, 7, 8, 9, 10, 11, 12, 13, 14, 15, 16, 17, 18, 19, 20, 21, 22, 23, 24, 25, 26, 27, 28, 29, 30, 31, 32, 33, 34, 35], [0, 1, 2, 3, 4, 5, 6, 7, 8, 9, 10, 11, 12, 13, 14, 15, 16, 17, 18, 19, 20, 21, 22, 23, 24, 25, 26, 27, 28, 29, 30, 31, 32, 33, 34, 35, 36]] (cl_lt (by decide)) ?_
              refine HeadR.start (cl_lt (by decide)) ?_
              refine HeadR.det rfl (fun β hβ => (det_loadW59 rfl (List.Mem.tail _ (List.Mem.tail _ (List.Mem.head _))))) ?_
              refine HeadR.det rfl (fun β hβ => (Det.to (det_call en42 rfl (fun w hb ho => POn_ok (fun p hp => ho.look (List.mem_append_right _ hp)))) (congrArg Value.bool (hA.a1)))) ?_
              refine HeadR.det rfl (fun β hβ => (det_move rfl)) ?_
              refine HeadR.yes rfl rfl (fun _ _ => rfl) (fun β hβ => (det_loadW59 rfl (List.Mem.tail _ (List.Mem.head _)))) ?_
              refine HeadR.yes rfl rfl (fun _ _ => rfl) (fun β hβ => (Det.to (det_call en42 rfl (fun w hb ho => POn_ok (fun p hp => ho.look (List.mem_append_right _ hp)))) (congrArg Value.bool (hA.a2)))) ?_
              refine HeadR.det rfl (fun β hβ => (det_pick rfl rfl)) ?_
              refine HeadR.det rfl (fun β hβ => (det_move rfl)) ?_
              refine HeadR.yes rfl rfl (fun _ _ => rfl) (fun β hβ => (det_loadW59 rfl (List.Mem.head _))) ?_
              refine HeadR.yes rfl rfl (fun _ _ => rfl) (fun β hβ => (Det.to (det_call en42 rfl (fun w hb ho => POn_ok (fun p hp => ho.look (List.mem_append_right _ hp)))) (congrArg Value.bool (hA.a3)))) ?_
              refine HeadR.det rfl (fun β hβ => (det_pick rfl rfl)) ?_
              refine HeadR.det rfl (fun β hβ => (det_move rfl)) ?_
              refine HeadR.yes rfl rfl (fun _ _ => rfl) (fun β hβ => (det_loadW59 rfl (List.Mem.head _))) ?_
              refine HeadR.yes rfl rfl (fun _ _ => rfl) (fun β hβ => (det_call en41 rfl (fun w hb ho => PNeg_ok (fun p hp => ho.look (List.mem_append_right _ hp))))) ?_
              refine HeadR.yes rfl rfl (fun _ _ => rfl) (fun β hβ => (Det.to (det_call en42 rfl (fun w hb ho => POn_ok (fun p hp => ho.look (List.mem_append_right _ hp)))) (congrArg Value.bool (hA.a4)))) ?_
              refine HeadR.det rfl (fun β hβ => (det_pick rfl rfl)) ?_
              refine HeadR.det rfl (fun β hβ => (det_move rfl)) ?_
              refine HeadR.yes rfl rfl (fun _ _ => rfl) (fun β hβ => (det_loadW59 rfl (List.Mem.tail _ (List.Mem.tail _ (List.Mem.head _))))) ?_
              refine HeadR.yes rfl rfl (fun _ _ => rfl) (fun β hβ => (det_loadW59 rfl (List.Mem.tail _ (List.Mem.head _)))) ?_
              refine HeadR.yes rfl rfl (fun _ _ => rfl) (fun β hβ => (det_loadW59 rfl (List.Mem.head _))) ?_
              refine HeadR.yes rfl rfl (fun _ _ => rfl) (fun β hβ => (det_call en41 rfl (fun w hb ho => PNeg_ok (fun p hp => ho.look (List.mem_append_right _ hp))))) ?_
              refine HeadR.yes rfl rfl (fun _ _ => rfl) (fun β hβ => (Det.to (det_call en46 rfl (fun w hb ho => hA.a5 _ (fun p hp => ho.look (List.mem_append_right _ hp)))) (congrArg Value.bool (rfl)))) ?_
              refine HeadR.det rfl (fun β hβ => (det_pick rfl rfl)) ?_
              refine HeadR.det rfl (fun β hβ => (det_move rfl)) ?_
              refine HeadR.yes rfl rfl (fun _ _ => rfl) (fun β hβ => (det_loadW59 rfl (List.Mem.head _))) ?_
              refine HeadR.yes rfl rfl (fun _ _ => rfl) (fun β hβ => (det_loadW59 rfl (List.Mem.tail _ (List.Mem.head _)))) ?_
              refine HeadR.yes rfl rfl (fun _ _ => rfl) (fun β hβ => (det_loadW59 rfl (List.Mem.tail _ (List.Mem.tail _ (List.Mem.head _))))) ?_
              refine HeadR.yes rfl rfl (fun _ _ => rfl) (fun β hβ => (det_call en39 rfl (fun w hb ho => PAdd_ok (fun p hp => ho.look (List.mem_append_right _ hp))))) ?_
              refine HeadR.yes rfl rfl (fun _ _ => rfl) (fun β hβ => (Det.to (det_eql59 rfl rfl) (congrArg Value.bool (yb hA.a6.symm.symm)))) ?_
              refine HeadR.det rfl (fun β hβ => (det_pick rfl rfl)) ?_
              refine HeadR.det rfl (fun β hβ => (det_move rfl)) ?_
              refine HeadR.yes rfl rfl (fun _ _ => rfl) (fun β hβ => (det_loadW59 rfl (List.Mem.tail _ (List.Mem.tail _ (List.Mem.head _))))) ?_
              refine HeadR.yes rfl rfl (fun _ _ => rfl) (fun β hβ => (det_loadW59 rfl (List.Mem.tail _ (List.Mem.head _)))) ?_
              refine HeadR.yesFresh rfl rfl (fun _ _ => rfl) (fun β hβ => (fr_buildSlice rfl (slice64b (p := ((0, 0) : Pt)) (q := (gp lb)))).new) ?_
              refine HeadR.yes rfl rfl (fun _ _ => rfl) (fun β hβ => (det_call en40 rfl (fun w hb ho => PSum_ok (G' := [((β 84).1, blk (cellsP ((0, 0) : Pt) ++ cellsP (gp lb)) 59)]) pts2 (by show 2 ≤ 1000000000000; decide) (blocks_cons (hb _ (List.Mem.head _)) (fun p hp => ho.look (List.mem_append_right _ hp)))))) ?_
              refine HeadR.yes rfl rfl (fun _ _ => rfl) (fun β hβ => (det_loadW59 rfl (List.Mem.head _))) ?_
              refine HeadR.yes rfl rfl (fun _ _ => rfl) (fun β hβ => (Det.to (det_eql59 rfl rfl) (congrArg Value.bool (yb hA.a7)))) ?_
              refine HeadR.det rfl (fun β hβ => (det_pick rfl rfl)) ?_
              refine HeadR.det rfl (fun β hβ => (det_assign rfl)) ?_
              refine HeadR.done ⟨by kernel_rfl, fun β hβ => ?_⟩
              refine OpsW.norm (F' := ((52, _) :: (53, _) :: (54, _) :: (55, _) :: (56, _) :: (57, _) :: (58, _) :: (59, _) :: (60, _) :: (61, _) :: (62, _) :: (63, _) :: (64, _) :: (65, _) :: (66, _) :: (67, _) :: (68, _) :: (69, _) :: (70, _) :: (71, _) :: (72, _) :: (73, _) :: (74, _) :: (75, _) :: (76, _) :: (77, _) :: (78, _) :: (79, _) :: (80, _) :: (81, _) :: (82, _) :: (83, _) :: (84, .slice (some ⟨(β 84).1, 0, none⟩) 2 2) :: (85, _) :: (86, _) :: (87, _) :: (88, _) :: (10, _) :: (13, _) :: (12, _) :: (11, _) :: [])) (H' := [(_, _), (_, _), (_, _), (_, _)]) rfl rfl ?_
              generalize (β 84).1 = b84
              refine sNext ?_
              refine W.keep (F' := [(10, _)]) ⟨rfl, trivial⟩ ?_
              refine sRet ?_
              exact done1 Tryd.results13 (rv_tmp rfl) rfl
            · skip
              have hA := hr (gp la) (gp lb) ha0 hb0
              refine sSkip0 ?_
              refine bNext ?_
              refine W.keep (F' := [(12, _), (11, _)]) ⟨rfl, rfl, trivial⟩ ?_
              refine sSeq ?_
              refine W.region ?_
              refine OpsW.det (det_loadW59 rfl (List.Mem.tail _ (List.Mem.head _))) rfl ?_
              refine OpsW.det (det_loadW59 rfl (List.Mem.head _)) rfl ?_
              refine OpsW.det (det_call en39 rfl (fun w hb ho => PAdd_ok (fun p hp => ho.look (List.mem_append_right _ hp)))) rfl ?_
              refine OpsW.fresh (fr_alloc z59r) rfl fun b13 => ?_
              refine OpsW.storeW59 rfl rfl (Upd.here) ?_
              refine sNext ?_
              refine W.keep (F' := [(13, _), (12, _), (11, _)]) ⟨rfl, rfl, rfl, trivial⟩ ?_
              refine sSeq ?_
              refine W.draw mixed 38 [[], [0], [0, 1], [0, 1, 2], [0, 1, 2, 3], [0, 1, 2, 3, 4], [0, 1, 2, 3, 4, 5], [0, 1, 2, 3, 4, 5, 6], [0, 1, 2, 3, 4, 5, 6, 7], [0, 1, 2, 3, 4, 5, 6, 7, 8], [0, 1, 2, 3, 4, 5, 6, 7, 8, 9], [0, 1, 2, 3, 4, 5, 6, 7, 8, 9, 10], [0, 1, 2, 3, 4, 5, 6, 7, 8, 9, 10, 11], [0, 1, 2, 3, 4, 5, 6, 7, 8, 9, 10, 11, 12], [0, 1, 2, 3, 4, 5, 6, 7, 8, 9, 10, 11, 12, 13], [0, 1, 2, 3, 4, 5, 6, 7, 8, 9, 10, 11, 12, 13, 14], [0, 1, 2, 3, 4, 5, 6, 7, 8, 9, 10, 11, 12, 13, 14, 15], [0, 1, 2, 3, 4, 5, 6, 7, 8, 9, 10, 11, 12, 13, 14, 15], [0, 1, 2, 3, 4, 5, 6, 7, 8, 9, 10, 11, 12, 13, 14, 15], [0, 1, 2, 3, 4, 5, 6, 7, 8, 9, 10, 11, 12, 13, 14, 15, 18], [0, 1, 2, 3, 4, 5, 6, 7, 8, 9, 10, 11, 12, 13, 14, 15, 16, 17, 18, 19], [0, 1, 2, 3, 4, 5, 6, 7, 8, 9, 10, 11, 12, 13, 14, 15, 16, 17, 18, 19, 20], [0, 1, 2, 3, 4, 5, 6, 7, 8, 9, 10, 11, 12, 13, 14, 15, 16, 17, 18, 19, 20, 21], [0, 1, 2, 3, 4, 5, 6, 7, 8, 9, 10, 11, 12, 13, 14, 15, 16, 17, 18, 19, 20, 21, 22], [0, 1, 2, 3, 4, 5, 6, 7, 8, 9, 10, 11, 12, 13, 14, 15, 16, 17, 18, 19, 20, 21, 22], [0, 1, 2, 3, 4, 5, 6, 7, 8, 9, 10, 11, 12, 13, 14, 15, 16, 17, 18, 19, 20, 21, 22], [0, 1, 2, 3, 4, 5, 6, 7, 8, 9, 10, 11, 12, 13, 14, 15, 16, 17, 18, 19, 20, 21, 22, 24, 25], [0, 1, 2, 3, 4, 5, 6, 7, 8, 9, 10, 11, 12, 13, 14, 15, 16, 17, 18, 19, 20, 21, 22, 23, 24, 25, 26], [0, 1, 2, 3, 4, 5, 6, 7, 8, 9, 10, 11, 12, 13, 14, 15, 16, 17, 18, 19, 20, 21, 22, 23, 24, 25, 26, 27], [0, 1, 2, 3, 4, 5, 6, 7, 8, 9, 10, 11, 12, 13, 14, 15, 16, 17, 18, 19, 20, 21, 22, 23, 24, 25, 26, 27, 28], [0, 1, 2, 3, 4, 5, 6, 7, 8, 9, 10, 11, 12, 13, 14, 15, 16, 17, 18, 19, 20, 21, 22, 23, 24, 25, 26, 27, 28, 29], [0, 1, 2, 3, 4, 5, 6, 7, 8, 9, 10, 11, 12, 13, 14, 15, 16, 17, 18, 19, 20, 21, 22, 23, 24, 25, 26, 27, 28, 29], [0, 1, 2, 3, 4, 5, 6, 7, 8, 9, 10, 11, 12, 13, 14, 15, 16, 17, 18, 19, 20, 21, 22, 23, 24, 25, 26, 27, 28, 29, 30, 31], [0, 1, 2, 3, 4, 5, 6, 7, 8, 9, 10, 11, 12, 13, 14, 15, 16, 17, 18, 19, 20, 21, 22, 23, 24, 25, 26, 27, 28, 29, 30, 31, 32], [0, 1, 2, 3, 4, 5, 6, 7, 8, 9, 10, 11, 12, 13, 14, 15, 16, 17, 18, 19, 20, 21, 22, 23, 24, 25, 26, 27, 28, 29], [0, 1, 2, 3, 4, 5, 6, 7, 8, 9, 10, 11, 12, 13, 14, 15, 16, 17, 18, 19, 20, 21, 22, 23, 24, 25, 26, 27, 28, 29, 30, 31, 32, 33, 34], [0, 1, 2, 3, 4, 5, 6, 7, 8, 9, 10, 11, 12, 13, 14, 15, 16, 17, 18, 19, 20, 21, 22, 23, 24, 25, 26, 27, 28, 29, 30, 31, 32, 33, 34, 35], [0, 1, 2, 3, 4, 5, 6, 7, 8, 9, 10, 11, 12, 13, 14, 15, 16, 17, 18, 19, 20, 21, 22, 23, 24, 25, 26, 27, 28, 29, 30, 31, 32, 33, 34, 35, 36]] (cl_lt (by decide)) ?_
              refine HeadR.start (cl_lt (by decide)) ?_
              refine HeadR.det rfl (fun β hβ => (det_loadW59 rfl (List.Mem.tail _ (List.Mem.tail _ (List.Mem.head _))))) ?_
              refine HeadR.det rfl (fun β hβ => (Det.to (det_call en42 rfl (fun w hb ho => POn_ok (fun p hp => ho.look (List.mem_append_right _ hp)))) (congrArg Value.bool (hA.a1)))) ?_
              refine HeadR.det rfl (fun β hβ => (det_move rfl)) ?_
              refine HeadR.yes rfl rfl (fun _ _ => rfl) (fun β hβ => (det_loadW59 rfl (List.Mem.tail _ (List.Mem.head _)))) ?_
              refine HeadR.yes rfl rfl (fun _ _ => rfl) (fun β hβ => (Det.to (det_call en42 rfl (fun w hb ho => POn_ok (fun p hp => ho.look (List.mem_append_right _ hp)))) (congrArg Value.bool (hA.a2)))) ?_
              refine HeadR.det rfl (fun β hβ => (det_pick rfl rfl)) ?_
              refine HeadR.det rfl (fun β hβ => (det_move rfl)) ?_
              refine HeadR.yes rfl rfl (fun _ _ => rfl) (fun β hβ => (det_loadW59 rfl (List.Mem.head _))) ?_
              refine HeadR.yes rfl rfl (fun _ _ => rfl) (fun β hβ => (Det.to (det_call en42 rfl (fun w hb ho => POn_ok (fun p hp => ho.look (List.mem_append_right _ hp)))) (congrArg Value.bool (hA.a3)))) ?_
              refine HeadR.det rfl (fun β hβ => (det_pick rfl rfl)) ?_
              refine HeadR.det rfl (fun β hβ => (det_move rfl)) ?_
              refine HeadR.yes rfl rfl (fun _ _ => rfl) (fun β hβ => (det_loadW59 rfl (List.Mem.head _))) ?_
              refine HeadR.yes rfl rfl (fun _ _ => rfl) (fun β hβ => (det_call en41 rfl (fun w hb ho => PNeg_ok (fun p hp => ho.look (List.mem_append_right _ hp))))) ?_
              refine HeadR.yes rfl rfl (fun _ _ => rfl) (fun β hβ => (Det.to (det_call en42 rfl (fun w hb ho => POn_ok (fun p hp => ho.look (List.mem_append_right _ hp)))) (congrArg Value.bool (hA.a4)))) ?_
              refine HeadR.det rfl (fun β hβ => (det_pick rfl rfl)) ?_
              refine HeadR.det rfl (fun β hβ => (det_move rfl)) ?_
              refine HeadR.yes rfl rfl (fun _ _ => rfl) (fun β hβ => (det_loadW59 rfl (List.Mem.tail _ (List.Mem.tail _ (List.Mem.head _))))) ?_
              refine HeadR.yes rfl rfl (fun _ _ => rfl) (fun β hβ => (det_loadW59 rfl (List.Mem.tail _ (List.Mem.head _)))) ?_
              refine HeadR.yes rfl rfl (fun _ _ => rfl) (fun β hβ => (det_loadW59 rfl (List.Mem.head _))) ?_
              refine HeadR.yes rfl rfl (fun _ _ => rfl) (fun β hβ => (det_call en41 rfl (fun w hb ho => PNeg_ok (fun p hp => ho.look (List.mem_append_right _ hp))))) ?_
              refine HeadR.yes rfl rfl (fun _ _ => rfl) (fun β hβ => (Det.to (det_call en46 rfl (fun w hb ho => hA.a5 _ (fun p hp => ho.look (List.mem_append_right _ hp)))) (congrArg Value.bool (rfl)))) ?_
              refine HeadR.det rfl (fun β hβ => (det_pick rfl rfl)) ?_
              refine HeadR.det rfl (fun β hβ => (det_move rfl)) ?_
              refine HeadR.yes rfl rfl (fun _ _ => rfl) (fun β hβ => (det_loadW59 rfl (List.Mem.head _))) ?_
              refine HeadR.yes rfl rfl (fun _ _ => rfl) (fun β hβ => (det_loadW59 rfl (List.Mem.tail _ (List.Mem.head _)))) ?_
              refine HeadR.yes rfl rfl (fun _ _ => rfl) (fun β hβ => (det_loadW59 rfl (List.Mem.tail _ (List.Mem.tail _ (List.Mem.head _))))) ?_
              refine HeadR.yes rfl rfl (fun _ _ => rfl) (fun β hβ => (det_call en39 rfl (fun w hb ho => PAdd_ok (fun p hp => ho.look (List.mem_append_right _ hp))))) ?_
              refine HeadR.yes rfl rfl (fun _ _ => rfl) (fun β hβ => (Det.to (det_eql59 rfl rfl) (congrArg Value.bool (yb hA.a6.symm.symm)))) ?_
              refine HeadR.det rfl (fun β hβ => (det_pick rfl rfl)) ?_
              refine HeadR.det rfl (fun β hβ => (det_move rfl)) ?_
              refine HeadR.yes rfl rfl (fun _ _ => rfl) (fun β hβ => (det_loadW59 rfl (List.Mem.tail _ (List.Mem.tail _ (List.Mem.head _))))) ?_
              refine HeadR.yes rfl rfl (fun _ _ => rfl) (fun β hβ => (det_loadW59 rfl (List.Mem.tail _ (List.Mem.head _)))) ?_
              refine HeadR.yesFresh rfl rfl (fun _ _ => rfl) (fun β hβ => (fr_buildSlice rfl (slice64b (p := (gp la)) (q := (gp lb)))).new) ?_
              refine HeadR.yes rfl rfl (fun _ _ => rfl) (fun β hβ => (det_call en40 rfl (fun w hb ho => PSum_ok (G' := [((β 84).1, blk (cellsP (gp la) ++ cellsP (gp lb)) 59)]) pts2 (by show 2 ≤ 1000000000000; decide) (blocks_cons (hb _ (List.Mem.head _)) (fun p hp => ho.look (List.mem_append_right _ hp)))))) ?_
              refine HeadR.yes rfl rfl (fun _ _ => rfl) (fun β hβ => (det_loadW59 rfl (List.Mem.head _))) ?_
              refine HeadR.yes rfl rfl (fun _ _ => rfl) (fun β hβ => (Det.to (det_eql59 rfl rfl) (congrArg Value.bool (yb hA.a7)))) ?_
              refine HeadR.det rfl (fun β hβ => (det_pick rfl rfl)) ?_
              refine HeadR.det rfl (fun β hβ => (det_assign rfl)) ?_
              refine HeadR.done ⟨by kernel_rfl, fun β hβ => ?_⟩
              refine OpsW.norm (F' := ((52, _) :: (53, _) :: (54, _) :: (55, _) :: (56, _) :: (57, _) :: (58, _) :: (59, _) :: (60, _) :: (61, _) :: (62, _) :: (63, _) :: (64, _) :: (65, _) :: (66, _) :: (67, _) :: (68, _) :: (69, _) :: (70, _) :: (71, _) :: (72, _) :: (73, _) :: (74, _) :: (75, _) :: (76, _) :: (77, _) :: (78, _) :: (79, _) :: (80, _) :: (81, _) :: (82, _) :: (83, _) :: (84, .slice (some ⟨(β 84).1, 0, none⟩) 2 2) :: (85, _) :: (86, _) :: (87, _) :: (88, _) :: (10, _) :: (13, _) :: (12, _) :: (11, _) :: [])) (H' := [(_, _), (_, _), (_, _), (_, _)]) rfl rfl ?_
              generalize (β 84).1 = b84
              refine sNext ?_
              refine W.keep (F' := [(10, _)]) ⟨rfl, trivial⟩ ?_
              refine sRet ?_
              exact done1 Tryd.results13 (rv_tmp rfl) rfl

end Go.Cw

/- The second group: its points are a group, what the walks compute is its sums and multiples, and the rules that the laws ask for. -/
namespace Go.Cw
open Go.Cu Go.Ec
set_option linter.unusedVariables false
set_option linter.unusedSimpArgs false
set_option linter.unusedSectionVars false
open CR
instance fourGood : Gd four where
  two := by decide +kernel
  three := by decide +kernel
  b := by decide +kernel
/-! ### What the walks compute -/
abbrev G2 := Gp four
theorem pneg_ok (P : G2) : pneg P.1 = (-P).1 := rfl
theorem small_one : small 1 0 = 1 := by decide +kernel
theorem tojac_g (p : Pt) : tojac p = gtoj p := by unfold tojac gtoj; rw [small_one]
theorem jdbl_g (j : Jac) : jdbl j = gdbl j := rfl
theorem jadd_g (j : Jac) (q : Pt) : jadd j q = gadd j q := by
  unfold jadd gadd
  rw [tojac_g]; rfl
theorem point_g (j : Jac) : point j = gpt j := rfl
theorem padd_ok (P Q : G2) : padd P.1 Q.1 = (P + Q).1 := by
  have h := (gadd_ok (JOk.toj P.2) Q.2).1
  rw [gpt_toj] at h
  unfold padd
  rw [tojac_g, jadd_g, point_g]
  exact h
theorem stp_one (p : Pt) (j : Jac) : stp p 1 j = gadd j p := jadd_g j p
theorem stp_neg (p : Pt) (j : Jac) : stp p (-1) j = gadd j (pneg p) := jadd_g j (pneg p)
theorem stp_ok {j : Jac} {x : G2} (P : G2) (d : Int) (hj : JOk four j) (h : gpt j = x.1) (hd : d = 0 ∨ d = 1 ∨ d = -1) {v : Nat} (hx : x = nmul (2 * v) P) {u : Nat} (hu : (u : Int) = 2 * v + d) :
    JOk four (stp P.1 d j) ∧ gpt (stp P.1 d j) = (nmul u P).1 := by
  rcases hd with rfl | rfl | rfl
  · have e : u = 2 * v := by omega
    rw [e, ← hx, show stp P.1 0 j = j from rfl]
    exact ⟨hj, h⟩
  · have e : u = 2 * v + 1 := by omega
    rw [e, nmul, ← hx, stp_one]
    exact step_add P hj h
  · have e : 2 * v = u + 1 := by omega
    have h1 := step_add (-P) hj h
    have e2 : x + -P = nmul u P := by rw [hx, e, nmul, AG.aassoc, a_neg, a_zero]
    rw [e2] at h1
    rw [stp_neg, pneg_ok]
    exact h1
theorem jl_ok {l : List Nat} (hs : ∀ c ∈ l, c < 256) (P : G2) : ∀ m, m ≤ 8 * l.length + 1 → JOk four (jl l P.1 m) ∧ gpt (jl l P.1 m) = (nmul (upv l (8 * l.length + 1 - m)) P).1
  | 0, _ => by
    rw [Nat.sub_zero, upv_top hs]
    exact jzero_ok
  | m + 1, h => by
    obtain ⟨h1, h2⟩ := jl_ok hs P m (by omega)
    obtain ⟨h3, h4⟩ := step_dbl h1 h2
    have hk := upv_step hs (8 * l.length - m)
    rw [show 8 * l.length - m + 1 = 8 * l.length + 1 - m by omega] at hk
    have := stp_ok P (dg l (8 * l.length - m)) h3 h4 (dg_cases _ _) (v := upv l (8 * l.length + 1 - m)) (by rw [Nat.mul_comm 2, nmul_mul, nmul_two]) hk
    rw [show 8 * l.length + 1 - (m + 1) = 8 * l.length - m by omega, jl, jdbl_g]
    exact this
theorem times_ok {l : List Nat} (hs : ∀ c ∈ l, c < 256) (P : G2) : times l P.1 = (nmul (beN l) P).1 := by
  have h := (jl_ok hs P (8 * l.length + 1) (Nat.le_refl _)).2
  rw [Nat.sub_self, upv_zero] at h
  exact h
theorem pmul_ok (P : G2) (x : Fs) : pmul P.1 x = (nmul x.val P).1 := by
  unfold pmul
  rw [times_ok (blist_small x), blist_val]
theorem psum_ok (l : List G2) : psum (l.map (·.1)) = (l.foldl (· + ·) 0).1 := by
  unfold psum jsum
  rw [show (fun (j : Jac) (p : Pt) => jadd j p) = gadd from funext fun j => funext fun p => jadd_g j p, point_g]
  exact (step_sums l jzero_ok.1 jzero_ok.2).2
theorem onB_ok {p : Pt} (h : On four p) : onB p = true := by
  unfold onB
  rcases h with h | h
  · rw [decide_eq_true h]; rfl
  · rw [decide_eq_true (show p.2 * p.2 = p.1 * p.1 * p.1 + four from h), Bool.or_true]
theorem on_of {p : Pt} (h : onB p = true) : On four p := by
  unfold onB at h
  rcases Bool.or_eq_true_iff.1 h with h | h
  · exact .inl (of_decide_eq_true h)
  · exact .inr (show p.2 * p.2 = p.1 * p.1 * p.1 + four from of_decide_eq_true h)

/-! ### The generator -/
theorem gen_on : onB gen = true := by decide +kernel
/-- The generator, as an element of the curve's group. -/
def gG : G2 := ⟨gen, on_of gen_on⟩
theorem gG_order : nmul rr gG = 0 := nmul_zero_of (f := 256) (by decide) (by decide +kernel)
theorem gp_ok (l : List Nat) : gp l = (nmul (wide l).val gG).1 := pmul_ok gG (wide l)
theorem gen_ne : gen ≠ (0, 0) := by decide +kernel
theorem gen_two : gen ≠ pneg gen := by decide +kernel
theorem headOk : HeadOk where
  h1 := gen_on
  h2 := onB_ok (by rw [show gen = gG.1 from rfl, padd_ok]; exact (gG + gG).2)
  h3 := by
    rw [show gen = gG.1 from rfl, padd_ok]
    refine Bool.not_eq_true' _ ▸ decide_eq_false fun h => gen_ne ?_
    have h1 : gG + gG = gG + 0 := by rw [a_zero]; exact Gp.ext h
    exact congrArg (fun x : G2 => x.1) (a_cancel h1)
  h4 := by
    rw [show gen = gG.1 from rfl, padd_ok]
    refine Bool.not_eq_true' _ ▸ decide_eq_false fun h => gen_two ?_
    have h1 : gG + gG = 0 := Gp.ext h
    exact congrArg (fun x : G2 => x.1) (a_neg_eq h1)
  h5 := decide_eq_true (by
    rw [show gen = gG.1 from rfl, times_ok two_small, padd_ok, show beN [2] = 2 from rfl, nmul_two])
  h6 := decide_eq_true (by
    rw [show gen = gG.1 from rfl, pneg_ok, padd_ok, a_neg]; rfl)
  h7 := by decide +kernel
theorem rulesOk (P Q R : G2) : RulesOk P.1 Q.1 R.1 where
  r1 := by rw [padd_ok, padd_ok, padd_ok, padd_ok, AG.aassoc]
  r2 := by
    rw [padd_ok, padd_ok]
    have := psum_ok [P, Q, R]
    simp only [List.map_cons, List.map_nil, List.foldl_cons, List.foldl_nil, AG.zero_a] at this
    exact this
  r3 := by have := padd_ok P 0; rw [a_zero] at this; exact this
  r4 := by have := padd_ok 0 P; rw [AG.zero_a] at this; exact this
  r5 := by rw [pneg_ok, padd_ok, a_neg]; rfl
  r6 := by rw [pneg_ok, pneg_ok, a_neg_neg]
  r7 := by rw [pneg_ok, pneg_ok, padd_ok, padd_ok, pneg_ok, a_neg_add]
  r8 := psum_ok []
  r9 := rfl
  r10 := by decide +kernel
theorem rulesOk_gp (a b c : List Nat) : RulesOk (gp a) (gp b) (gp c) := by
  rw [gp_ok, gp_ok, gp_ok]; exact rulesOk _ _ _
end Go.Cw

/- The second group's laws: what scalars, counts, lines and the group's own test come to. -/
namespace Go.Cw
open Go.Cu Go.Ec
open Go Go.Vm
set_option linter.unusedVariables false
set_option linter.unusedSimpArgs false
set_option linter.unusedSectionVars false
open CR
/-! ### The turn, and the group's test -/
def te : Fq2 := ⟨Zp.of 877076961050607968509681729531255177986764537961432449499635504522207616027455086505066378536590128544573588734230, Zp.of 877076961050607968509681729531255177986764537961432449499635504522207616027455086505066378536590128544573588734230⟩
theorem te_sq : te * te = turnx := by decide +kernel
theorem te_cube : te * te * te = turny := by decide +kernel
theorem te_ne : te ≠ 0 := by decide +kernel
theorem sig_conj : Sig conj2 := ⟨fun x y => Fq2.ext rfl (show (0 - (x.b + y.b)) = ((0 - x.b) + (0 - y.b)) from ring_id (fun vi_ => vget vi_ [x.b, y.b]) (.sub .zero (.add (.var 0) (.var 1))) (.add (.sub .zero (.var 0)) (.sub .zero (.var 1))) (by kernel_rfl)),
  fun x y => Fq2.ext (show ((x.a * y.a) - (x.b * y.b)) = ((x.a * y.a) - ((0 - x.b) * (0 - y.b))) from ring_id (fun vi_ => vget vi_ [x.a, x.b, y.a, y.b]) (.sub (.mul (.var 0) (.var 2)) (.mul (.var 1) (.var 3))) (.sub (.mul (.var 0) (.var 2)) (.mul (.sub .zero (.var 1)) (.sub .zero (.var 3)))) (by kernel_rfl)) (show (0 - ((((x.a + x.b) * (y.a + y.b)) - (x.a * y.a)) - (x.b * y.b))) = ((((x.a + (0 - x.b)) * (y.a + (0 - y.b))) - (x.a * y.a)) - ((0 - x.b) * (0 - y.b))) from ring_id (fun vi_ => vget vi_ [x.a, x.b, y.a, y.b]) (.sub .zero (.sub (.sub (.mul (.add (.var 0) (.var 1)) (.add (.var 2) (.var 3))) (.mul (.var 0) (.var 2))) (.mul (.var 1) (.var 3)))) (.sub (.sub (.mul (.add (.var 0) (.sub .zero (.var 1))) (.add (.var 2) (.sub .zero (.var 3)))) (.mul (.var 0) (.var 2))) (.mul (.sub .zero (.var 1)) (.sub .zero (.var 3)))) (by kernel_rfl)),
  fun x y h => by
    have h1 : (conj2 x).a = (conj2 y).a := congrArg (fun z : Fq2 => z.a) h
    have h2 : (conj2 x).b = (conj2 y).b := congrArg (fun z : Fq2 => z.b) h
    have h1 : x.a = y.a := h1
    have h2 : 0 - x.b = 0 - y.b := h2
    exact Fq2.ext h1 (eq_of_sub (Eq.trans (show (x.b - y.b) = ((-1) * ((0 - x.b) - (0 - y.b))) from ring_id (fun vi_ => vget vi_ [x.b, y.b]) (.sub (.var 0) (.var 1)) (.mul (.neg .one) (.sub (.sub .zero (.var 0)) (.sub .zero (.var 1)))) (by kernel_rfl)) (lz h2)))⟩
theorem te_keep : te * te * te * (te * te * te) * conj2 four = four := by decide +kernel
theorem tturn : Turn four conj2 te := ⟨sig_conj, te_ne, te_keep⟩
def psi (P : G2) : G2 := turnG tturn P
theorem psi_val (P : G2) : (psi P).1 = turnP P.1 := by
  show (te * te * conj2 P.1.1, te * te * te * conj2 P.1.2) = _
  rw [te_cube, te_sq, mul_comm turnx, mul_comm turny]; rfl
theorem inB_iff (P : G2) : inB P.1 = true ↔ psi P = -nmul sz P := by
  unfold inB
  rw [times_ok sizeL_small, pneg_ok, ← psi_val, decide_eq_true_iff]
  exact ⟨fun h => Gp.ext h, fun h => congrArg (fun x : G2 => x.1) h⟩
set_option maxRecDepth 100000 in
theorem psi_z : (gadd (glad gG.1 256 sz) (psi gG).1).2.2 = 0 := by
  show (gadd (glad gen 256 sz) (te * te * conj2 gen.1, te * te * te * conj2 gen.2)).2.2 = 0
  decide +kernel
theorem sz_lt2 : sz < 2 ^ 256 := by rw [sz_val]; exact of_decide_eq_true (by kernel_rfl)
theorem psi_gen : psi gG = -nmul sz gG := by
  obtain ⟨h1, h2⟩ := glad_ok gG 256 sz sz_lt2
  obtain ⟨h3, h4⟩ := step_add (psi gG) h1 h2
  have hz : (gadd (glad gG.1 256 sz) (psi gG).1).2.2 = 0 := psi_z
  have h5 : nmul sz gG + psi gG = 0 := by
    generalize gadd (glad gG.1 256 sz) (psi gG).1 = j at h4 hz
    exact Gp.ext (h4.symm.trans (if_pos hz))
  exact a_neg_eq h5
theorem psi_mul (n : Nat) : psi (nmul n gG) = -nmul sz (nmul n gG) := by
  show turnG tturn (nmul n gG) = _
  rw [turnG_nmul]
  show nmul n (psi gG) = _
  rw [psi_gen, nmul_neg, nmul_comm n]
theorem in_mul (n : Nat) : inB (nmul n gG).1 = true := (inB_iff _).2 (psi_mul n)
theorem gp_on (l : List Nat) : On four (gp l) := by rw [gp_ok]; exact (nmul (wide l).val gG).2

/-! ### Roots -/
theorem sqrtF_ok {x : Fq} (h : (sqrtF x).2 = true) : (sqrtF x).1 * (sqrtF x).1 = x := by
  unfold sqrtF at h ⊢
  split at h
  · rename_i hr; rw [if_pos hr]; exact hr
  · cases h
theorem root_sq (x : Fq) : root x * root x = x * pw x ((pp - 1) / 2) := by
  unfold root
  rw [← pw_add, show ppq + ppq = (pp - 1) / 2 + 1 from by decide +kernel, pw, mul_comm]
theorem half_pm {x : Fq} (hx : x ≠ 0) : pw x ((pp - 1) / 2) = 1 ∨ pw x ((pp - 1) / 2) = -1 := by
  have h := fermat prime_pp hx
  rw [show pp - 1 = 2 * ((pp - 1) / 2) from by decide +kernel, pw_two] at h
  generalize pw x ((pp - 1) / 2) = t at h
  by_cases h1 : t = 1
  · exact .inl h1
  · right
    apply Classical.byContradiction
    intro h2
    refine Fld.mul_ne (a := t - 1) (b := t + 1) (fun e => h1 (eq_of_sub e)) (fun e => h2 (eq_of_sub (Eq.trans (show (t - (-1)) = (1 * ((t + 1) - 0)) from ring_id (fun vi_ => vget vi_ [t]) (.sub (.var 0) (.neg .one)) (.mul .one (.sub (.add (.var 0) .one) .zero)) (by kernel_rfl)) (lz e)))) ?_
    exact (eq_of_sub (Eq.trans (show (((t - 1) * (t + 1)) - 0) = (1 * ((t * t) - 1)) from ring_id (fun vi_ => vget vi_ [t]) (.sub (.mul (.sub (.var 0) .one) (.add (.var 0) .one)) .zero) (.mul .one (.sub (.mul (.var 0) (.var 0)) .one)) (by kernel_rfl)) (lz h)))
theorem pw_neg_one : pw (-1 : Fq) ((pp - 1) / 2) = -1 := by
  obtain ⟨k, hk⟩ : ∃ k, (pp - 1) / 2 = 2 * k + 1 := ⟨(pp - 3) / 4, by decide +kernel⟩
  rw [hk, pw, pw_mul, show pw (-1 : Fq) 2 = 1 from by decide +kernel, one_pw, one_mul]
/-- Of a number and its negative one has a root. -/
theorem sqrtF_neg {x : Fq} (h : (sqrtF x).2 = false) : (sqrtF (0 - x)).1 * (sqrtF (0 - x)).1 = 0 - x := by
  have hr : root x * root x ≠ x := fun e => by
    unfold sqrtF at h
    rw [if_pos e] at h; cases h
  have hx : x ≠ 0 := by
    rintro rfl
    exact hr (by rw [root_sq, zero_mul'])
  have ht : pw x ((pp - 1) / 2) = -1 := (half_pm hx).resolve_left fun e => hr (by rw [root_sq, e, mul_one'])
  have hn : root (0 - x) * root (0 - x) = 0 - x := by
    rw [root_sq, show (0 - x : Fq) = -1 * x from (show (0 - x) = ((-1) * x) from ring_id (fun vi_ => vget vi_ [x]) (.sub .zero (.var 0)) (.mul (.neg .one) (.var 0)) (by kernel_rfl)), mul_pw, pw_neg_one, ht]
    exact (show (((-1) * x) * ((-1) * (-1))) = ((-1) * x) from ring_id (fun vi_ => vget vi_ [x]) (.mul (.mul (.neg .one) (.var 0)) (.mul (.neg .one) (.neg .one))) (.mul (.neg .one) (.var 0)) (by kernel_rfl))
  unfold sqrtF
  rw [if_pos hn]
  exact hn
theorem sq_a {r a b : Fq} (hr : r * r = a) (hb : b = 0) : (⟨r, 0⟩ * ⟨r, 0⟩ : Fq2) = ⟨a, b⟩ := by
  subst hb
  refine Fq2.ext ?_ ?_
  · show r * r - 0 * 0 = a
    rw [hr]; exact (show (a - (0 * 0)) = a from ring_id (fun vi_ => vget vi_ [a]) (.sub (.var 0) (.mul .zero .zero)) (.var 0) (by kernel_rfl))
  · show (r + 0) * (r + 0) - r * r - 0 * 0 = 0
    exact (show ((((r + 0) * (r + 0)) - (r * r)) - (0 * 0)) = 0 from ring_id (fun vi_ => vget vi_ [r]) (.sub (.sub (.mul (.add (.var 0) .zero) (.add (.var 0) .zero)) (.mul (.var 0) (.var 0))) (.mul .zero .zero)) .zero (by kernel_rfl))
theorem sq_b {r a b : Fq} (hr : r * r = 0 - a) (hb : b = 0) : (⟨0, r⟩ * ⟨0, r⟩ : Fq2) = ⟨a, b⟩ := by
  subst hb
  refine Fq2.ext ?_ ?_
  · show 0 * 0 - r * r = a
    rw [hr]; exact (show ((0 * 0) - (0 - a)) = a from ring_id (fun vi_ => vget vi_ [a]) (.sub (.mul .zero .zero) (.sub .zero (.var 0))) (.var 0) (by kernel_rfl))
  · show (0 + r) * (0 + r) - 0 * 0 - r * r = 0
    exact (show ((((0 + r) * (0 + r)) - (0 * 0)) - (r * r)) = 0 from ring_id (fun vi_ => vget vi_ [r]) (.sub (.sub (.mul (.add .zero (.var 0)) (.add .zero (.var 0))) (.mul .zero .zero)) (.mul (.var 0) (.var 0))) .zero (by kernel_rfl))
theorem sq_c {a b n h A v : Fq} (hh : h + h = 1) (hn : n * n = a * a + b * b) (hA : A * A = (a + n) * h) (hv : A * v = 1) : (⟨A, b * h * v⟩ * ⟨A, b * h * v⟩ : Fq2) = ⟨a, b⟩ := by
  refine Fq2.ext ?_ ?_
  · show A * A - b * h * v * (b * h * v) = a
    exact (eq_of_sub (Eq.trans (show (((A * A) - (((b * h) * v) * ((b * h) * v))) - a) = (((((((h * h) * v) * v) * ((n * n) - ((a * a) + (b * b)))) + ((((((n - a) * h) * v) * v) + 1) * ((A * A) - ((a + n) * h)))) + ((-(((n - a) * h) * ((A * v) + 1))) * ((A * v) - 1))) + (a * ((h + h) - 1))) from ring_id (fun vi_ => vget vi_ [a, b, n, h, A, v]) (.sub (.sub (.mul (.var 4) (.var 4)) (.mul (.mul (.mul (.var 1) (.var 3)) (.var 5)) (.mul (.mul (.var 1) (.var 3)) (.var 5)))) (.var 0)) (.add (.add (.add (.mul (.mul (.mul (.mul (.var 3) (.var 3)) (.var 5)) (.var 5)) (.sub (.mul (.var 2) (.var 2)) (.add (.mul (.var 0) (.var 0)) (.mul (.var 1) (.var 1))))) (.mul (.add (.mul (.mul (.mul (.sub (.var 2) (.var 0)) (.var 3)) (.var 5)) (.var 5)) .one) (.sub (.mul (.var 4) (.var 4)) (.mul (.add (.var 0) (.var 2)) (.var 3))))) (.mul (.neg (.mul (.mul (.sub (.var 2) (.var 0)) (.var 3)) (.add (.mul (.var 4) (.var 5)) .one))) (.sub (.mul (.var 4) (.var 5)) .one))) (.mul (.var 0) (.sub (.add (.var 3) (.var 3)) .one))) (by kernel_rfl)) (lz2 (lz2 (lz2 (lz hn) (lz hA)) (lz hv)) (lz hh))))
  · show (A + b * h * v) * (A + b * h * v) - A * A - b * h * v * (b * h * v) = b
    exact (eq_of_sub (Eq.trans (show (((((A + ((b * h) * v)) * (A + ((b * h) * v))) - (A * A)) - (((b * h) * v) * ((b * h) * v))) - b) = (((b * (h + h)) * ((A * v) - 1)) + (b * ((h + h) - 1))) from ring_id (fun vi_ => vget vi_ [b, h, A, v]) (.sub (.sub (.sub (.mul (.add (.var 2) (.mul (.mul (.var 0) (.var 1)) (.var 3))) (.add (.var 2) (.mul (.mul (.var 0) (.var 1)) (.var 3)))) (.mul (.var 2) (.var 2))) (.mul (.mul (.mul (.var 0) (.var 1)) (.var 3)) (.mul (.mul (.var 0) (.var 1)) (.var 3)))) (.var 0)) (.add (.mul (.mul (.var 0) (.add (.var 1) (.var 1))) (.sub (.mul (.var 2) (.var 3)) .one)) (.mul (.var 0) (.sub (.add (.var 1) (.var 1)) .one))) (by kernel_rfl)) (lz2 (lz hv) (lz hh))))
theorem s2from_ok {a b h : Fq} (hh : h + h = 1) : ∀ (f : Nat) (n : Fq), n * n = a * a + b * b → (s2from ⟨a, b⟩ h f n).2 = true → (s2from ⟨a, b⟩ h f n).1 * (s2from ⟨a, b⟩ h f n).1 = ⟨a, b⟩
  | 0, n, _, h2 => by cases h2
  | f + 1, n, hn, h2 => by
    by_cases hc : (sqrtF ((a + n) * h)).2 = true ∧ (sqrtF ((a + n) * h)).1 ≠ 0
    · have e : s2from ⟨a, b⟩ h (f + 1) n = (⟨(sqrtF ((a + n) * h)).1, b * h * Cu.inv (sqrtF ((a + n) * h)).1⟩, true) := if_pos hc
      rw [e]
      exact sq_c hh hn (sqrtF_ok hc.1) (Fld.mul_finv _ hc.2)
    · have e : s2from ⟨a, b⟩ h (f + 1) n = s2from ⟨a, b⟩ h f (0 - n) := if_neg hc
      rw [e] at h2 ⊢
      exact s2from_ok hh f (0 - n) (eq_of_sub (Eq.trans (show (((0 - n) * (0 - n)) - ((a * a) + (b * b))) = (1 * ((n * n) - ((a * a) + (b * b)))) from ring_id (fun vi_ => vget vi_ [a, b, n]) (.sub (.mul (.sub .zero (.var 2)) (.sub .zero (.var 2))) (.add (.mul (.var 0) (.var 0)) (.mul (.var 1) (.var 1)))) (.mul .one (.sub (.mul (.var 2) (.var 2)) (.add (.mul (.var 0) (.var 0)) (.mul (.var 1) (.var 1))))) (by kernel_rfl)) (lz hn))) h2
theorem two_inv : Cu.inv (Zp.of 2) + Cu.inv (Zp.of 2) = (1 : Fq) := by
  have h2 := Fld.mul_finv (Zp.of 2 : Fq) (by decide +kernel)
  have h2 : (Zp.of 2 : Fq) * Cu.inv (Zp.of 2) = 1 := h2
  rw [← h2, show (Zp.of 2 : Fq) = 1 + 1 from by decide +kernel]
  obtain ⟨k, hk⟩ : ∃ k : Fq, k = Cu.inv (1 + 1) := ⟨_, rfl⟩
  rw [← hk]
  exact (show (k + k) = ((1 + 1) * k) from ring_id (fun vi_ => vget vi_ [k]) (.add (.var 0) (.var 0)) (.mul (.add .one .one) (.var 0)) (by kernel_rfl))
theorem sqrt2_ok {x : Fq2} (h : (sqrt2 x).2 = true) : (sqrt2 x).1 * (sqrt2 x).1 = x := by
  obtain ⟨a, b⟩ := x
  by_cases hb : b = 0
  · by_cases h1 : (sqrtF a).2 = true
    · have e : sqrt2 ⟨a, b⟩ = (⟨(sqrtF a).1, 0⟩, true) := (if_pos hb).trans (if_pos h1)
      rw [e]
      exact sq_a (sqrtF_ok h1) hb
    · have e : sqrt2 ⟨a, b⟩ = (⟨0, (sqrtF (0 - a)).1⟩, true) := (if_pos hb).trans (if_neg h1)
      rw [e]
      exact sq_b (sqrtF_neg (by simpa using h1)) hb
  · by_cases h1 : (sqrtF (norm2 ⟨a, b⟩)).2 = true
    · have e : sqrt2 ⟨a, b⟩ = s2from ⟨a, b⟩ (Cu.inv (Zp.of 2)) 2 (sqrtF (norm2 ⟨a, b⟩)).1 := (if_neg hb).trans (if_pos h1)
      rw [e] at h ⊢
      exact s2from_ok two_inv 2 _ (sqrtF_ok h1) h
    · have e : sqrt2 ⟨a, b⟩ = (0, false) := (if_neg hb).trans (if_neg h1)
      rw [e] at h; cases h
/-! ### Scalars -/
theorem order_mul (n : Nat) : nmul rr (nmul n gG) = 0 := by rw [nmul_comm, gG_order, nmul_zero]
theorem scalarsOk (x y : Fs) (c : List Nat) : ScalarsOk x y (gp c) := by
  have hp := gp_ok c
  have hin := in_mul (wide c).val
  have hord := order_mul (wide c).val
  generalize nmul (wide c).val gG = P at *
  rw [hp]
  exact {
    r1 := by
      rw [pmul_ok, pmul_ok, pmul_ok, padd_ok, Zp.add_val, nmul_mod hord, nmul_add]
    r2 := by
      rw [pmul_ok, pmul_ok, pmul_ok, Zp.mul_val, nmul_mod hord, nmul_mul]
    r3 := by
      rw [pmul_ok, pmul_ok, pneg_ok, Zp.sub_val, Zp.zero_val, nmul_mod hord, Nat.zero_add]
      refine congrArg (fun z : G2 => z.1) (a_neg_eq ?_).symm
      rw [← nmul_add, show x.val + (rr - x.val) = rr by have := x.lt; omega]; exact hord
    r4 := by rw [pmul_ok, of_small (by decide), nmul_one]
    r5 := by rw [pmul_ok, Zp.zero_val]; rfl
    r6 := hin
    r7 := by rw [pmul_ok]; exact onB_ok (nmul x.val P).2 }

/-! ### Points that are as a rule not of the group -/
theorem wfrom_on : ∀ f k, On four (wfrom f k)
  | 0, _ => .inl rfl
  | f + 1, k => by
    unfold wfrom
    split
    · rename_i h
      have h1 : (sqrt2 (wcube k)).1 * (sqrt2 (wcube k)).1 = wcube k := sqrt2_ok h.1
      obtain ⟨y, hy⟩ : ∃ y, y = (sqrt2 (wcube k)).1 := ⟨_, rfl⟩
      rw [← hy] at h1 ⊢
      exact .inr (show y * y = small k 1 * small k 1 * small k 1 + four from h1)
    · exact wfrom_on f (k + 1)
def wG (n : Nat) : G2 := ⟨wild n, wfrom_on 200 n⟩

/-! ### Counts -/
theorem nadd_ok (P : G2) : ∀ k, nadd P.1 k = (nmul k P).1
  | 0 => rfl
  | k + 1 => by rw [nadd, nadd_ok P k, padd_ok, nmul]
theorem countsOk (k : Nat) (hk : k < 32) (P Q : G2) : CountsOk k P.1 Q.1 where
  c1 := by rw [times_ok (one_small (by omega)), nadd_ok, show beN [k] = k by simp [beN]]
  c2 := by rw [times_ok (three_small (by omega)), nadd_ok, show beN [0, 0, k] = k by simp [beN]]
  c3 := by rw [times_ok (one_small (by omega)), nadd_ok, show beN [k] = k by simp [beN]]
  c4 := times_ok (l := []) (fun c hc => by cases hc) Q
  c5 := by rw [pmul_ok, nadd_ok, of_small (Nat.lt_trans hk (by decide))]

/-! ### Lines -/
theorem addsOk (T : Nat → TypeId × Nat × Nat) (P Q : G2) : AddsOk T P.1 Q.1 where
  a1 := onB_ok P.2
  a2 := onB_ok Q.2
  a3 := by rw [padd_ok]; exact onB_ok (P + Q).2
  a4 := by rw [padd_ok, pneg_ok]; exact onB_ok (-(P + Q)).2
  a5 := fun w hG => by
    have hr : pneg (padd P.1 Q.1) = cneg (cadd P.1 Q.1) := by rw [padd_ok]; rfl
    have hrG : pneg (padd P.1 Q.1) = (-(P + Q)).1 := by rw [padd_ok, pneg_ok]
    by_cases hp : P.1 = (0, 0)
    · refine sidesA_ok hp ?_ hG
      have : P = 0 := Gp.ext hp
      rw [hrG, pneg_ok, a_neg_neg, this, AG.zero_a]
    by_cases hq : Q.1 = (0, 0)
    · refine sidesB_ok hp hq ?_ hG
      have : Q = 0 := Gp.ext hq
      rw [hrG, pneg_ok, a_neg_neg, this, a_zero]
    have hpa := P.2.resolve_left hp
    have hqa := Q.2.resolve_left hq
    by_cases hz : pneg (padd P.1 Q.1) = (0, 0)
    · refine sidesC_ok hp hq hz ?_ hG
      have h1 : -(P + Q) = 0 := Gp.ext (hrG.symm.trans hz)
      have h2 : P + Q = 0 := by rw [← a_neg_neg (P + Q), h1, a_neg_zero]
      rw [AG.acomm] at h2
      rw [pneg_ok, ← a_neg_eq h2]
    by_cases hpq : P.1 = Q.1
    · have hPQ : P = Q := Gp.ext hpq
      subst hPQ
      have hy : P.1.2 + P.1.2 ≠ 0 := fun h => hz (by
        rw [hr]
        unfold cadd
        rw [if_neg hp, if_neg hp, if_pos ⟨rfl, h⟩]
        exact cneg_zero)
      obtain ⟨h1, h2⟩ := tan_r hpa hy _ hr
      by_cases hx : (pneg (padd P.1 P.1)).1 = P.1.1
      · obtain ⟨h3, h4⟩ := h2 hx
        exact sidesE_ok hp hq hz hpq hx h3 (decide_eq_true h4) hG
      · exact sidesD_ok hp hq hz hpq hx h1 hG
    · have hx : P.1.1 ≠ Q.1.1 := fun hx => by
        rcases same_x hpa hqa hx with h | h
        · exact hpq h
        · refine hz ?_
          have h1 : P = -Q := Gp.ext h
          rw [hrG, h1, AG.neg_a, a_neg_zero]; rfl
      obtain ⟨h1, h2⟩ := chord_r hpa hqa hx _ hr
      exact sidesF_ok hp hq hz hpq hx h1 (decide_eq_true h2) hG
  a6 := by rw [padd_ok, padd_ok, AG.acomm]
  a7 := by
    have := psum_ok [P, Q]
    simp only [List.map_cons, List.map_nil, List.foldl_cons, List.foldl_nil, AG.zero_a] at this
    rw [padd_ok]; exact this
attribute [local irreducible] wfrom wild
theorem wG_val (n : Nat) : (wG n).1 = wild n := rfl
theorem wild_on (n : Nat) : On four (wild n) := (wG_val n) ▸ (wG n).2
theorem countsOk_gp (n : Nat) (l : List Nat) (m : Nat) : CountsOk (n % 32) (gp l) (wild m) := by
  rw [gp_ok, ← wG_val]; exact countsOk _ (Nat.mod_lt _ (by decide)) _ (wG m)
theorem addsOk_all (T : Nat → TypeId × Nat × Nat) (p q : Pt) (hp : On four p) (hq : On four q) : AddsOk T p q := addsOk T ⟨p, hp⟩ ⟨q, hq⟩
theorem neg_on (P : G2) : On four (pneg P.1) := by rw [pneg_ok]; exact (-P).2
theorem on_neg {p : Pt} (h : On four p) : On four (pneg p) := (neg_on ⟨p, h⟩)
theorem on_zero : On four ((0, 0) : Pt) := Or.inl rfl
end Go.Cw
