/-
  Part 10 of the joined texts of the curves' laws: The point of the second group that bytes are: the walk. Conditions: none but a length.
  Conditions: those that each theorem states.
-/
import Derived.Test.YtndonmbemehefaaDoorP9
import Derived.Test.YtndonmbemehefaaDoorP8
import Derived.Test.YtndonmbemehefaaDoorP2
import Derived.Test.YtndonmbemehefaaDoorP6
import Derived.Test.YtndonmbemehefaaDoorP5
import Derived.Test.YtndonmbemehefaaDoorP7
import Derived.Test.YtndonmbemehefaaDoorP4
import Derived.Test.YtndonmbemehefaaDoorP3
/- The point of the second group that bytes are: the walk. Conditions: none but a length. -/
namespace Go.Cw
open Go Go.Vm Go.RowKit Go.Proofs Go.Cu
attribute [local irreducible] W OpsW Det Fresh New Writes Vm.Pure Makes Changes ExternTo BuildTo ZeroTo FieldTo IndexTo BinTo SliceTo Vm.Enters
set_option linter.unusedVariables false
set_option linter.unusedSimpArgs false
variable {T : Nat → TypeId × Nat × Nat}
def rx (l : List Nat) : Fq2 × Int := read2 ((cl l).take 96)
def ry (l : List Nat) : Fq2 × Int := read2 ((cl l).drop 96)
def rs (l : List Nat) : Fq2 × Bool := sqrt2 ((rx l).1 * (rx l).1 * (rx l).1 + small 4 4)
/-- The last tests of a point. -/
def fin1 (p : Pt) (ok : Bool) : Pt × Int := if ok = false ∨ p = (0, 0) then ((0, 0), 13) else if inB p = false then ((0, 0), 14) else (p, 0)
/-- The point of the second group that bytes are, and the error. -/
def rd1 (l : List Nat) : Pt × Int :=
  if (markE l 96).1 ≠ 0 then ((0, 0), (markE l 96).1) else if fB (b0 l) = true then ((0, 0), 0) else if (rx l).2 ≠ 0 then ((0, 0), (rx l).2)
  else if 96 < l.length then (if (ry l).2 ≠ 0 then ((0, 0), (ry l).2) else fin1 ((rx l).1, (ry l).1) (onB ((rx l).1, (ry l).1)))
  else fin1 ((rx l).1, if large2 (rs l).1 ≠ lB (b0 l) then 0 - (rs l).1 else (rs l).1) (rs l).2
theorem rd1_mark {l : List Nat} (h : (markE l 96).1 ≠ 0) : rd1 l = ((0, 0), (markE l 96).1) := if_pos h
theorem rd1_far {l : List Nat} (h : (markE l 96).1 = 0) (h2 : fB (b0 l) = true) : rd1 l = ((0, 0), 0) := by unfold rd1; rw [if_neg (fun h3 => h3 h), if_pos h2]
theorem rx_eq (l : List Nat) : rx l = read2 ((cl l).take 96) := rfl
theorem ry_eq (l : List Nat) : ry l = read2 ((cl l).drop 96) := rfl
theorem rs_eq {l : List Nat} {X : Fq2 × Int} (h : X = rx l) : rs l = sqrt2 (X.1 * X.1 * X.1 + small 4 4) := by subst h; rfl
theorem read_to {X : Fq2 × Int} {r : Fq2 × Int} (h : X = r) : Value.tuple #[encF r.1, .int .i64 r.2] = .tuple #[encF X.1, .int .i64 X.2] := by rw [h]
theorem sqrt_to {X : Fq2 × Bool} {r : Fq2 × Bool} (h : X = r) : Value.tuple #[encF r.1, .bool r.2] = .tuple #[encF X.1, .bool X.2] := by rw [h]
theorem rd1_x {l : List Nat} {X : Fq2 × Int} (hX : X = rx l) (h : (markE l 96).1 = 0) (h2 : fB (b0 l) = false) (h3 : X.2 ≠ 0) : rd1 l = ((0, 0), X.2) := by subst hX; unfold rd1; rw [if_neg (fun h3 => h3 h), if_neg (by rw [h2]; decide), if_pos h3]
theorem rd1_y {l : List Nat} {X Y : Fq2 × Int} (hX : X = rx l) (hY : Y = ry l) (h : (markE l 96).1 = 0) (h2 : fB (b0 l) = false) (h3 : X.2 = 0) (h4 : 96 < l.length) (h5 : Y.2 ≠ 0) : rd1 l = ((0, 0), Y.2) := by
  subst hX; subst hY; unfold rd1; rw [if_neg (fun h3 => h3 h), if_neg (by rw [h2]; decide), if_neg (fun h => h h3), if_pos h4, if_pos h5]
theorem rd1_long {l : List Nat} {X Y : Fq2 × Int} (hX : X = rx l) (hY : Y = ry l) (h : (markE l 96).1 = 0) (h2 : fB (b0 l) = false) (h3 : X.2 = 0) (h4 : 96 < l.length) (h5 : Y.2 = 0) : rd1 l = fin1 (X.1, Y.1) (onB (X.1, Y.1)) := by
  subst hX; subst hY; unfold rd1; rw [if_neg (fun h3 => h3 h), if_neg (by rw [h2]; decide), if_neg (fun h => h h3), if_pos h4, if_neg (fun h => h h5)]
theorem rd1_neg {l : List Nat} {X : Fq2 × Int} {sq : Fq2 × Bool} (hX : X = rx l) (hs : sq = sqrt2 (X.1 * X.1 * X.1 + small 4 4)) (h : (markE l 96).1 = 0) (h2 : fB (b0 l) = false) (h3 : X.2 = 0) (h4 : ¬ 96 < l.length) (h5 : large2 sq.1 ≠ lB (b0 l)) : rd1 l = fin1 (X.1, 0 - sq.1) sq.2 := by
  rw [← rs_eq hX] at hs
  subst hX; subst hs; unfold rd1; rw [if_neg (fun h3 => h3 h), if_neg (by rw [h2]; decide), if_neg (fun h => h h3), if_neg h4, if_pos h5]
theorem rd1_pos {l : List Nat} {X : Fq2 × Int} {sq : Fq2 × Bool} (hX : X = rx l) (hs : sq = sqrt2 (X.1 * X.1 * X.1 + small 4 4)) (h : (markE l 96).1 = 0) (h2 : fB (b0 l) = false) (h3 : X.2 = 0) (h4 : ¬ 96 < l.length) (h5 : large2 sq.1 = lB (b0 l)) : rd1 l = fin1 (X.1, sq.1) sq.2 := by
  rw [← rs_eq hX] at hs
  subst hX; subst hs; unfold rd1; rw [if_neg (fun h3 => h3 h), if_neg (by rw [h2]; decide), if_neg (fun h => h h3), if_neg h4, if_neg (fun h => h h5)]
theorem fin_no {p : Pt} : fin1 p false = ((0, 0), 13) := if_pos (.inl rfl)
theorem fin_zero {p : Pt} {ok : Bool} (h : p = (0, 0)) : fin1 p ok = ((0, 0), 13) := if_pos (.inr h)
theorem fin_grp {p : Pt} (h : p ≠ (0, 0)) (h2 : inB p = false) : fin1 p true = ((0, 0), 14) := by unfold fin1; rw [if_neg (fun h3 => h3.elim (fun h => by cases h) h), if_pos h2]
theorem fin_ok {p : Pt} (h : p ≠ (0, 0)) (h2 : inB p = true) : fin1 p true = (p, 0) := by unfold fin1; rw [if_neg (fun h3 => h3.elim (fun h => by cases h) h), if_neg (by rw [h2]; decide)]
theorem rd_post {l : List Nat} {p : Pt} {e : Int} (h : rd1 l = (p, e)) : Value.tuple #[encP p, .int .i64 e] = .tuple #[encP (rd1 l).1, .int .i64 (rd1 l).2] := by rw [h]
attribute [local irreducible] sqrt2 read2 inB

theorem en30 : Vm.Enters Tryd.prog 30 := Vm.Enters.of fun _ _ => by kernel_rfl
theorem en31 : Vm.Enters Tryd.prog 31 := Vm.Enters.of fun _ _ => by kernel_rfl
theorem en39 : Vm.Enters Tryd.prog 39 := Vm.Enters.of fun _ _ => by kernel_rfl
set_option maxHeartbeats 8000000 in
set_option maxRecDepth 100000 in
theorem ReadG2_ok {G' : Hp} {v : Value} {l : List Nat} (hB : Bs G' v l) (hlen0 : l.length ≤ 1000000) {w : World} (hG : Blocks (G' ++ GH T) w)  : Vm.Pure Tryd.prog 24 #[v] w (.tuple #[encP (rd1 l).1, .int .i64 (rd1 l).2]) := by
  obtain ⟨ad, cap, hvv⟩ := hB.shape
  refine pure_of_W (n := 87) (args := [v]) Tryd.func24 rfl Tryd.ntmps24 (Nat.le_of_ble_eq_true rfl) hG ?_
  refine sStart ?_
  refine sSeq ?_
  subst hvv
  refine W.region ?_
  refine OpsW.fresh (fr_alloc z48r) rfl fun b2 => ?_
  refine OpsW.det (det_assign rfl) rfl ?_
  refine sNext ?_
  refine W.keep (F' := [(2, _), (0, _)]) ⟨rfl, rfl, trivial⟩ ?_
  refine sSeq ?_
  rcases Decidable.em ((markE l 96).1 = 0) with hE | hE
  · skip
    refine W.region ?_
    refine OpsW.det (det_move rfl) rfl ?_
    refine OpsW.new (new_call en53 rfl (fun w hb ho => chead_ok_ok (G' := G') (n := 96) hB (by decide) (by decide) hlen0 hE ho.blocks)) rfl fun p14 hp14 => ?_
    refine OpsW.norm (F' := [(14, _), (13, _), (2, _), (0, _)]) (H' := [(p14.1, blk (bcells (cl l) ++ p14.2.2) 5), (b2, _)]) rfl rfl ?_
    refine OpsW.det (det_move rfl) rfl ?_
    refine OpsW.det (det_extract rfl rfl) rfl ?_
    refine OpsW.det (det_extract rfl rfl) rfl ?_
    refine OpsW.det (det_extract rfl rfl) rfl ?_
    refine OpsW.det (det_extract rfl rfl) rfl ?_
    refine OpsW.det (det_assign rfl) rfl ?_
    refine OpsW.det (det_assign rfl) rfl ?_
    refine OpsW.det (det_assign rfl) rfl ?_
    refine OpsW.det (det_assign rfl) rfl ?_
    refine sNext ?_
    refine W.keep (F' := [(7, _), (6, _), (5, _), (4, _), (2, _)]) ⟨rfl, rfl, rfl, rfl, rfl, trivial⟩ ?_
    refine sSeq ?_
    refine sSeq ?_
    refine W.region ?_
    refine OpsW.det (det_move rfl) rfl ?_
    refine OpsW.det (Det.to (det_neq rfl rfl) (congrArg Value.bool (rfl))) rfl ?_
    refine OpsW.det (det_move rfl) rfl ?_
    refine OpsW.guard_yes rfl rfl ?_
    refine OpsW.det (det_move rfl) rfl ?_
    refine OpsW.det (det_pick rfl rfl) rfl ?_
    refine sNext ?_
    refine W.keep (F' := [(23, _), (7, _), (6, _), (4, _), (2, _)]) ⟨rfl, rfl, rfl, rfl, rfl, trivial⟩ ?_
    refine W.cond rfl (fun hc23 => ?_) (fun hc23 => ?_)
    · skip
      refine sSeq ?_
      refine W.region ?_
      refine OpsW.det (det_zero bz48) rfl ?_
      refine OpsW.det (det_move rfl) rfl ?_
      refine OpsW.storeW48 rfl rfl (Upd.there (Upd.here)) ?_
      refine OpsW.det (det_assign rfl) rfl ?_
      refine sNext ?_
      refine W.keep (F' := [(3, _), (2, _)]) ⟨rfl, rfl, trivial⟩ ?_
      refine sRet ?_
      exact done2 Tryd.results24 (rv_cellA ty48 rfl (List.Mem.tail _ (List.Mem.head _)) rfl) (rv_tmp rfl) (rd_post (rd1_far hE hc23))
    · skip
      have hlens := mark_lens hE
      have hpos : 0 < l.length := by omega
      have hcap := hp14.2
      have hcB := cl_Bs (sp := l) (b := p14.1) (cap := p14.2.1) (sps := p14.2.2) hB.small hpos hp14.2
      have hcl := cl_len hpos
      have hT1 := Bs_take1 (k := 96) hcB (by omega)
      rw [hcl] at hcB
      refine sSkip ?_
      refine sSeq ?_
      obtain ⟨X, hX⟩ : ∃ X, X = rx l := ⟨_, rfl⟩
      refine W.region ?_
      refine OpsW.det (det_move rfl) rfl ?_
      refine OpsW.det ((det_slice (lo := none) (hi := some (.const (.int .i64 96))) (l := 0) (h := 96) u22 sz5 rfl rfl ⟨_, rfl⟩ (by omega) (by omega) (by omega)).to (v := .slice (some ⟨p14.1, 0, none⟩) 96 p14.2.1) (by simp)) rfl ?_
      refine OpsW.det ((det_call en25 rfl (fun w hb ho => Read_ok (G' := [(p14.1, blk (bcells (cl l) ++ p14.2.2) 5)]) (l := (cl l).take 96) hT1 (blocks_cons (hb _ (by repeat (first | exact List.Mem.head _ | apply List.Mem.tail))) (fun p hp => ho.look (List.mem_append_right _ hp))))).to (v := .tuple #[encF X.1, .int .i64 X.2]) (read_to (hX.trans (rx_eq l)))) rfl ?_
      refine OpsW.det (det_move rfl) rfl ?_
      refine OpsW.det (det_extract rfl rfl) rfl ?_
      refine OpsW.det (det_extract rfl rfl) rfl ?_
      refine OpsW.fresh (fr_alloc z46r) rfl fun b8 => ?_
      refine OpsW.storeW46 rfl rfl (Upd.here) ?_
      refine OpsW.det (det_assign rfl) rfl ?_
      refine sNext ?_
      refine W.keep (F' := [(7, _), (8, _), (6, _), (4, _), (2, _)]) ⟨rfl, rfl, rfl, rfl, rfl, trivial⟩ ?_
      refine sSeq ?_
      refine sSeq ?_
      refine W.region ?_
      refine OpsW.det (det_move rfl) rfl ?_
      refine OpsW.det (det_neq rfl rfl) rfl ?_
      refine sNext ?_
      refine W.keep (F' := [(33, _), (7, _), (8, _), (6, _), (4, _), (2, _)]) ⟨rfl, rfl, rfl, rfl, rfl, rfl, trivial⟩ ?_
      refine W.cond rfl (fun hc33 => ?_) (fun hc33 => ?_)
      · skip
        refine sSeq ?_
        refine W.region ?_
        refine OpsW.det (det_zero bz48) rfl ?_
        refine OpsW.det (det_move rfl) rfl ?_
        refine OpsW.storeW48 rfl rfl (Upd.there (Upd.there (Upd.here))) ?_
        refine OpsW.det (det_assign rfl) rfl ?_
        refine sNext ?_
        refine W.keep (F' := [(3, _), (2, _)]) ⟨rfl, rfl, trivial⟩ ?_
        refine sRet ?_
        exact done2 Tryd.results24 (rv_cellA ty48 rfl (List.Mem.tail _ (List.Mem.tail _ (List.Mem.head _))) rfl) (rv_tmp rfl) (rd_post (rd1_x hX hE hc23 (ne_of_bne hc33)))
      · skip
        refine sSkip ?_
        refine sSeq ?_
        obtain ⟨sq, hsq⟩ : ∃ s, s = sqrt2 (X.1 * X.1 * X.1 + small 4 4) := ⟨_, rfl⟩
        refine W.draw mixed 11 [[], [0], [], [0, 1, 2], [0, 1, 2, 3], [0, 1, 2, 3, 4], [0, 1, 2, 3, 4, 5], [0, 1, 2, 3, 4, 5, 6], [0, 1, 2, 3, 4, 5, 6, 7], [0, 1, 2, 3, 4, 5, 6, 7], [], [0, 1, 2, 3, 4, 5, 6, 7, 8, 10], [0, 1, 2, 3, 4, 5, 6, 7, 8, 9, 10, 11]] (cl_lt (by decide)) ?_
        refine HeadR.start (cl_lt (by decide)) ?_
        refine HeadR.det rfl (fun β hβ => (det_loadW46 rfl (List.Mem.head _))) ?_
        refine HeadR.det rfl (fun β hβ => (det_call en26 rfl (fun w hb ho => Square_ok (fun p hp => ho.look (List.mem_append_right _ hp))))) ?_
        refine HeadR.det rfl (fun β hβ => (det_loadW46 rfl (List.Mem.head _))) ?_
        refine HeadR.det rfl (fun β hβ => (det_call en27 rfl (fun w hb ho => Mul_ok (fun p hp => ho.look (List.mem_append_right _ hp))))) ?_
        refine HeadR.det rfl (fun β hβ => (det_call en29 rfl (fun w hb ho => Small_ok (m := 4) (n := 4) (by decide) (by decide) (fun p hp => ho.look (List.mem_append_right _ hp))))) ?_
        refine HeadR.det rfl (fun β hβ => (det_call en28 rfl (fun w hb ho => Add_ok (fun p hp => ho.look (List.mem_append_right _ hp))))) ?_
        refine HeadR.det rfl (fun β hβ => ((det_call en31 rfl (fun w hb ho => Sqrt_ok (x := X.1 * X.1 * X.1 + small 4 4) (fun p hp => ho.look (List.mem_append_right _ hp)))).to (v := .tuple #[encF sq.1, .bool sq.2]) (sqrt_to hsq))) ?_
        refine HeadR.det rfl (fun β hβ => (det_move rfl)) ?_
        refine HeadR.det rfl (fun β hβ => (det_extract rfl rfl)) ?_
        refine HeadR.flt rfl (fun _ _ _ _ hs => flt_extract hs rfl rfl) ?_
        refine HeadR.fresh rfl (fun β hβ => (fr_alloc z46r).new) ?_
        refine HeadR.done ⟨by kernel_rfl, fun β hβ => ?_⟩
        refine OpsW.norm (F' := [(37, _), (38, _), (39, _), (40, _), (41, _), (42, _), (43, _), (36, _), (44, _), (45, _), (9, .pointer (some ⟨(β 9).1, 0, none⟩)), (33, _), (7, _), (8, _), (6, _), (4, _), (2, _)]) (H' := [(_, _), (_, _), (_, _), (_, _)]) rfl rfl ?_
        generalize (β 9).1 = b9
        refine OpsW.storeW46 rfl rfl (Upd.here) ?_
        refine OpsW.det (det_assign rfl) rfl ?_
        refine sNext ?_
        refine W.keep (F' := [(10, _), (9, _), (8, _), (6, _), (4, _), (2, _)]) ⟨rfl, rfl, rfl, rfl, rfl, rfl, trivial⟩ ?_
        refine sSeq ?_
        refine sSeq ?_
        refine sCut2 (σ := Fq2 × Bool) (fun s => [(10, .bool s.2), (9, .pointer (some ⟨b9, 0, none⟩)), (8, .pointer (some ⟨b8, 0, none⟩)), (2, .pointer (some ⟨b2, 0, none⟩))]) (fun s => [(b9, blk (cellsF s.1) 46), (b8, blk (cellsF X.1) 46), (b2, blk (cellsP (0, 0)) 48)]) (fun s => rd1 l = fin1 (X.1, s.1) s.2) ?_ ?_
        · skip
          refine W.region ?_
          refine OpsW.det (det_move rfl) rfl ?_
          refine OpsW.det (det_len u22 rfl) rfl ?_
          refine OpsW.det (det_gtr rfl rfl) rfl ?_
          refine sNext ?_
          refine W.keep (F' := [(48, _), (10, _), (9, _), (8, _), (6, _), (4, _), (2, _)]) ⟨rfl, rfl, rfl, rfl, rfl, rfl, rfl, trivial⟩ ?_
          refine W.cond rfl (fun hc48 => ?_) (fun hc48 => ?_)
          · skip
            have h48 : 96 < l.length := by have h := hc48; simp only [decide_eq_true_eq] at h; omega
            have hT2 := Bs_drop1 (k := 96) (show Bs [(p14.1, blk (bcells (cl l) ++ p14.2.2) 5)] (.slice (some ⟨p14.1, 0, none⟩) (cl l).length p14.2.1) (cl l) by rw [hcl]; exact hcB) (by omega)
            rw [hcl] at hT2
            refine sSeq ?_
            refine sSeq ?_
            obtain ⟨Y, hY⟩ : ∃ Y, Y = ry l := ⟨_, rfl⟩
            refine W.region ?_
            refine OpsW.det (det_move rfl) rfl ?_
            refine OpsW.det ((det_slice (lo := some (.const (.int .i64 96))) (hi := none) (l := 96) (h := l.length) u22 sz5 rfl ⟨_, rfl⟩ rfl (by omega) (by omega) (by omega)).to (v := .slice (some ⟨p14.1, 0 + 96, none⟩) (l.length - 96) (p14.2.1 - 96)) (by rw [if_neg (by omega), Nat.mul_one])) rfl ?_
            refine OpsW.det ((det_call en25 rfl (fun w hb ho => Read_ok (G' := [(p14.1, blk (bcells (cl l) ++ p14.2.2) 5)]) (l := (cl l).drop 96) hT2 (blocks_cons (hb _ (by repeat (first | exact List.Mem.head _ | apply List.Mem.tail))) (fun p hp => ho.look (List.mem_append_right _ hp))))).to (v := .tuple #[encF Y.1, .int .i64 Y.2]) (read_to (hY.trans (ry_eq l)))) rfl ?_
            refine OpsW.det (det_move rfl) rfl ?_
            refine OpsW.det (det_extract rfl rfl) rfl ?_
            refine OpsW.det (det_extract rfl rfl) rfl ?_
            refine OpsW.storeW46 rfl rfl (Upd.here) ?_
            refine OpsW.det (det_assign rfl) rfl ?_
            refine sNext ?_
            refine W.keep (F' := [(7, _), (9, _), (8, _), (2, _)]) ⟨rfl, rfl, rfl, rfl, trivial⟩ ?_
            refine sSeq ?_
            refine W.region ?_
            refine OpsW.det (det_move rfl) rfl ?_
            refine OpsW.det (det_neq rfl rfl) rfl ?_
            refine sNext ?_
            refine W.keep (F' := [(56, _), (7, _), (9, _), (8, _), (2, _)]) ⟨rfl, rfl, rfl, rfl, rfl, trivial⟩ ?_
            refine W.cond rfl (fun hc56 => ?_) (fun hc56 => ?_)
            · skip
              refine sSeq ?_
              refine W.region ?_
              refine OpsW.det (det_zero bz48) rfl ?_
              refine OpsW.det (det_move rfl) rfl ?_
              refine OpsW.storeW48 rfl rfl (Upd.there (Upd.there (Upd.there (Upd.here)))) ?_
              refine OpsW.det (det_assign rfl) rfl ?_
              refine sNext ?_
              refine W.keep (F' := [(3, _), (2, _)]) ⟨rfl, rfl, trivial⟩ ?_
              refine sRet ?_
              refine cutRet ?_
              exact done2 Tryd.results24 (rv_cellA ty48 rfl (List.Mem.tail _ (List.Mem.tail _ (List.Mem.tail _ (List.Mem.head _)))) rfl) (rv_tmp rfl) (rd_post (rd1_y hX hY hE hc23 (eq_of_bne hc33) h48 (ne_of_bne hc56)))
            · skip
              refine sSkip ?_
              refine W.region ?_
              refine OpsW.det (det_loadW46 rfl (List.Mem.tail _ (List.Mem.head _))) rfl ?_
              refine OpsW.det (det_loadW46 rfl (List.Mem.head _)) rfl ?_
              refine OpsW.det (det_build rfl bld48) rfl ?_
              refine OpsW.det (det_call en39 rfl (fun w hb ho => POn_ok (fun p hp => ho.look (List.mem_append_right _ hp)))) rfl ?_
              refine OpsW.det (det_assign rfl) rfl ?_
              refine sLast ?_
              refine cutOk (Y.1, onB (X.1, Y.1)) (rd1_long hX hY hE hc23 (eq_of_bne hc33) h48 (eq_of_bne hc56)) ⟨rfl, rfl, rfl, rfl, trivial⟩ ?_
              repeat (first | exact List.Sublist.refl _ | exact List.nil_sublist _ | refine List.Sublist.cons_cons _ ?_ | refine List.Sublist.cons _ ?_)
          · skip
            have h48 : ¬ 96 < l.length := by have h := hc48; simp only [decide_eq_false_iff_not] at h; omega
            refine sSeq ?_
            refine W.region ?_
            refine OpsW.det (det_loadW46 rfl (List.Mem.head _)) rfl ?_
            refine OpsW.det (det_call en32 rfl (fun w hb ho => Cw.Large2_ok (fun p hp => ho.look (List.mem_append_right _ hp)))) rfl ?_
            refine OpsW.det (det_move rfl) rfl ?_
            refine OpsW.det (det_neqb u4 rfl rfl) rfl ?_
            refine sNext ?_
            refine W.keep (F' := [(66, _), (10, _), (9, _), (8, _), (2, _)]) ⟨rfl, rfl, rfl, rfl, rfl, trivial⟩ ?_
            refine W.cond rfl (fun hc66 => ?_) (fun hc66 => ?_)
            · skip
              refine W.region ?_
              refine OpsW.det (det_loadW46 rfl (List.Mem.head _)) rfl ?_
              refine OpsW.det (det_call en33 rfl (fun w hb ho => Neg_ok (fun p hp => ho.look (List.mem_append_right _ hp)))) rfl ?_
              refine OpsW.storeW46 rfl rfl (Upd.here) ?_
              refine sLast ?_
              refine cutOk (0 - sq.1, sq.2) (rd1_neg hX hsq hE hc23 (eq_of_bne hc33) h48 (by have h := hc66; simpa using h)) ⟨rfl, rfl, rfl, rfl, trivial⟩ ?_
              repeat (first | exact List.Sublist.refl _ | exact List.nil_sublist _ | refine List.Sublist.cons_cons _ ?_ | refine List.Sublist.cons _ ?_)
            · skip
              refine sSkip0 ?_
              refine cutOk (sq.1, sq.2) (rd1_pos hX hsq hE hc23 (eq_of_bne hc33) h48 (by have h := hc66; simpa using h)) ⟨rfl, rfl, rfl, rfl, trivial⟩ ?_
              repeat (first | exact List.Sublist.refl _ | exact List.nil_sublist _ | refine List.Sublist.cons_cons _ ?_ | refine List.Sublist.cons _ ?_)
        · skip
          rintro ⟨y, okb⟩ hrd
          change rd1 l = fin1 (X.1, y) okb at hrd
          refine W.norm (F' := [(10, .bool okb), (9, .pointer (some ⟨b9, 0, none⟩)), (8, .pointer (some ⟨b8, 0, none⟩)), (2, .pointer (some ⟨b2, 0, none⟩))]) (H' := [(b9, blk (cellsF y) 46), (b8, blk (cellsF X.1) 46), (b2, blk (cellsP (0, 0)) 48)]) rfl rfl ?_
          refine sSeq ?_
          refine W.region ?_
          refine OpsW.det (det_loadW46 rfl (List.Mem.tail _ (List.Mem.head _))) rfl ?_
          refine OpsW.det (det_loadW46 rfl (List.Mem.head _)) rfl ?_
          refine OpsW.det (det_build rfl bld48) rfl ?_
          refine OpsW.fresh (fr_alloc z48r) rfl fun b11 => ?_
          refine OpsW.storeW48 rfl rfl (Upd.here) ?_
          refine sNext ?_
          refine W.keep (F' := [(11, _), (10, _), (2, _)]) ⟨rfl, rfl, rfl, trivial⟩ ?_
          refine sSeq ?_
          refine sBlock ?_
          refine sSeq ?_
          rcases okb with _ | _
          · skip
            refine W.region ?_
            refine OpsW.det (det_move rfl) rfl ?_
            refine OpsW.det (det_not rfl) rfl ?_
            refine OpsW.det (det_move rfl) rfl ?_
            refine OpsW.guard_no rfl rfl rfl ?_
            refine OpsW.guard_no rfl rfl rfl ?_
            refine OpsW.guard_no rfl rfl rfl ?_
            refine OpsW.det (det_pick rfl rfl) rfl ?_
            refine OpsW.det (det_assign rfl) rfl ?_
            refine sNext ?_
            refine W.keep (F' := [(72, _), (11, _), (2, _)]) ⟨rfl, rfl, rfl, trivial⟩ ?_
            refine W.cond_true rfl ?_
            refine sSeq ?_
            refine W.region ?_
            refine OpsW.det (det_zero bz48) rfl ?_
            refine OpsW.storeW48 rfl rfl (Upd.there (Upd.there (Upd.there (Upd.here)))) ?_
            refine OpsW.det (det_assign rfl) rfl ?_
            refine sNext ?_
            refine W.keep (F' := [(3, _), (2, _)]) ⟨rfl, rfl, trivial⟩ ?_
            refine sRet ?_
            refine retBlk ?_
            exact done2 Tryd.results24 (rv_cellA ty48 rfl (List.Mem.tail _ (List.Mem.tail _ (List.Mem.tail _ (List.Mem.head _)))) rfl) (rv_tmp rfl) (rd_post (hrd.trans fin_no))
          · skip
            refine W.region ?_
            refine OpsW.det (det_move rfl) rfl ?_
            refine OpsW.det (det_not rfl) rfl ?_
            refine OpsW.det (det_move rfl) rfl ?_
            refine OpsW.guard_yes rfl rfl ?_
            refine OpsW.det (det_loadW48 rfl (List.Mem.head _)) rfl ?_
            refine OpsW.guard_yes rfl rfl ?_
            refine OpsW.det (det_zero bz48) rfl ?_
            refine OpsW.guard_yes rfl rfl ?_
            refine OpsW.det (det_eql48 rfl rfl) rfl ?_
            refine OpsW.det (det_pick rfl rfl) rfl ?_
            refine OpsW.det (det_assign rfl) rfl ?_
            refine sNext ?_
            refine W.keep (F' := [(72, _), (11, _), (2, _)]) ⟨rfl, rfl, rfl, trivial⟩ ?_
            refine W.cond rfl (fun hc72 => ?_) (fun hc72 => ?_)
            · skip
              refine sSeq ?_
              refine W.region ?_
              refine OpsW.det (det_zero bz48) rfl ?_
              refine OpsW.storeW48 rfl rfl (Upd.there (Upd.there (Upd.there (Upd.here)))) ?_
              refine OpsW.det (det_assign rfl) rfl ?_
              refine sNext ?_
              refine W.keep (F' := [(3, _), (2, _)]) ⟨rfl, rfl, trivial⟩ ?_
              refine sRet ?_
              refine retBlk ?_
              exact done2 Tryd.results24 (rv_cellA ty48 rfl (List.Mem.tail _ (List.Mem.tail _ (List.Mem.tail _ (List.Mem.head _)))) rfl) (rv_tmp rfl) (rd_post (hrd.trans (fin_zero (of_decide_eq_true hc72))))
            · skip
              refine sSeq ?_
              refine W.region ?_
              refine OpsW.det (det_loadW48 rfl (List.Mem.head _)) rfl ?_
              refine OpsW.det (det_call en30 rfl (fun w hb ho => PIn_ok (fun p hp => ho.look (List.mem_append_right _ hp)))) rfl ?_
              refine OpsW.det (det_not rfl) rfl ?_
              refine OpsW.det (det_assign rfl) rfl ?_
              refine sNext ?_
              refine W.keep (F' := [(81, _), (11, _), (2, _)]) ⟨rfl, rfl, rfl, trivial⟩ ?_
              refine W.cond rfl (fun hc81 => ?_) (fun hc81 => ?_)
              · skip
                refine sSeq ?_
                refine W.region ?_
                refine OpsW.det (det_zero bz48) rfl ?_
                refine OpsW.storeW48 rfl rfl (Upd.there (Upd.there (Upd.there (Upd.here)))) ?_
                refine OpsW.det (det_assign rfl) rfl ?_
                refine sNext ?_
                refine W.keep (F' := [(3, _), (2, _)]) ⟨rfl, rfl, trivial⟩ ?_
                refine sRet ?_
                refine retBlk ?_
                exact done2 Tryd.results24 (rv_cellA ty48 rfl (List.Mem.tail _ (List.Mem.tail _ (List.Mem.tail _ (List.Mem.head _)))) rfl) (rv_tmp rfl) (rd_post (hrd.trans (fin_grp (of_decide_eq_false hc72) (by simpa using hc81))))
              · skip
                refine sSkip0 ?_
                refine bNext ?_
                refine W.keep (F' := [(11, _), (2, _)]) ⟨rfl, rfl, trivial⟩ ?_
                refine sSeq ?_
                refine W.region ?_
                refine OpsW.det (det_loadW48 rfl (List.Mem.head _)) rfl ?_
                refine OpsW.storeW48 rfl rfl (Upd.there (Upd.there (Upd.there (Upd.here)))) ?_
                refine OpsW.det (det_assign rfl) rfl ?_
                refine sNext ?_
                refine W.keep (F' := [(3, _), (2, _)]) ⟨rfl, rfl, trivial⟩ ?_
                refine sRet ?_
                exact done2 Tryd.results24 (rv_cellA ty48 rfl (List.Mem.tail _ (List.Mem.tail _ (List.Mem.tail _ (List.Mem.head _)))) rfl) (rv_tmp rfl) (rd_post (hrd.trans (fin_ok (of_decide_eq_false hc72) (by simpa using hc81))))
  · skip
    refine W.region ?_
    refine OpsW.det (det_move rfl) rfl ?_
    refine OpsW.det (det_call en53 rfl (fun w hb ho => chead_no_ok (G' := G') (n := 96) hB (by decide) (by decide) hlen0 hE ho.blocks)) rfl ?_
    refine OpsW.det (det_move rfl) rfl ?_
    refine OpsW.det (det_extract rfl rfl) rfl ?_
    refine OpsW.det (det_extract rfl rfl) rfl ?_
    refine OpsW.det (det_extract rfl rfl) rfl ?_
    refine OpsW.det (det_extract rfl rfl) rfl ?_
    refine OpsW.det (det_assign rfl) rfl ?_
    refine OpsW.det (det_assign rfl) rfl ?_
    refine OpsW.det (det_assign rfl) rfl ?_
    refine OpsW.det (det_assign rfl) rfl ?_
    refine sNext ?_
    refine W.keep (F' := [(7, _), (6, _), (5, _), (4, _), (2, _)]) ⟨rfl, rfl, rfl, rfl, rfl, trivial⟩ ?_
    refine sSeq ?_
    refine sSeq ?_
    refine W.region ?_
    refine OpsW.det (det_move rfl) rfl ?_
    refine OpsW.det (Det.to (det_neq rfl rfl) (congrArg Value.bool ((bne_iff_ne.2 hE)))) rfl ?_
    refine OpsW.det (det_move rfl) rfl ?_
    refine OpsW.guard_no rfl rfl rfl ?_
    refine OpsW.det (det_pick rfl rfl) rfl ?_
    refine sNext ?_
    refine W.keep (F' := [(23, _), (7, _), (6, _), (4, _), (2, _)]) ⟨rfl, rfl, rfl, rfl, rfl, trivial⟩ ?_
    refine W.cond_true rfl ?_
    refine sSeq ?_
    refine W.region ?_
    refine OpsW.det (det_zero bz48) rfl ?_
    refine OpsW.det (det_move rfl) rfl ?_
    refine OpsW.storeW48 rfl rfl (Upd.here) ?_
    refine OpsW.det (det_assign rfl) rfl ?_
    refine sNext ?_
    refine W.keep (F' := [(3, _), (2, _)]) ⟨rfl, rfl, trivial⟩ ?_
    refine sRet ?_
    exact done2 Tryd.results24 (rv_cellA ty48 rfl (List.Mem.head _) rfl) (rv_tmp rfl) (rd_post (rd1_mark hE))

end Go.Cw

/- What the reading of a point of the second group comes to: the errors, the roots. -/
namespace Go.Cw
open Go.Cu Go Go.Vm
set_option linter.unusedVariables false
set_option linter.unusedSimpArgs false
set_option linter.unusedSectionVars false
open CR
theorem four_eq : four = small 4 4 := rfl
theorem four_ne : (0 : Fq2) * 0 ≠ 0 * 0 * 0 + small 4 4 := by decide +kernel
theorem fin_of {q : Pt} (h : q.2 * q.2 = q.1 * q.1 * q.1 + small 4 4) : onB q = true ∧ q ≠ (0, 0) := by
  refine ⟨?_, fun e => ?_⟩
  · unfold onB
    rw [Bool.or_eq_true]; right
    exact decide_eq_true h
  · rw [e] at h
    exact four_ne h
theorem fin_curve {q : Pt} (h : ¬ q.2 * q.2 = q.1 * q.1 * q.1 + small 4 4) : fin1 q (onB q) = ((0, 0), 13) := by
  by_cases hz : q = (0, 0)
  · exact fin_zero hz
  · have : onB q = false := by
      unfold onB
      rw [decide_eq_false hz, Bool.false_or]
      exact decide_eq_false h
    rw [this]; exact fin_no
theorem sqrt2_sq {x : Fq2} {s : Fq2 × Bool} (hs : s = sqrt2 x) (h : s.2 = true) : s.1 * s.1 = x := by
  subst hs
  exact sqrt2_ok h
theorem neg_sq {y c : Fq2} (h : y * y = c) : (0 - y) * (0 - y) = c := by
  rw [← h]
  exact (show ((0 - y) * (0 - y)) = (y * y) from ring_id (fun vi_ => vget vi_ [y]) (.mul (.sub .zero (.var 0)) (.sub .zero (.var 0))) (.mul (.var 0) (.var 0)) (by kernel_rfl))
theorem fin_err {p : Pt} {ok : Bool} (h : (fin1 p ok).2 ≠ 0) : (fin1 p ok).1 = (0, 0) := by
  unfold fin1 at h ⊢
  split
  · rfl
  · rename_i h1
    rw [if_neg h1] at h
    split
    · rfl
    · rename_i h2
      rw [if_neg h2] at h
      exact absurd rfl h
theorem rd1_err {l : List Nat} {R : Pt × Int} (hR : R = rd1 l) (h : R.2 ≠ 0) : R.1 = (0, 0) := by
  by_cases h1 : (markE l 96).1 = 0
  · rcases h2 : fB (b0 l) with _ | _
    · obtain ⟨X, hX⟩ : ∃ X, X = rx l := ⟨_, rfl⟩
      by_cases h3 : X.2 = 0
      · by_cases h4 : 96 < l.length
        · obtain ⟨Y, hY⟩ : ∃ Y, Y = ry l := ⟨_, rfl⟩
          by_cases h5 : Y.2 = 0
          · rw [rd1_long hX hY h1 h2 h3 h4 h5] at hR; subst hR; exact fin_err h
          · rw [rd1_y hX hY h1 h2 h3 h4 h5] at hR; rw [hR]
        · obtain ⟨sq, hs⟩ : ∃ s, s = sqrt2 (X.1 * X.1 * X.1 + small 4 4) := ⟨_, rfl⟩
          by_cases h5 : large2 sq.1 = lB (b0 l)
          · rw [rd1_pos hX hs h1 h2 h3 h4 h5] at hR; subst hR; exact fin_err h
          · rw [rd1_neg hX hs h1 h2 h3 h4 h5] at hR; subst hR; exact fin_err h
      · rw [rd1_x hX h1 h2 h3] at hR; rw [hR]
    · rw [rd1_far h1 h2] at hR; rw [hR]
  · rw [rd1_mark h1] at hR; rw [hR]
theorem read2_err {l : List Nat} {X : Fq2 × Int} (hX : X = read2 l) (h : l.length = 96) (h2 : X.2 ≠ 0) : X.2 = 12 := by
  subst hX
  by_cases h1 : (readF (l.take 48)).2 = 0
  · by_cases h3 : (readF (l.drop 48)).2 = 0
    · rw [read2_yes h h1 h3] at h2; exact absurd rfl h2
    · rw [read2_no h (.inr h3)]
  · rw [read2_no h (.inl h1)]
theorem rx_len {l : List Nat} (h : 96 ≤ l.length) : ((cl l).take 96).length = 96 := by rw [List.length_take, cl_len (by omega)]; omega
theorem ry_len {l : List Nat} (h : l.length = 192) : ((cl l).drop 96).length = 96 := by rw [List.length_drop, cl_len (by omega)]; omega
end Go.Cw

/- The long forms of points: the walks. Conditions: none. -/
namespace Go.Cw
open Go Go.Vm Go.RowKit Go.Proofs Go.Cu
attribute [local irreducible] W OpsW Det Fresh New Writes Vm.Pure Makes Changes ExternTo BuildTo ZeroTo FieldTo IndexTo BinTo SliceTo Vm.Enters
set_option linter.unusedVariables false
set_option linter.unusedSimpArgs false
variable {T : Nat → TypeId × Nat × Nat}

theorem u63 : Tryd.prog.underlying 63 = some (.array 192 5) := by kernel_rfl
def zer192 : List Value := List.replicate 192 (u8 0)
theorem zer192_len : zer192.length = 192 := List.length_replicate ..
theorem z63 : TyZ Tryd.prog 63 (.agg zer192.toArray) zer192 := ⟨fun _ => by kernel_rfl, by kernel_rfl⟩
/-- The coordinates' bytes, one behind the other. -/
def two1 (p : Cu.Pt) : List Value := Cu.fbytes p.1 ++ Cu.fbytes p.2
theorem two1_cons (p : Cu.Pt) : two1 p = u8 (byt p.1.val 47) :: (two1 p).tail := by unfold two1; rw [Cu.fbytes_cons p.1, List.cons_append, List.tail_cons]
theorem two1_len (p : Cu.Pt) : (two1 p).length = 96 := by unfold two1; rw [List.length_append, Cu.fbytes_len, Cu.fbytes_len]
theorem two1_one (p : Cu.Pt) : (two1 p).all (·.oneCell') = true := by unfold two1; rw [List.all_append, Cu.fbytes_one, Cu.fbytes_one]; rfl
/-- The long form of a point of the first group. -/
def full1 (p : Cu.Pt) : List Value := .int .u8 (bitsOf .or .u8 ((byt p.1.val 47 : Nat) : Int) (Cu.flg false (decide (p = (0, 0))) false)) :: (two1 p).tail
theorem full1_len (p : Cu.Pt) : (full1 p).length = 96 := by have h := two1_len p; rw [two1_cons] at h; exact h
theorem full1_one (p : Cu.Pt) : (full1 p).all (·.oneCell') = true := by have h := two1_one p; rw [two1_cons] at h; exact h
theorem two1_at (p : Cu.Pt) : (two1 p)[0 + (0 : Int).toNat * 1]? = some (.int .u8 ((byt p.1.val 47 : Nat) : Int)) := by rw [two1_cons]; rfl
theorem two1_set (p : Cu.Pt) (v : Value) : splice (0 + (0 : Int).toNat * 1) [v] (two1 p) = some (v :: (two1 p).tail) := by
  rw [two1_cons]
  show splice 0 [v] (u8 (byt p.1.val 47) :: (two1 p).tail) = _
  exact splice_app (a := []) (new := [v]) (c := u8 (byt p.1.val 47) :: (two1 p).tail) (Nat.succ_le_succ (Nat.zero_le _))
def two2 (p : Pt) : List Value := f2bytes p.1 ++ f2bytes p.2
theorem two2_cons (p : Pt) : two2 p = u8 (byt p.1.b.val 47) :: (two2 p).tail := by unfold two2; rw [f2bytes_cons p.1, List.cons_append, List.tail_cons]
theorem two2_len (p : Pt) : (two2 p).length = 192 := by unfold two2; rw [List.length_append, f2bytes_len, f2bytes_len]
theorem two2_one (p : Pt) : (two2 p).all (·.oneCell') = true := by unfold two2; rw [List.all_append, f2bytes_one, f2bytes_one]; rfl
/-- The long form of a point of the second group. -/
def full2 (p : Pt) : List Value := .int .u8 (bitsOf .or .u8 ((byt p.1.b.val 47 : Nat) : Int) (Cu.flg false (decide (p = (0, 0))) false)) :: (two2 p).tail
theorem full2_len (p : Pt) : (full2 p).length = 192 := by have h := two2_len p; rw [two2_cons] at h; exact h
theorem full2_one (p : Pt) : (full2 p).all (·.oneCell') = true := by have h := two2_one p; rw [two2_cons] at h; exact h
theorem two2_at (p : Pt) : (two2 p)[0 + (0 : Int).toNat * 1]? = some (.int .u8 ((byt p.1.b.val 47 : Nat) : Int)) := by rw [two2_cons]; rfl
theorem two2_set (p : Pt) (v : Value) : splice (0 + (0 : Int).toNat * 1) [v] (two2 p) = some (v :: (two2 p).tail) := by
  rw [two2_cons]
  show splice 0 [v] (u8 (byt p.1.b.val 47) :: (two2 p).tail) = _
  exact splice_app (a := []) (new := [v]) (c := u8 (byt p.1.b.val 47) :: (two2 p).tail) (Nat.succ_le_succ (Nat.zero_le _))
theorem f2_put1' (x : Fq2) : splice 0 (f2bytes x) zer192 = some (f2bytes x ++ List.replicate 96 (u8 0)) := by
  have := splice_app (a := []) (new := f2bytes x) (c := zer192) (by rw [f2bytes_len, zer192_len]; decide)
  have h2 : zer192.drop 96 = List.replicate 96 (u8 0) := by unfold zer192; rw [List.drop_replicate]
  rw [f2bytes_len, List.nil_append, List.nil_append, h2] at this
  exact this
theorem f2_put2' (x y : Fq2) : splice 96 (f2bytes y) (f2bytes x ++ List.replicate 96 (u8 0)) = some (f2bytes x ++ f2bytes y) := by
  have := splice_app (a := f2bytes x) (new := f2bytes y) (c := List.replicate 96 (u8 0)) (by rw [f2bytes_len, List.length_replicate]; decide)
  rw [f2bytes_len, f2bytes_len, show (List.replicate 96 (u8 0)).drop 96 = [] from rfl, List.append_nil] at this
  exact this

theorem sz63 : sizeIn Tryd.prog 63 = some 192 := by kernel_rfl
theorem ty63 : TyA Tryd.prog 63 192 := ⟨by kernel_rfl, by kernel_rfl⟩
set_option maxRecDepth 100000 in
theorem CFull1_ok {p : Cu.Pt} {w : World} (hG : Blocks (GH T) w)  : Vm.Pure Tryd.prog 35 #[Cu.encP p] w (.agg (full1 p).toArray) := by
  refine pure_of_W (n := 27) (args := [Cu.encP p]) Tryd.func35 rfl Tryd.ntmps35 (Nat.le_of_ble_eq_true rfl) hG ?_
  refine sStart ?_
  refine sSeq ?_
  refine W.region ?_
  refine OpsW.fresh (fr_box rfl rfl) rfl fun b1 => ?_
  refine OpsW.fresh (fr_alloc z60) rfl fun b2 => ?_
  refine sNext ?_
  refine W.keep (F' := [(2, _), (1, _)]) ⟨rfl, rfl, trivial⟩ ?_
  refine sSeq ?_
  refine W.region ?_
  refine OpsW.fresh (fr_alloc z60) rfl fun b3 => ?_
  refine sNext ?_
  refine sSeq ?_
  refine W.draw mixed 8 [[], [0], [0, 1], [], [3], [0, 1, 2, 3, 4], [], [], [0, 1, 2, 3, 4, 5, 6, 7], [0, 1, 2, 3, 4, 5, 6, 7, 8]] (cl_lt (by decide)) ?_
  refine HeadR.start (cl_lt (by decide)) ?_
  refine HeadR.det rfl (fun β hβ => (det_fieldAddr fl31_0 rfl)) ?_
  refine HeadR.det rfl (fun β hβ => (det_loadA ty29 rfl (List.Mem.tail _ (List.Mem.tail _ (List.Mem.head _))) rfl)) ?_
  refine HeadR.det rfl (fun β hβ => (det_call en68 rfl (fun w hb ho => Cu.FBytes_ok ho.blocks))) ?_
  refine HeadR.det rfl (fun β hβ => (det_fieldAddr fl31_1 rfl)) ?_
  refine HeadR.det rfl (fun β hβ => (det_loadA ty29 rfl (List.Mem.tail _ (List.Mem.tail _ (List.Mem.head _))) rfl)) ?_
  refine HeadR.det rfl (fun β hβ => (det_call en68 rfl (fun w hb ho => Cu.FBytes_ok ho.blocks))) ?_
  refine HeadR.fresh rfl (fun β hβ => (fr_alloc z58).new) ?_
  refine HeadR.fresh rfl (fun β hβ => (fr_alloc z58).new) ?_
  refine HeadR.done ⟨by kernel_rfl, fun β hβ => ?_⟩
  refine OpsW.norm (F' := [(6, _), (7, _), (8, _), (9, _), (10, _), (11, _), (4, .pointer (some ⟨(β 4).1, 0, none⟩)), (5, .pointer (some ⟨(β 5).1, 0, none⟩)), (3, _), (2, _), (1, _)]) (H' := [(_, _), (_, _), (_, _), (_, _), (_, _)]) rfl rfl ?_
  generalize (β 4).1 = b4
  generalize (β 5).1 = b5
  refine OpsW.store sz58 rfl rfl rfl (Cu.fbytes_len _) (Cu.fbytes_one _) (Upd.here) (splice_all (by rw [Cu.fbytes_len, fst6_len (Nat.zero_le _)])) ?_
  refine OpsW.store sz58 rfl rfl rfl (Cu.fbytes_len _) (Cu.fbytes_one _) (Upd.there (Upd.here)) (splice_all (by rw [Cu.fbytes_len, fst6_len (Nat.zero_le _)])) ?_
  refine sNext ?_
  refine W.keep (F' := [(4, _), (5, _), (3, _), (2, _), (1, _)]) ⟨rfl, rfl, rfl, rfl, rfl, trivial⟩ ?_
  refine sSeq ?_
  refine W.draw mixed 2 [[], [], [0, 1]] (cl_lt (by decide)) ?_
  refine HeadR.start (cl_lt (by decide)) ?_
  refine HeadR.det rfl (fun β hβ => ((det_sliceArr (lo := none) (hi := none) (l := 0) (h := 96) u60 sz5 rfl rfl rfl (by decide) (by decide)).to (v := .slice (some ⟨b3, 0, none⟩) 96 96) rfl)) ?_
  refine HeadR.det rfl (fun β hβ => ((det_sliceArr (lo := none) (hi := none) (l := 0) (h := 48) u58 sz5 rfl rfl rfl (by decide) (by decide)).to (v := .slice (some ⟨b4, 0, none⟩) 48 48) rfl)) ?_
  refine HeadR.done ⟨by kernel_rfl, fun β hβ => ?_⟩
  refine OpsW.norm (F' := [(12, _), (13, _), (4, _), (5, _), (3, _), (2, _), (1, _)]) (H' := [(_, _), (_, _), (_, _), (_, _), (_, _)]) rfl rfl ?_
  refine OpsW.copy (cs := Cu.fbytes p.1) u22 sz5 rfl rfl (.inl (List.Mem.head _)) (by rw [Cu.fbytes_len]; rfl) (fun j u h => by rw [Nat.zero_add]; exact h) (Cu.fbytes_one _) (Upd.there (Upd.there Upd.here)) (f2_put1 p.1) rfl ?_
  refine sNext ?_
  refine W.keep (F' := [(5, _), (3, _), (2, _), (1, _)]) ⟨rfl, rfl, rfl, rfl, trivial⟩ ?_
  refine sSeq ?_
  refine W.draw mixed 2 [[], [], [0, 1]] (cl_lt (by decide)) ?_
  refine HeadR.start (cl_lt (by decide)) ?_
  refine HeadR.det rfl (fun β hβ => ((det_sliceArr (lo := some (.const (.int .i64 48))) (hi := none) (l := 48) (h := 96) u60 sz5 rfl ⟨_, rfl⟩ rfl (by decide) (by decide)).to (v := .slice (some ⟨b3, 48, none⟩) 48 48) rfl)) ?_
  refine HeadR.det rfl (fun β hβ => ((det_sliceArr (lo := none) (hi := none) (l := 0) (h := 48) u58 sz5 rfl rfl rfl (by decide) (by decide)).to (v := .slice (some ⟨b5, 0, none⟩) 48 48) rfl)) ?_
  refine HeadR.done ⟨by kernel_rfl, fun β hβ => ?_⟩
  refine OpsW.norm (F' := [(15, _), (16, _), (5, _), (3, _), (2, _), (1, _)]) (H' := [(_, _), (_, _), (_, _), (_, _), (_, _)]) rfl rfl ?_
  refine OpsW.copy (cs := Cu.fbytes p.2) u22 sz5 rfl rfl (.inl (List.Mem.tail _ (List.Mem.head _))) (by rw [Cu.fbytes_len]; rfl) (fun j u h => by rw [Nat.zero_add]; exact h) (Cu.fbytes_one _) (Upd.there (Upd.there Upd.here)) (f2_put2 p.1 p.2) rfl ?_
  refine sNext ?_
  refine W.keep (F' := [(3, _), (2, _), (1, _)]) ⟨rfl, rfl, rfl, trivial⟩ ?_
  refine sSeq ?_
  refine W.draw mixed 8 [[], [0], [], [], [2, 3], [2, 3, 4], [0, 1, 2, 3, 4, 5], [0, 1, 2, 3, 4, 5, 6], [0, 1, 2, 3, 4, 5, 6, 7]] (cl_lt (by decide)) ?_
  refine HeadR.start (cl_lt (by decide)) ?_
  refine HeadR.det rfl (fun β hβ => (det_indexAddr_arr u60 sz5 rfl rfl ⟨by decide, by decide⟩)) ?_
  refine HeadR.det rfl (fun β hβ => (det_loadC ty5 rfl (List.Mem.tail _ (List.Mem.tail _ (List.Mem.head _))) (two1_at p))) ?_
  refine HeadR.det rfl (fun β hβ => (det_loadA ty31 rfl (List.Mem.tail _ (List.Mem.tail _ (List.Mem.tail _ (List.Mem.tail _ (List.Mem.head _))))) rfl)) ?_
  refine HeadR.det rfl (fun β hβ => (det_zero bz31)) ?_
  refine HeadR.det rfl (fun β hβ => (det_eql31 rfl rfl)) ?_
  refine HeadR.det rfl (fun β hβ => (det_call en69 rfl (fun w hb ho => Cu.flags_ok (s := false) (n := decide (p = (0, 0))) (l := false) ho.blocks))) ?_
  refine HeadR.det rfl (fun β hβ => (det_or rfl rfl)) ?_
  refine HeadR.det rfl (fun β hβ => (det_indexAddr_arr u60 sz5 rfl rfl ⟨by decide, by decide⟩)) ?_
  refine HeadR.done ⟨by kernel_rfl, fun β hβ => ?_⟩
  refine OpsW.norm (F' := [(18, _), (19, _), (20, _), (21, _), (22, _), (23, _), (24, _), (25, _), (3, _), (2, _), (1, _)]) (H' := [(_, _), (_, _), (_, _), (_, _), (_, _)]) rfl rfl ?_
  refine OpsW.store sz5 rfl rfl rfl rfl rfl (Upd.there (Upd.there (Upd.here))) (two1_set p _) ?_
  refine sNext ?_
  refine W.keep (F' := [(3, _), (2, _)]) ⟨rfl, rfl, trivial⟩ ?_
  refine sSeq ?_
  refine W.region ?_
  refine OpsW.det (det_loadA ty60 rfl (List.Mem.tail _ (List.Mem.tail _ (List.Mem.head _))) (show cut 0 96 (full1 p) = some (full1 p) from cut_all (full1_len p))) rfl ?_
  refine OpsW.store sz60 rfl rfl rfl (full1_len p) (full1_one p) (Upd.there (Upd.there (Upd.there (Upd.here)))) (splice_all (by rw [full1_len, zer96_len])) ?_
  refine sNext ?_
  refine W.keep (F' := [(2, _)]) ⟨rfl, trivial⟩ ?_
  refine sRet ?_
  exact done1 Tryd.results35 (rv_cellA ty60 rfl (List.Mem.tail _ (List.Mem.tail _ (List.Mem.tail _ (List.Mem.head _)))) (show cut 0 96 (full1 p) = some (full1 p) from cut_all (full1_len p))) rfl
set_option maxRecDepth 100000 in
theorem CFull2_ok {p : Pt} {w : World} (hG : Blocks (GH T) w)  : Vm.Pure Tryd.prog 38 #[encP p] w (.agg (full2 p).toArray) := by
  refine pure_of_W (n := 27) (args := [encP p]) Tryd.func38 rfl Tryd.ntmps38 (Nat.le_of_ble_eq_true rfl) hG ?_
  refine sStart ?_
  refine sSeq ?_
  refine W.region ?_
  refine OpsW.fresh (fr_boxW48 rfl) rfl fun b1 => ?_
  refine OpsW.fresh (fr_alloc z63) rfl fun b2 => ?_
  refine sNext ?_
  refine W.keep (F' := [(2, _), (1, _)]) ⟨rfl, rfl, trivial⟩ ?_
  refine sSeq ?_
  refine W.region ?_
  refine OpsW.fresh (fr_alloc z63) rfl fun b3 => ?_
  refine sNext ?_
  refine sSeq ?_
  refine W.draw mixed 8 [[], [0], [0, 1], [], [3], [0, 1, 2, 3, 4], [], [], [0, 1, 2, 3, 4, 5, 6, 7], [0, 1, 2, 3, 4, 5, 6, 7, 8]] (cl_lt (by decide)) ?_
  refine HeadR.start (cl_lt (by decide)) ?_
  refine HeadR.det rfl (fun β hβ => (det_fieldAddr fl48_0 rfl)) ?_
  refine HeadR.det rfl (fun β hβ => (det_loadA ty46 rfl (List.Mem.tail _ (List.Mem.tail _ (List.Mem.head _))) rfl)) ?_
  refine HeadR.det rfl (fun β hβ => (det_call en71 rfl (fun w hb ho => FBytes2_ok ho.blocks))) ?_
  refine HeadR.det rfl (fun β hβ => (det_fieldAddr fl48_1 rfl)) ?_
  refine HeadR.det rfl (fun β hβ => (det_loadA ty46 rfl (List.Mem.tail _ (List.Mem.tail _ (List.Mem.head _))) rfl)) ?_
  refine HeadR.det rfl (fun β hβ => (det_call en71 rfl (fun w hb ho => FBytes2_ok ho.blocks))) ?_
  refine HeadR.fresh rfl (fun β hβ => (fr_alloc z60).new) ?_
  refine HeadR.fresh rfl (fun β hβ => (fr_alloc z60).new) ?_
  refine HeadR.done ⟨by kernel_rfl, fun β hβ => ?_⟩
  refine OpsW.norm (F' := [(6, _), (7, _), (8, _), (9, _), (10, _), (11, _), (4, .pointer (some ⟨(β 4).1, 0, none⟩)), (5, .pointer (some ⟨(β 5).1, 0, none⟩)), (3, _), (2, _), (1, _)]) (H' := [(_, _), (_, _), (_, _), (_, _), (_, _)]) rfl rfl ?_
  generalize (β 4).1 = b4
  generalize (β 5).1 = b5
  refine OpsW.store sz60 rfl rfl rfl (f2bytes_len _) (f2bytes_one _) (Upd.here) (splice_all (by rw [f2bytes_len, zer96_len])) ?_
  refine OpsW.store sz60 rfl rfl rfl (f2bytes_len _) (f2bytes_one _) (Upd.there (Upd.here)) (splice_all (by rw [f2bytes_len, zer96_len])) ?_
  refine sNext ?_
  refine W.keep (F' := [(4, _), (5, _), (3, _), (2, _), (1, _)]) ⟨rfl, rfl, rfl, rfl, rfl, trivial⟩ ?_
  refine sSeq ?_
  refine W.draw mixed 2 [[], [], [0, 1]] (cl_lt (by decide)) ?_
  refine HeadR.start (cl_lt (by decide)) ?_
  refine HeadR.det rfl (fun β hβ => ((det_sliceArr (lo := none) (hi := none) (l := 0) (h := 192) u63 sz5 rfl rfl rfl (by decide) (by decide)).to (v := .slice (some ⟨b3, 0, none⟩) 192 192) rfl)) ?_
  refine HeadR.det rfl (fun β hβ => ((det_sliceArr (lo := none) (hi := none) (l := 0) (h := 96) u60 sz5 rfl rfl rfl (by decide) (by decide)).to (v := .slice (some ⟨b4, 0, none⟩) 96 96) rfl)) ?_
  refine HeadR.done ⟨by kernel_rfl, fun β hβ => ?_⟩
  refine OpsW.norm (F' := [(12, _), (13, _), (4, _), (5, _), (3, _), (2, _), (1, _)]) (H' := [(_, _), (_, _), (_, _), (_, _), (_, _)]) rfl rfl ?_
  refine OpsW.copy (cs := f2bytes p.1) u22 sz5 rfl rfl (.inl (List.Mem.head _)) (by rw [f2bytes_len]; rfl) (fun j u h => by rw [Nat.zero_add]; exact h) (f2bytes_one _) (Upd.there (Upd.there Upd.here)) (f2_put1' p.1) rfl ?_
  refine sNext ?_
  refine W.keep (F' := [(5, _), (3, _), (2, _), (1, _)]) ⟨rfl, rfl, rfl, rfl, trivial⟩ ?_
  refine sSeq ?_
  refine W.draw mixed 2 [[], [], [0, 1]] (cl_lt (by decide)) ?_
  refine HeadR.start (cl_lt (by decide)) ?_
  refine HeadR.det rfl (fun β hβ => ((det_sliceArr (lo := some (.const (.int .i64 96))) (hi := none) (l := 96) (h := 192) u63 sz5 rfl ⟨_, rfl⟩ rfl (by decide) (by decide)).to (v := .slice (some ⟨b3, 96, none⟩) 96 96) rfl)) ?_
  refine HeadR.det rfl (fun β hβ => ((det_sliceArr (lo := none) (hi := none) (l := 0) (h := 96) u60 sz5 rfl rfl rfl (by decide) (by decide)).to (v := .slice (some ⟨b5, 0, none⟩) 96 96) rfl)) ?_
  refine HeadR.done ⟨by kernel_rfl, fun β hβ => ?_⟩
  refine OpsW.norm (F' := [(15, _), (16, _), (5, _), (3, _), (2, _), (1, _)]) (H' := [(_, _), (_, _), (_, _), (_, _), (_, _)]) rfl rfl ?_
  refine OpsW.copy (cs := f2bytes p.2) u22 sz5 rfl rfl (.inl (List.Mem.tail _ (List.Mem.head _))) (by rw [f2bytes_len]; rfl) (fun j u h => by rw [Nat.zero_add]; exact h) (f2bytes_one _) (Upd.there (Upd.there Upd.here)) (f2_put2' p.1 p.2) rfl ?_
  refine sNext ?_
  refine W.keep (F' := [(3, _), (2, _), (1, _)]) ⟨rfl, rfl, rfl, trivial⟩ ?_
  refine sSeq ?_
  refine W.draw mixed 8 [[], [0], [], [], [2, 3], [2, 3, 4], [0, 1, 2, 3, 4, 5], [0, 1, 2, 3, 4, 5, 6], [0, 1, 2, 3, 4, 5, 6, 7]] (cl_lt (by decide)) ?_
  refine HeadR.start (cl_lt (by decide)) ?_
  refine HeadR.det rfl (fun β hβ => (det_indexAddr_arr u63 sz5 rfl rfl ⟨by decide, by decide⟩)) ?_
  refine HeadR.det rfl (fun β hβ => (det_loadC ty5 rfl (List.Mem.tail _ (List.Mem.tail _ (List.Mem.head _))) (two2_at p))) ?_
  refine HeadR.det rfl (fun β hβ => (det_loadW48 rfl (List.Mem.tail _ (List.Mem.tail _ (List.Mem.tail _ (List.Mem.tail _ (List.Mem.head _))))))) ?_
  refine HeadR.det rfl (fun β hβ => (det_zero bz48)) ?_
  refine HeadR.det rfl (fun β hβ => (det_eql48 rfl rfl)) ?_
  refine HeadR.det rfl (fun β hβ => (det_call en69 rfl (fun w hb ho => Cu.flags_ok (s := false) (n := decide (p = (0, 0))) (l := false) ho.blocks))) ?_
  refine HeadR.det rfl (fun β hβ => (det_or rfl rfl)) ?_
  refine HeadR.det rfl (fun β hβ => (det_indexAddr_arr u63 sz5 rfl rfl ⟨by decide, by decide⟩)) ?_
  refine HeadR.done ⟨by kernel_rfl, fun β hβ => ?_⟩
  refine OpsW.norm (F' := [(18, _), (19, _), (20, _), (21, _), (22, _), (23, _), (24, _), (25, _), (3, _), (2, _), (1, _)]) (H' := [(_, _), (_, _), (_, _), (_, _), (_, _)]) rfl rfl ?_
  refine OpsW.store sz5 rfl rfl rfl rfl rfl (Upd.there (Upd.there (Upd.here))) (two2_set p _) ?_
  refine sNext ?_
  refine W.keep (F' := [(3, _), (2, _)]) ⟨rfl, rfl, trivial⟩ ?_
  refine sSeq ?_
  refine W.region ?_
  refine OpsW.det (det_loadA ty63 rfl (List.Mem.tail _ (List.Mem.tail _ (List.Mem.head _))) (show cut 0 192 (full2 p) = some (full2 p) from cut_all (full2_len p))) rfl ?_
  refine OpsW.store sz63 rfl rfl rfl (full2_len p) (full2_one p) (Upd.there (Upd.there (Upd.there (Upd.here)))) (splice_all (by rw [full2_len, zer192_len])) ?_
  refine sNext ?_
  refine W.keep (F' := [(2, _)]) ⟨rfl, trivial⟩ ?_
  refine sRet ?_
  exact done1 Tryd.results38 (rv_cellA ty63 rfl (List.Mem.tail _ (List.Mem.tail _ (List.Mem.tail _ (List.Mem.head _)))) (show cut 0 192 (full2 p) = some (full2 p) from cut_all (full2_len p))) rfl

end Go.Cw

/- No other bytes are a point of the first group: what is read is what would be written. -/
namespace Go.Cu
open Go Go.Vm Go.Ec
set_option linter.unusedVariables false
set_option linter.unusedSimpArgs false
set_option linter.unusedSectionVars false
open CR
/-! ### Bytes there and back -/
def fN (x : Fq) : List Nat := (List.range 48).map fun i => byt x.val (47 - i)
theorem fbytes_N (x : Fq) : fbytes x = bcells (fN x) := by
  unfold fbytes fN bcells
  rw [bytes_all, List.map_map]; rfl
theorem fN_len (x : Fq) : (fN x).length = 48 := by unfold fN; rw [List.length_map, List.length_range]
theorem fN_small (x : Fq) : ∀ c ∈ fN x, c < 256 := by
  intro c hc
  unfold fN at hc
  obtain ⟨i, _, rfl⟩ := List.mem_map.1 hc
  exact Nat.mod_lt _ (by decide)
theorem beN_cat (l : List Nat) (c : Nat) : beN (l ++ [c]) = beN l * 256 + c := by unfold beN; rw [List.foldl_append]; rfl
theorem beN_dig : ∀ (n : Nat) (l : List Nat), l.length = n → (∀ c ∈ l, c < 256) → ∀ j, j < n → beN l / 256 ^ j % 256 = l.getD (n - 1 - j) 0
  | 0, l, _, _, j, hj => by omega
  | n + 1, l, hl, hs, j, hj => by
    have hne : l ≠ [] := by intro e; rw [e] at hl; simp at hl
    have hd := List.dropLast_concat_getLast hne
    have h1 : l.dropLast.length = n := by rw [List.length_dropLast]; omega
    have h2 : ∀ c ∈ l.dropLast, c < 256 := fun c hc => hs c (List.dropLast_subset l hc)
    have hc := hs _ (List.getLast_mem hne)
    generalize l.getLast hne = c at hd hc
    rw [← hd, beN_cat]
    cases j with
    | zero =>
      rw [Nat.pow_zero, Nat.div_one]
      rw [List.getD_eq_getElem?_getD, List.getElem?_append_right (by omega), h1, show n + 1 - 1 - 0 - n = 0 by omega]
      show _ = c
      omega
    | succ j =>
      have ih := beN_dig n l.dropLast h1 h2 j (by omega)
      rw [Nat.pow_succ, Nat.mul_comm (256 ^ j), ← Nat.div_div_eq_div_mul, show (beN l.dropLast * 256 + c) / 256 = beN l.dropLast by omega, ih, List.getD_eq_getElem?_getD, List.getD_eq_getElem?_getD, List.getElem?_append_left (by omega), show n + 1 - 1 - (j + 1) = n - 1 - j by omega]
theorem fN_back {l : List Nat} (h : l.length = 48) (hs : ∀ c ∈ l, c < 256) (hp : beN l < pp) : fN (Zp.of (beN l)) = l := by
  refine List.ext_getElem? fun i => ?_
  by_cases hi : i < 48
  · unfold fN
    rw [List.getElem?_map, List.getElem?_range hi]
    show some (byt (Zp.of (beN l) : Fq).val (47 - i)) = _
    rw [Zp.of_val, Nat.mod_eq_of_lt hp]
    unfold byt
    rw [beN_dig 48 l h hs (47 - i) (by omega), List.getD_eq_getElem?_getD, show 48 - 1 - (47 - i) = i by omega, List.getElem?_eq_getElem (by omega)]; rfl
  · rw [List.getElem?_eq_none (by rw [fN_len]; omega), List.getElem?_eq_none (by omega)]
/-! ### The forms as numbers -/
def mN (b : Nat) (s n g : Bool) : Nat := (bitsOf .or .u8 ((b : Nat) : Int) (flg s n g)).toNat
theorem mN_ok (b : Nat) (s n g : Bool) : bitsOf .or .u8 ((b : Nat) : Int) (flg s n g) = ((mN b s n g : Nat) : Int) ∧ mN b s n g < 256 := by
  have h : bitsOf .or .u8 ((b : Nat) : Int) (flg s n g) = (((BitVec.ofInt IntKind.u8.bits ((b : Nat) : Int) ||| BitVec.ofInt IntKind.u8.bits (flg s n g)).toNat % 256 : Nat) : Int) := by
    unfold bitsOf
    exact wrap_u8
  unfold mN
  rw [h]
  omega
def formN1 (p : Pt) : List Nat := mN (byt p.1.val 47) true (decide (p = (0, 0))) (largeF p.2) :: (fN p.1).tail
theorem bcells_tail (l : List Nat) : (bcells l).tail = bcells l.tail := by cases l <;> rfl
theorem form1_N (p : Pt) : form1 p = bcells (formN1 p) := by
  unfold form1 formN1
  rw [(mN_ok _ _ _ _).1, fbytes_N, bcells_tail]; rfl
theorem formN1_len (p : Pt) : (formN1 p).length = 48 := by unfold formN1; rw [List.length_cons, List.length_tail, fN_len]
theorem formN1_small (p : Pt) : ∀ c ∈ formN1 p, c < 256 := by
  intro c hc
  unfold formN1 at hc
  rcases List.mem_cons.1 hc with rfl | h
  · exact (mN_ok _ _ _ _).2
  · exact fN_small _ _ (List.mem_of_mem_tail h)
def fullN1 (p : Pt) : List Nat := mN (byt p.1.val 47) false (decide (p = (0, 0))) false :: (fN p.1 ++ fN p.2).tail
theorem full1_N (p : Pt) : Cw.full1 p = bcells (fullN1 p) := by
  unfold Cw.full1 fullN1 Cw.two1
  rw [(mN_ok _ _ _ _).1, fbytes_N, fbytes_N, show bcells (fN p.1) ++ bcells (fN p.2) = bcells (fN p.1 ++ fN p.2) by unfold bcells; rw [List.map_append], bcells_tail]; rfl
theorem fullN1_len (p : Pt) : (fullN1 p).length = 96 := by unfold fullN1; rw [List.length_cons, List.length_tail, List.length_append, fN_len, fN_len]
theorem fullN1_small (p : Pt) : ∀ c ∈ fullN1 p, c < 256 := by
  intro c hc
  unfold fullN1 at hc
  rcases List.mem_cons.1 hc with rfl | h
  · exact (mN_ok _ _ _ _).2
  · rcases List.mem_append.1 (List.mem_of_mem_tail h) with h | h
    · exact fN_small _ _ h
    · exact fN_small _ _ h
/-! ### Marks -/
def OneB (b : Nat) : Prop :=
    (sB b = true → fB b = false → mN (b % 32) true false (lB b) = b) ∧ (sB b = false → fB b = false → lB b = false → b % 32 = b ∧ mN (b % 32) false false false = b) ∧
    (sB b = true → fB b = true → lB b = false → zB b = false → b = 192) ∧ (sB b = false → fB b = true → lB b = false → zB b = false → b = 64)
def oneB (b : Nat) : Bool := (!sB b || fB b || Nat.beq (mN (b % 32) true false (lB b)) b) && (sB b || fB b || lB b || (Nat.beq (b % 32) b && Nat.beq (mN (b % 32) false false false) b)) && (!sB b || !fB b || lB b || zB b || Nat.beq b 192) && (sB b || !fB b || lB b || zB b || Nat.beq b 64)
theorem fin_one : ∀ b : Fin 256, oneB b.val = true := by decide +kernel
theorem one_at {b : Nat} (h : b < 256) : OneB b := by
  have h := fin_one ⟨b, h⟩
  unfold oneB at h
  rw [Bool.and_eq_true, Bool.and_eq_true, Bool.and_eq_true] at h
  obtain ⟨⟨⟨h1, h2⟩, h3⟩, h4⟩ := h
  simp only at h1 h2 h3 h4
  refine ⟨fun a c => ?_, fun a c d => ?_, fun a c d e => ?_, fun a c d e => ?_⟩
  · rw [a, c] at h1; exact Nat.eq_of_beq_eq_true (by simpa using h1)
  · rw [a, c, d] at h2
    have h2 : (Nat.beq (b % 32) b && Nat.beq (mN (b % 32) false false false) b) = true := h2
    rw [Bool.and_eq_true] at h2
    exact ⟨Nat.eq_of_beq_eq_true h2.1, Nat.eq_of_beq_eq_true h2.2⟩
  · rw [a, c, d, e] at h3; exact Nat.eq_of_beq_eq_true h3
  · rw [a, c, d, e] at h4; exact Nat.eq_of_beq_eq_true h4
/-! ### Greater and less -/
theorem pp_odd : pp % 2 = 1 := by decide +kernel
theorem large_neg {s : Fq} (h : s ≠ 0) : largeF (0 - s) = !largeF s := by
  unfold largeF
  rw [show (0 - (0 - s) : Fq) = s from (show (0 - (0 - s)) = s from ring_id (fun vi_ => vget vi_ [s]) (.sub .zero (.sub .zero (.var 0))) (.var 0) (by kernel_rfl))]
  have h0 : s.val ≠ 0 := fun e => h (Zp.ext (by rw [e, Zp.zero_val]))
  have h1 : (0 - s).val = pp - s.val := by
    rw [Zp.sub_val, Zp.zero_val, Nat.zero_add, Nat.mod_eq_of_lt]
    have := s.lt; omega
  have h2 := s.lt
  have h3 := pp_odd
  rw [h1, Bool.eq_iff_iff, decide_eq_true_iff, Bool.not_eq_true', decide_eq_false_iff_not]
  exact (fun (a m : Nat) (h2 : a < m) (h3 : m % 2 = 1) => (by omega : a < m - a ↔ ¬ m - a < a)) _ _ h2 h3
theorem cube_pw (x : Fq) (e : Nat) : pw (x * x * x) e = pw x (3 * e) := by
  rw [pw_mul]
  congr 1
  show x * x * x = 1 * x * x * x
  rw [one_mul]
/-- Minus four is no cube. -/
theorem no_cube (x : Fq) : x * x * x + Zp.of 4 ≠ 0 := by
  intro h
  have hx : x ≠ 0 := by
    rintro rfl
    exact (by decide +kernel : (0 : Fq) * 0 * 0 + Zp.of 4 ≠ 0) h
  have h1 : x * x * x = Zp.of (pp - 4) := by
    have h4 : (Zp.of (pp - 4) : Fq) + Zp.of 4 = 0 := by decide +kernel
    exact (eq_of_sub (Eq.trans (show (((x * x) * x) - ((Zp.of (pp - 4) : Fq))) = ((1 * ((((x * x) * x) + ((Zp.of 4 : Fq))) - 0)) + ((0 - 1) * ((((Zp.of (pp - 4) : Fq)) + ((Zp.of 4 : Fq))) - 0))) from ring_id (fun vi_ => vget vi_ [x, (Zp.of (pp - 4) : Fq), (Zp.of 4 : Fq)]) (.sub (.mul (.mul (.var 0) (.var 0)) (.var 0)) (.var 1)) (.add (.mul .one (.sub (.add (.mul (.mul (.var 0) (.var 0)) (.var 0)) (.var 2)) .zero)) (.mul (.sub .zero .one) (.sub (.add (.var 1) (.var 2)) .zero))) (by kernel_rfl)) (lz2 (lz h) (lz h4))))
  have h2 := fermat prime_pp hx
  rw [show pp - 1 = 3 * ((pp - 1) / 3) by decide +kernel, ← cube_pw, h1] at h2
  have h3 := congrArg Zp.val h2
  rw [pw_val, ← pmod_ok pp 400 (pp - 4) ((pp - 1) / 3) (by decide +kernel)] at h3
  exact (by decide +kernel : pmod pp 400 (pp - 4) ((pp - 1) / 3) ≠ (1 : Fq).val) h3
end Go.Cu

/- No other bytes are a point of the first group: the law's mathematics. -/
namespace Go.Cu
open Go Go.Vm Go.Ec
set_option linter.unusedVariables false
set_option linter.unusedSimpArgs false
set_option linter.unusedSectionVars false
open CR
theorem fin_good {p : Pt} {ok : Bool} (h : (fin1 p ok).2 = 0) : ok = true ∧ p ≠ (0, 0) ∧ inB p = true ∧ (fin1 p ok).1 = p := by
  unfold fin1 at h ⊢
  split at h
  · cases h
  · rename_i h1
    split at h
    · cases h
    · rename_i h2
      rw [if_neg h1, if_neg h2]
      refine ⟨?_, fun e => h1 (.inr e), ?_, rfl⟩
      · cases ok
        · exact absurd (.inl rfl) h1
        · rfl
      · cases hb : inB p
        · exact absurd hb h2
        · rfl
theorem mark_good {l : List Nat} {n : Nat} (h : (markE l n).1 = 0) : badM l n = false ∧ ¬ (fB (b0 l) = true ∧ dirty l = true) := by
  unfold markE at h
  split at h
  · cases h
  · split at h
    · cases h
    · rename_i h2
      split at h
      · cases h
      · rename_i h3; exact ⟨by simpa using h2, h3⟩
theorem bad_parts {l : List Nat} {n : Nat} (h : badM l n = false) : sB (b0 l) = decide (l.length = n) ∧ (sB (b0 l) = false → lB (b0 l) = false) ∧ (fB (b0 l) = true → lB (b0 l) = false) := by
  unfold badM at h
  generalize sB (b0 l) = s at h ⊢
  generalize lB (b0 l) = g at h ⊢
  generalize fB (b0 l) = f at h ⊢
  generalize decide (l.length = n) = d at h ⊢
  revert h
  cases s <;> cases g <;> cases f <;> cases d <;> simp
theorem head_tail {l : List Nat} (h : 0 < l.length) : l = b0 l :: l.tail := by
  cases l with
  | nil => simp at h
  | cons c r => rfl
theorem tail_zero {l : List Nat} (h : dirty l = false) : ∀ c ∈ l.tail, c = 0 := by
  unfold dirty at h
  rw [Bool.or_eq_false_iff] at h
  have h2 := h.2
  rw [List.any_eq_false] at h2
  intro c hc
  have := h2 c (by rw [List.drop_one]; exact hc)
  simpa using this
theorem byt_top (x : Fq) : (fN x).head? = some (byt x.val 47) := rfl
theorem fN_cons (x : Fq) : fN x = byt x.val 47 :: (fN x).tail := rfl
theorem formN1_of {q : Pt} {l : List Nat} (hq : q ≠ (0, 0)) (hx : fN q.1 = (b0 l % 32) :: l.tail) (h0 : 0 < l.length) (hb : b0 l < 256) (hs : sB (b0 l) = true) (hf : fB (b0 l) = false) (hg : lB (b0 l) = largeF q.2) : formN1 q = l := by
  have h1 := fN_cons q.1
  rw [hx] at h1
  have h2 : byt q.1.val 47 = b0 l % 32 := (List.cons.inj h1).1.symm
  have h3 : l.tail = (fN q.1).tail := by rw [hx]; rfl
  unfold formN1
  rw [h2, ← h3, decide_eq_false hq, ← hg, (one_at hb).1 hs hf]
  exact (head_tail h0).symm
theorem fullN1_of {q : Pt} {l : List Nat} (hq : q ≠ (0, 0)) (hx : fN q.1 ++ fN q.2 = (b0 l % 32) :: l.tail) (h0 : 0 < l.length) (hb : b0 l < 256) (hs : sB (b0 l) = false) (hf : fB (b0 l) = false) (hg : lB (b0 l) = false) : fullN1 q = l := by
  have h1 := fN_cons q.1
  have h2 : byt q.1.val 47 = b0 l % 32 := by
    rw [h1, List.cons_append] at hx
    exact (List.cons.inj hx).1
  have h3 : (fN q.1 ++ fN q.2).tail = l.tail := by rw [hx]; rfl
  unfold fullN1
  rw [h2, h3, decide_eq_false hq, ((one_at hb).2.1 hs hf hg).2]
  exact (head_tail h0).symm
theorem form_zero {l : List Nat} (hl : l.length = 48) (hb : b0 l < 256) (hs : sB (b0 l) = true) (hf : fB (b0 l) = true) (hg : lB (b0 l) = false) (hd : dirty l = false) : formN1 (0, 0) = l := by
  have hz : zB (b0 l) = false := by unfold dirty at hd; rw [Bool.or_eq_false_iff] at hd; exact hd.1
  have ht : l.tail = List.replicate 47 0 := List.eq_replicate_iff.2 ⟨by rw [List.length_tail]; omega, tail_zero hd⟩
  rw [head_tail (l := l) (by omega), (one_at hb).2.2.1 hs hf hg hz, ht]
  decide +kernel
theorem full_zero {l : List Nat} (hl : l.length = 96) (hb : b0 l < 256) (hs : sB (b0 l) = false) (hf : fB (b0 l) = true) (hg : lB (b0 l) = false) (hd : dirty l = false) : fullN1 (0, 0) = l := by
  have hz : zB (b0 l) = false := by unfold dirty at hd; rw [Bool.or_eq_false_iff] at hd; exact hd.1
  have ht : l.tail = List.replicate 95 0 := List.eq_replicate_iff.2 ⟨by rw [List.length_tail]; omega, tail_zero hd⟩
  rw [head_tail (l := l) (by omega), (one_at hb).2.2.2 hs hf hg hz, ht]
  decide +kernel
theorem readF_good {l : List Nat} {X : Fq × Int} (hX : X = readF l) (h : l.length = 48) (hs : ∀ c ∈ l, c < 256) (h2 : X.2 = 0) : fN X.1 = l := by
  subst hX
  by_cases h3 : beN l < pp
  · rw [readF_yes h h3]; exact fN_back h hs h3
  · rw [readF_no h h3] at h2; cases h2
structure OneOk (l : List Nat) (p : Pt) : Prop where
  o1 : inB p = true
  o2 : onB p = true
  o3 : l.length = 48 → formN1 p = l
  o4 : l.length = 96 → fullN1 p = l
theorem one1 {l : List Nat} {R : Pt × Int} (hsm : ∀ c ∈ l, c < 256) (hR : R = rd1 l) (h0 : R.2 = 0) : OneOk l R.1 := by
  by_cases hE : (markE l 48).1 = 0
  · obtain ⟨hbad, hnd⟩ := mark_good hE
    obtain ⟨hb1, hb2, hb3⟩ := bad_parts hbad
    have hlens := mark_lens hE
    have hpos : 0 < l.length := by omega
    have hb := b0_lt hsm hpos
    have hcs := cl_small hsm
    have hcl := cl_len hpos
    rcases hf : fB (b0 l) with _ | _
    · obtain ⟨X, hX⟩ : ∃ X, X = rx l := ⟨_, rfl⟩
      have hX0 : X.2 = 0 := by
        refine Classical.byContradiction fun h => ?_
        rw [rd1_x hX hE hf h] at hR
        rw [hR] at h0; exact h h0
      have hfX := readF_good (hX.trans (rx_eq l)) (rx_len (by omega)) (fun c hc => hcs c (List.mem_of_mem_take hc)) hX0
      by_cases h48 : 48 < l.length
      · have h96 : l.length = 96 := by omega
        have hs : sB (b0 l) = false := by rw [hb1]; exact decide_eq_false (by omega)
        obtain ⟨Y, hY⟩ : ∃ Y, Y = ry l := ⟨_, rfl⟩
        have hY0 : Y.2 = 0 := by
          refine Classical.byContradiction fun h => ?_
          rw [rd1_y hX hY hE hf hX0 h48 h] at hR
          rw [hR] at h0; exact h h0
        have hfY := readF_good (hY.trans (ry_eq l)) (ry_len h96) (fun c hc => hcs c (List.mem_of_mem_drop hc)) hY0
        rw [rd1_long hX hY hE hf hX0 h48 hY0] at hR
        rw [hR] at h0
        obtain ⟨g1, g2, g3, g4⟩ := fin_good h0
        rw [hR, g4]
        refine ⟨g3, g1, fun h => by omega, fun _ => fullN1_of g2 ?_ hpos hb hs hf (hb2 hs)⟩
        show fN X.1 ++ fN Y.1 = _
        rw [hfX, hfY, List.take_append_drop]; rfl
      · have h48' : l.length = 48 := by omega
        have hs : sB (b0 l) = true := by rw [hb1]; exact decide_eq_true h48'
        have hfX' : fN X.1 = (b0 l % 32) :: l.tail := by rw [hfX, List.take_of_length_le (by omega)]; rfl
        obtain ⟨sq, hsq⟩ : ∃ s, s = sqrtF (X.1 * X.1 * X.1 + Zp.of 4) := ⟨_, rfl⟩
        by_cases h5 : largeF sq.1 = lB (b0 l)
        · rw [rd1_pos hX hsq hE hf hX0 h48 h5] at hR
          rw [hR] at h0
          obtain ⟨g1, g2, g3, g4⟩ := fin_good h0
          rw [hR, g4]
          exact ⟨g3, (fin_of (q := (X.1, sq.1)) (sqrtF_sq hsq g1)).1, fun _ => formN1_of g2 hfX' hpos hb hs hf h5.symm, fun h => by omega⟩
        · rw [rd1_neg hX hsq hE hf hX0 h48 h5] at hR
          rw [hR] at h0
          obtain ⟨g1, g2, g3, g4⟩ := fin_good h0
          rw [hR, g4]
          have hroot := sqrtF_sq hsq g1
          have hne : sq.1 ≠ 0 := fun e => by
            rw [e] at hroot
            exact no_cube X.1 (by rw [← hroot]; exact (show (0 * 0) = 0 from ring_id (fun vi_ => vget vi_ []) (.mul .zero .zero) .zero (by kernel_rfl)))
          have hlg := large_neg hne
          refine ⟨g3, (fin_of (q := (X.1, 0 - sq.1)) (neg_sq hroot)).1, fun _ => formN1_of g2 hfX' hpos hb hs hf ?_, fun h => by omega⟩
          show lB (b0 l) = largeF (0 - sq.1)
          rw [hlg]
          revert h5
          cases largeF sq.1 <;> cases lB (b0 l) <;> simp
    · rw [rd1_far hE hf] at hR
      rw [hR]
      have hd : dirty l = false := by
        cases h : dirty l
        · rfl
        · exact absurd ⟨hf, h⟩ hnd
      exact ⟨(by decide +kernel : inB ((0, 0) : Pt) = true), (by decide +kernel : onB ((0, 0) : Pt) = true), fun h => form_zero h hb (by rw [hb1]; exact decide_eq_true h) hf (hb3 hf) hd, fun h => full_zero h hb (by rw [hb1]; exact decide_eq_false (by omega)) hf (hb3 hf) hd⟩
  · rw [rd1_mark hE] at hR
    rw [hR] at h0; exact absurd h0 hE
end Go.Cu

/- No other bytes are a point of the second group: what is read is what would be written. -/
namespace Go.Cw
open Go.Cu Go Go.Vm Go.Ec
set_option linter.unusedVariables false
set_option linter.unusedSimpArgs false
set_option linter.unusedSectionVars false
open CR
/-! ### The forms as numbers -/
def f2N (x : Fq2) : List Nat := fN x.b ++ fN x.a
theorem f2bytes_N (x : Fq2) : f2bytes x = bcells (f2N x) := by
  unfold f2bytes f2N
  rw [fbytes_N, fbytes_N]; unfold bcells; rw [List.map_append]
theorem f2N_len (x : Fq2) : (f2N x).length = 96 := by unfold f2N; rw [List.length_append, fN_len, fN_len]
theorem f2N_small (x : Fq2) : ∀ c ∈ f2N x, c < 256 := by
  intro c hc
  rcases List.mem_append.1 hc with h | h
  · exact fN_small _ _ h
  · exact fN_small _ _ h
theorem f2N_cons (x : Fq2) : f2N x = byt x.b.val 47 :: (f2N x).tail := rfl
theorem bcells_cat (l m : List Nat) : bcells l ++ bcells m = bcells (l ++ m) := by unfold bcells; rw [List.map_append]
def formN2 (p : Pt) : List Nat := mN (byt p.1.b.val 47) true (decide (p = (0, 0))) (large2 p.2) :: (f2N p.1).tail
theorem form2_N (p : Pt) : form2 p = bcells (formN2 p) := by
  unfold form2 formN2
  rw [(mN_ok _ _ _ _).1, f2bytes_N, bcells_tail]; rfl
theorem formN2_len (p : Pt) : (formN2 p).length = 96 := by unfold formN2; rw [List.length_cons, List.length_tail, f2N_len]
theorem formN2_small (p : Pt) : ∀ c ∈ formN2 p, c < 256 := by
  intro c hc
  unfold formN2 at hc
  rcases List.mem_cons.1 hc with rfl | h
  · exact (mN_ok _ _ _ _).2
  · exact f2N_small _ _ (List.mem_of_mem_tail h)
def fullN2 (p : Pt) : List Nat := mN (byt p.1.b.val 47) false (decide (p = (0, 0))) false :: (f2N p.1 ++ f2N p.2).tail
theorem full2_N (p : Pt) : full2 p = bcells (fullN2 p) := by
  unfold full2 fullN2 two2
  rw [(mN_ok _ _ _ _).1, f2bytes_N, f2bytes_N, bcells_cat, bcells_tail]; rfl
theorem fullN2_len (p : Pt) : (fullN2 p).length = 192 := by unfold fullN2; rw [List.length_cons, List.length_tail, List.length_append, f2N_len, f2N_len]
theorem fullN2_small (p : Pt) : ∀ c ∈ fullN2 p, c < 256 := by
  intro c hc
  unfold fullN2 at hc
  rcases List.mem_cons.1 hc with rfl | h
  · exact (mN_ok _ _ _ _).2
  · rcases List.mem_append.1 (List.mem_of_mem_tail h) with h | h
    · exact f2N_small _ _ h
    · exact f2N_small _ _ h
/-! ### Greater and less -/
theorem large2_neg {s : Fq2} (h : s ≠ 0) : large2 (0 - s) = !large2 s := by
  obtain ⟨a, b⟩ := s
  have e : (0 - ⟨a, b⟩ : Fq2) = ⟨0 - a, 0 - b⟩ := rfl
  rw [e]
  unfold large2
  by_cases hb : b = 0
  · have hb' : (0 - b : Fq) = 0 := by rw [hb]; exact (show (0 - 0) = 0 from ring_id (fun vi_ => vget vi_ []) (.sub .zero .zero) .zero (by kernel_rfl))
    rw [if_pos hb, if_pos hb']
    exact large_neg fun ha => h (by rw [ha, hb]; rfl)
  · have hb' : (0 - b : Fq) ≠ 0 := fun e => hb (eq_of_sub (Eq.trans (show (b - 0) = ((0 - 1) * ((0 - b) - 0)) from ring_id (fun vi_ => vget vi_ [b]) (.sub (.var 0) .zero) (.mul (.sub .zero .one) (.sub (.sub .zero (.var 0)) .zero)) (by kernel_rfl)) (lz e)))
    rw [if_neg hb, if_neg hb']
    exact large_neg hb
/-- Minus four and minus four i are no cube. -/
theorem norm2_mul (x y : Fq2) : norm2 (x * y) = norm2 x * norm2 y :=
  show (x.a * y.a - x.b * y.b) * (x.a * y.a - x.b * y.b) + ((x.a + x.b) * (y.a + y.b) - x.a * y.a - x.b * y.b) * ((x.a + x.b) * (y.a + y.b) - x.a * y.a - x.b * y.b) = (x.a * x.a + x.b * x.b) * (y.a * y.a + y.b * y.b) from
  (show ((((x.a * y.a) - (x.b * y.b)) * ((x.a * y.a) - (x.b * y.b))) + (((((x.a + x.b) * (y.a + y.b)) - (x.a * y.a)) - (x.b * y.b)) * ((((x.a + x.b) * (y.a + y.b)) - (x.a * y.a)) - (x.b * y.b)))) = (((x.a * x.a) + (x.b * x.b)) * ((y.a * y.a) + (y.b * y.b))) from ring_id (fun vi_ => vget vi_ [x.a, x.b, y.a, y.b]) (.add (.mul (.sub (.mul (.var 0) (.var 2)) (.mul (.var 1) (.var 3))) (.sub (.mul (.var 0) (.var 2)) (.mul (.var 1) (.var 3)))) (.mul (.sub (.sub (.mul (.add (.var 0) (.var 1)) (.add (.var 2) (.var 3))) (.mul (.var 0) (.var 2))) (.mul (.var 1) (.var 3))) (.sub (.sub (.mul (.add (.var 0) (.var 1)) (.add (.var 2) (.var 3))) (.mul (.var 0) (.var 2))) (.mul (.var 1) (.var 3))))) (.mul (.add (.mul (.var 0) (.var 0)) (.mul (.var 1) (.var 1))) (.add (.mul (.var 2) (.var 2)) (.mul (.var 3) (.var 3)))) (by kernel_rfl))
theorem no_cube32 (x : Fq) : x * x * x ≠ Zp.of 32 := by
  intro h1
  have hx : x ≠ 0 := by
    rintro rfl
    exact (by decide +kernel : (0 : Fq) * 0 * 0 ≠ Zp.of 32) h1
  have h2 := fermat prime_pp hx
  rw [show pp - 1 = 3 * ((pp - 1) / 3) by decide +kernel, ← cube_pw, h1] at h2
  have h3 := congrArg Zp.val h2
  rw [pw_val, ← pmod_ok pp 400 32 ((pp - 1) / 3) (by decide +kernel)] at h3
  exact (by decide +kernel : pmod pp 400 32 ((pp - 1) / 3) ≠ (1 : Fq).val) h3
theorem no_cube2 (x : Fq2) : x * x * x + small 4 4 ≠ 0 := by
  intro h
  have h1 : x * x * x = 0 - small 4 4 := by
    obtain ⟨c, hc⟩ : ∃ c, c = small 4 4 := ⟨_, rfl⟩
    rw [← hc] at h ⊢
    exact (eq_of_sub (Eq.trans (show (((x * x) * x) - (0 - c)) = (1 * ((((x * x) * x) + c) - 0)) from ring_id (fun vi_ => vget vi_ [x, c]) (.sub (.mul (.mul (.var 0) (.var 0)) (.var 0)) (.sub .zero (.var 1))) (.mul .one (.sub (.add (.mul (.mul (.var 0) (.var 0)) (.var 0)) (.var 1)) .zero)) (by kernel_rfl)) (lz h)))
  have h2 := congrArg norm2 h1
  rw [norm2_mul, norm2_mul, show norm2 (0 - small 4 4) = Zp.of 32 from by decide +kernel] at h2
  exact no_cube32 _ h2
/-! ### The law -/
theorem fin_good {p : Pt} {ok : Bool} (h : (fin1 p ok).2 = 0) : ok = true ∧ p ≠ (0, 0) ∧ inB p = true ∧ (fin1 p ok).1 = p := by
  unfold fin1 at h ⊢
  split at h
  · cases h
  · rename_i h1
    split at h
    · cases h
    · rename_i h2
      rw [if_neg h1, if_neg h2]
      refine ⟨?_, fun e => h1 (.inr e), ?_, rfl⟩
      · cases ok
        · exact absurd (.inl rfl) h1
        · rfl
      · cases hb : inB p
        · exact absurd hb h2
        · rfl
theorem formN2_of {q : Pt} {l : List Nat} (hq : q ≠ (0, 0)) (hx : f2N q.1 = (b0 l % 32) :: l.tail) (h0 : 0 < l.length) (hb : b0 l < 256) (hs : sB (b0 l) = true) (hf : fB (b0 l) = false) (hg : lB (b0 l) = large2 q.2) : formN2 q = l := by
  have h1 := f2N_cons q.1
  rw [hx] at h1
  have h2 : byt q.1.b.val 47 = b0 l % 32 := (List.cons.inj h1).1.symm
  have h3 : l.tail = (f2N q.1).tail := by rw [hx]; rfl
  unfold formN2
  rw [h2, ← h3, decide_eq_false hq, ← hg, (one_at hb).1 hs hf]
  exact (head_tail h0).symm
theorem fullN2_of {q : Pt} {l : List Nat} (hq : q ≠ (0, 0)) (hx : f2N q.1 ++ f2N q.2 = (b0 l % 32) :: l.tail) (h0 : 0 < l.length) (hb : b0 l < 256) (hs : sB (b0 l) = false) (hf : fB (b0 l) = false) (hg : lB (b0 l) = false) : fullN2 q = l := by
  have h1 := f2N_cons q.1
  have h2 : byt q.1.b.val 47 = b0 l % 32 := by
    rw [h1, List.cons_append] at hx
    exact (List.cons.inj hx).1
  have h3 : (f2N q.1 ++ f2N q.2).tail = l.tail := by rw [hx]; rfl
  unfold fullN2
  rw [h2, h3, decide_eq_false hq, ((one_at hb).2.1 hs hf hg).2]
  exact (head_tail h0).symm
theorem form_zero2 {l : List Nat} (hl : l.length = 96) (hb : b0 l < 256) (hs : sB (b0 l) = true) (hf : fB (b0 l) = true) (hg : lB (b0 l) = false) (hd : dirty l = false) : formN2 (0, 0) = l := by
  have hz : zB (b0 l) = false := by unfold dirty at hd; rw [Bool.or_eq_false_iff] at hd; exact hd.1
  have ht : l.tail = List.replicate 95 0 := List.eq_replicate_iff.2 ⟨by rw [List.length_tail]; omega, tail_zero hd⟩
  rw [head_tail (l := l) (by omega), (one_at hb).2.2.1 hs hf hg hz, ht]
  decide +kernel
theorem full_zero2 {l : List Nat} (hl : l.length = 192) (hb : b0 l < 256) (hs : sB (b0 l) = false) (hf : fB (b0 l) = true) (hg : lB (b0 l) = false) (hd : dirty l = false) : fullN2 (0, 0) = l := by
  have hz : zB (b0 l) = false := by unfold dirty at hd; rw [Bool.or_eq_false_iff] at hd; exact hd.1
  have ht : l.tail = List.replicate 191 0 := List.eq_replicate_iff.2 ⟨by rw [List.length_tail]; omega, tail_zero hd⟩
  rw [head_tail (l := l) (by omega), (one_at hb).2.2.2 hs hf hg hz, ht]
  decide +kernel
theorem read2_good {l : List Nat} {X : Fq2 × Int} (hX : X = read2 l) (h : l.length = 96) (hs : ∀ c ∈ l, c < 256) (h2 : X.2 = 0) : f2N X.1 = l := by
  subst hX
  by_cases h1 : (readF (l.take 48)).2 = 0
  · by_cases h3 : (readF (l.drop 48)).2 = 0
    · rw [read2_yes h h1 h3]
      show fN (readF (l.take 48)).1 ++ fN (readF (l.drop 48)).1 = l
      rw [readF_good rfl (by rw [List.length_take]; omega) (fun c hc => hs c (List.mem_of_mem_take hc)) h1, readF_good rfl (by rw [List.length_drop]; omega) (fun c hc => hs c (List.mem_of_mem_drop hc)) h3, List.take_append_drop]
    · rw [read2_no h (.inr h3)] at h2; cases h2
  · rw [read2_no h (.inl h1)] at h2; cases h2
structure OneOk (l : List Nat) (p : Pt) : Prop where
  o1 : inB p = true
  o2 : onB p = true
  o3 : l.length = 96 → formN2 p = l
  o4 : l.length = 192 → fullN2 p = l
theorem one2 {l : List Nat} {R : Pt × Int} (hsm : ∀ c ∈ l, c < 256) (hR : R = rd1 l) (h0 : R.2 = 0) : OneOk l R.1 := by
  by_cases hE : (markE l 96).1 = 0
  · obtain ⟨hbad, hnd⟩ := mark_good hE
    obtain ⟨hb1, hb2, hb3⟩ := bad_parts hbad
    have hlens := mark_lens hE
    have hpos : 0 < l.length := by omega
    have hb := b0_lt hsm hpos
    have hcs := cl_small hsm
    have hcl := cl_len hpos
    rcases hf : fB (b0 l) with _ | _
    · obtain ⟨X, hX⟩ : ∃ X, X = rx l := ⟨_, rfl⟩
      have hX0 : X.2 = 0 := by
        refine Classical.byContradiction fun h => ?_
        rw [rd1_x hX hE hf h] at hR
        rw [hR] at h0; exact h h0
      have hfX := read2_good (hX.trans (rx_eq l)) (rx_len (by omega)) (fun c hc => hcs c (List.mem_of_mem_take hc)) hX0
      by_cases h48 : 96 < l.length
      · have h96 : l.length = 192 := by omega
        have hs : sB (b0 l) = false := by rw [hb1]; exact decide_eq_false (by omega)
        obtain ⟨Y, hY⟩ : ∃ Y, Y = ry l := ⟨_, rfl⟩
        have hY0 : Y.2 = 0 := by
          refine Classical.byContradiction fun h => ?_
          rw [rd1_y hX hY hE hf hX0 h48 h] at hR
          rw [hR] at h0; exact h h0
        have hfY := read2_good (hY.trans (ry_eq l)) (ry_len h96) (fun c hc => hcs c (List.mem_of_mem_drop hc)) hY0
        rw [rd1_long hX hY hE hf hX0 h48 hY0] at hR
        rw [hR] at h0
        obtain ⟨g1, g2, g3, g4⟩ := fin_good h0
        rw [hR, g4]
        refine ⟨g3, g1, fun h => by omega, fun _ => fullN2_of g2 ?_ hpos hb hs hf (hb2 hs)⟩
        show f2N X.1 ++ f2N Y.1 = _
        rw [hfX, hfY, List.take_append_drop]; rfl
      · have h48' : l.length = 96 := by omega
        have hs : sB (b0 l) = true := by rw [hb1]; exact decide_eq_true h48'
        have hfX' : f2N X.1 = (b0 l % 32) :: l.tail := by rw [hfX, List.take_of_length_le (by omega)]; rfl
        obtain ⟨sq, hsq⟩ : ∃ s, s = sqrt2 (X.1 * X.1 * X.1 + small 4 4) := ⟨_, rfl⟩
        by_cases h5 : large2 sq.1 = lB (b0 l)
        · rw [rd1_pos hX hsq hE hf hX0 h48 h5] at hR
          rw [hR] at h0
          obtain ⟨g1, g2, g3, g4⟩ := fin_good h0
          rw [hR, g4]
          exact ⟨g3, (fin_of (q := (X.1, sq.1)) (sqrt2_sq hsq g1)).1, fun _ => formN2_of g2 hfX' hpos hb hs hf h5.symm, fun h => by omega⟩
        · rw [rd1_neg hX hsq hE hf hX0 h48 h5] at hR
          rw [hR] at h0
          obtain ⟨g1, g2, g3, g4⟩ := fin_good h0
          rw [hR, g4]
          have hroot := sqrt2_sq hsq g1
          have hne : sq.1 ≠ 0 := fun e => by
            rw [e] at hroot
            exact no_cube2 X.1 (by rw [← hroot]; exact (show (0 * 0) = 0 from ring_id (fun vi_ => vget vi_ []) (.mul .zero .zero) .zero (by kernel_rfl)))
          have hlg := large2_neg hne
          refine ⟨g3, (fin_of (q := (X.1, 0 - sq.1)) (neg_sq hroot)).1, fun _ => formN2_of g2 hfX' hpos hb hs hf ?_, fun h => by omega⟩
          show lB (b0 l) = large2 (0 - sq.1)
          rw [hlg]
          revert h5
          cases large2 sq.1 <;> cases lB (b0 l) <;> simp
    · rw [rd1_far hE hf] at hR
      rw [hR]
      have hd : dirty l = false := by
        cases h : dirty l
        · rfl
        · exact absurd ⟨hf, h⟩ hnd
      exact ⟨(by decide +kernel : inB ((0, 0) : Pt) = true), (by decide +kernel : onB ((0, 0) : Pt) = true), fun h => form_zero2 h hb (by rw [hb1]; exact decide_eq_true h) hf (hb3 hf) hd, fun h => full_zero2 h hb (by rw [hb1]; exact decide_eq_false (by omega)) hf (hb3 hf) hd⟩
  · rw [rd1_mark hE] at hR
    rw [hR] at h0; exact absurd h0 hE
end Go.Cw

/- The first group: what the walks compute is its sums and multiples; multiples of the generator. -/
namespace Go.Cu
open Go.Ec
set_option linter.unusedVariables false
set_option linter.unusedSimpArgs false
set_option linter.unusedSectionVars false
set_option linter.constructorNameAsVariable false
open CR
set_option linter.unusedVariables false
set_option linter.unusedSimpArgs false
set_option linter.unusedSectionVars false
set_option linter.constructorNameAsVariable false

/-! ### Bytes and bits -/
theorem beN_at {l : List Nat} {j : Nat} (hs : ∀ c ∈ l, c < 256) (h : j < l.length) : beN l / 256 ^ j % 256 = l.getD (l.length - 1 - j) 0 := by
  obtain ⟨k, hk⟩ : ∃ k, k = l.length - 1 - j := ⟨_, rfl⟩
  have hkl : k < l.length := by omega
  rw [← hk]
  have e : l = l.take k ++ ([l[k]] ++ l.drop (k + 1)) := by
    rw [List.singleton_append, ← List.drop_eq_getElem_cons hkl, List.take_append_drop]
  have hd : (l.drop (k + 1)).length = j := by rw [List.length_drop]; omega
  have hb := beN_lt (l := l.drop (k + 1)) fun c hc => hs c (List.mem_of_mem_drop hc)
  have hc : l[k] < 256 := hs _ (List.getElem_mem hkl)
  rw [hd] at hb
  have hN : beN l = (beN (l.take k) * 256 + l[k]) * 256 ^ j + beN (l.drop (k + 1)) := by
    conv => lhs; rw [e]
    rw [beN_app, beN_app, hd, List.length_append, hd, List.length_singleton, show beN [l[k]] = l[k] by simp [beN], Nat.add_comm 1 j, Nat.pow_succ, Nat.add_mul, Nat.mul_assoc, Nat.mul_comm 256, Nat.add_assoc]
  rw [hN, Nat.mul_comm _ (256 ^ j), Nat.mul_add_div (Nat.pow_pos (by decide)), Nat.div_eq_of_lt hb, Nat.add_zero, Nat.mul_add_mod_of_lt hc, List.getD_eq_getElem?_getD, List.getElem?_eq_getElem hkl]
  rfl
theorem bit_low {M t : Nat} (h : t < 8) : M % 256 / 2 ^ t % 2 = M / 2 ^ t % 2 := by
  have : t = 0 ∨ t = 1 ∨ t = 2 ∨ t = 3 ∨ t = 4 ∨ t = 5 ∨ t = 6 ∨ t = 7 := by omega
  rcases this with rfl | rfl | rfl | rfl | rfl | rfl | rfl | rfl <;> omega
theorem bit_eq {l : List Nat} (hs : ∀ c ∈ l, c < 256) (i : Nat) : bitB l i = beN l / 2 ^ i % 2 := by
  unfold bitB
  split
  · rename_i h
    have h1 := beN_lt hs
    have h2 : 256 ^ l.length ≤ 2 ^ i := by
      rw [show 256 = 2 ^ 8 from rfl, ← Nat.pow_mul]
      exact Nat.pow_le_pow_right (by decide) h
    rw [Nat.div_eq_of_lt (by omega)]
  · rename_i h
    rw [← beN_at hs (by omega), bit_low (Nat.mod_lt _ (by decide)), Nat.div_div_eq_div_mul, show 256 = 2 ^ 8 from rfl, ← Nat.pow_mul, ← Nat.pow_add, Nat.div_add_mod]
/-- What the digits from the k-th up are worth. -/
def upv (l : List Nat) (k : Nat) : Nat := beN l / 2 ^ k + ov l k
theorem upv_step {l : List Nat} (hs : ∀ c ∈ l, c < 256) (k : Nat) : (upv l k : Int) = 2 * upv l (k + 1) + dg l k := by
  have h1 : beN l / 2 ^ k = 2 * (beN l / 2 ^ (k + 1)) + bitB l k := by
    rw [bit_eq hs, Nat.pow_succ, ← Nat.div_div_eq_div_mul]; omega
  have h2 := bitB_le l k
  have h3 := ov_le l k
  have h4 := bitB_le l (k + 1)
  unfold upv dg
  rw [h1]
  by_cases hA : bitB l k + ov l k = 1
  · by_cases hB : bitB l (k + 1) = 1
    · rw [if_pos hA, if_pos hB, ov, if_pos ⟨hA, hB⟩]; omega
    · rw [if_pos hA, if_neg hB, ov, if_neg (fun h => hB h.2)]; omega
  · rw [if_neg hA, ov, if_neg (fun h => hA h.1)]; omega
theorem upv_top {l : List Nat} (hs : ∀ c ∈ l, c < 256) : upv l (8 * l.length + 1) = 0 := by
  have h1 := beN_lt hs
  have h2 : 256 ^ l.length = 2 ^ (8 * l.length) := by rw [show 256 = 2 ^ 8 from rfl, ← Nat.pow_mul]
  have h3 : beN l / 2 ^ (8 * l.length + 1) = 0 := Nat.div_eq_of_lt (by rw [Nat.pow_succ]; omega)
  have h4 := ov_le l (8 * l.length)
  unfold upv
  rw [h3, ov, bitB_no (Nat.le_refl _), bitB_no (Nat.le_succ _), if_neg (by omega)]
  omega
theorem upv_zero (l : List Nat) : upv l 0 = beN l := by unfold upv; rw [ov]; simp

/-! ### What the walks compute -/
abbrev G1 := Gp four
theorem pneg_ok (P : G1) : pneg P.1 = (-P).1 := rfl
theorem padd_ok (P Q : G1) : padd P.1 Q.1 = (P + Q).1 := by
  have h := (gadd_ok (JOk.toj P.2) Q.2).1
  rw [gpt_toj] at h
  exact h
theorem stp_ok {j : Jac} {x : G1} (P : G1) (d : Int) (hj : JOk four j) (h : gpt j = x.1) (hd : d = 0 ∨ d = 1 ∨ d = -1) {v : Nat} (hx : x = nmul (2 * v) P) {u : Nat} (hu : (u : Int) = 2 * v + d) :
    JOk four (stp P.1 d j) ∧ gpt (stp P.1 d j) = (nmul u P).1 := by
  rcases hd with rfl | rfl | rfl
  · have e : u = 2 * v := by omega
    rw [e, ← hx]
    exact ⟨hj, h⟩
  · have e : u = 2 * v + 1 := by omega
    rw [e, nmul, ← hx]
    exact step_add P hj h
  · have e : 2 * v = u + 1 := by omega
    have h1 := step_add (-P) hj h
    have e2 : x + -P = nmul u P := by rw [hx, e, nmul, AG.aassoc, a_neg, a_zero]
    rw [e2] at h1
    exact h1
theorem dg_cases (l : List Nat) (i : Nat) : dg l i = 0 ∨ dg l i = 1 ∨ dg l i = -1 := by
  unfold dg; split
  · split <;> simp
  · simp
theorem jl_ok {l : List Nat} (hs : ∀ c ∈ l, c < 256) (P : G1) : ∀ m, m ≤ 8 * l.length + 1 → JOk four (jl l P.1 m) ∧ gpt (jl l P.1 m) = (nmul (upv l (8 * l.length + 1 - m)) P).1
  | 0, _ => by
    rw [Nat.sub_zero, upv_top hs]
    exact jzero_ok
  | m + 1, h => by
    obtain ⟨h1, h2⟩ := jl_ok hs P m (by omega)
    obtain ⟨h3, h4⟩ := step_dbl h1 h2
    have hk := upv_step hs (8 * l.length - m)
    rw [show 8 * l.length - m + 1 = 8 * l.length + 1 - m by omega] at hk
    have := stp_ok P (dg l (8 * l.length - m)) h3 h4 (dg_cases _ _) (v := upv l (8 * l.length + 1 - m)) (by rw [Nat.mul_comm 2, nmul_mul, nmul_two]) hk
    rw [show 8 * l.length + 1 - (m + 1) = 8 * l.length - m by omega]
    exact this
theorem times_ok {l : List Nat} (hs : ∀ c ∈ l, c < 256) (P : G1) : times l P.1 = (nmul (beN l) P).1 := by
  have h := (jl_ok hs P (8 * l.length + 1) (Nat.le_refl _)).2
  rw [Nat.sub_self, upv_zero] at h
  exact h
theorem beN_cons (c : Nat) (l : List Nat) : beN (c :: l) = c * 256 ^ l.length + beN l := by
  show List.foldl (fun x c => x * 256 + c) (0 * 256 + c) l = _
  rw [beN_from, Nat.zero_mul, Nat.zero_add]
theorem beN_bytes (v : Nat) : ∀ n, beN ((List.range n).map fun i => v / 256 ^ (n - 1 - i) % 256) = v % 256 ^ n
  | 0 => by simp [beN, Nat.mod_one]
  | n + 1 => by
    rw [List.range_succ_eq_map, List.map_cons, List.map_map, beN_cons]
    have e : ((fun i => v / 256 ^ (n + 1 - 1 - i) % 256) ∘ Nat.succ) = fun i => v / 256 ^ (n - 1 - i) % 256 := by
      funext i
      simp only [Function.comp]
      rw [show n + 1 - 1 - i.succ = n - 1 - i by omega]
    rw [e, beN_bytes v n, List.length_map, List.length_range, show n + 1 - 1 - 0 = n by omega, Nat.pow_succ, Nat.mod_mul]
    rw [Nat.mul_comm, Nat.add_comm]
theorem blist_val (x : Fs) : beN (blist x) = x.val := by
  have h := beN_bytes x.val 32
  have h2 : x.val < 256 ^ 32 := Nat.lt_trans x.lt (by decide)
  rw [Nat.mod_eq_of_lt h2] at h
  exact h
theorem pmul_ok (P : G1) (x : Fs) : pmul P.1 x = (nmul x.val P).1 := by
  unfold pmul
  rw [times_ok (blist_small x), blist_val]
theorem psum_ok (l : List G1) : psum (l.map (·.1)) = (l.foldl (· + ·) 0).1 := (step_sums l jzero_ok.1 jzero_ok.2).2
theorem onB_ok {p : Pt} (h : On four p) : onB p = true := by
  unfold onB
  rcases h with h | h
  · rw [decide_eq_true h]; rfl
  · rw [decide_eq_true (show p.2 * p.2 = p.1 * p.1 * p.1 + four from h), Bool.or_true]
theorem on_of {p : Pt} (h : onB p = true) : On four p := by
  unfold onB at h
  rcases Bool.or_eq_true_iff.1 h with h | h
  · exact .inl (of_decide_eq_true h)
  · exact .inr (show p.2 * p.2 = p.1 * p.1 * p.1 + four from of_decide_eq_true h)

/-! ### The generator -/
theorem gen_on : onB gen = true := by decide +kernel
/-- The generator, as an element of the curve's group. -/
def gG : G1 := ⟨gen, on_of gen_on⟩
theorem gG_order : nmul rr gG = 0 := nmul_zero_of (f := 256) (by decide) (by decide +kernel)
theorem gen_ne : gen ≠ (0, 0) := by decide +kernel
theorem gen_two : gen ≠ pneg gen := by decide +kernel
/-! ### The turn, and the group's test -/
def te : Fq := turn * turn
theorem te_sq : te * te = turn := by decide +kernel
theorem te_cube : te * te * te = 1 := by decide +kernel
theorem sig_id {α : Type} [Fld α] : Sig (fun a : α => a) := ⟨fun _ _ => rfl, fun _ _ => rfl, fun _ _ h => h⟩
theorem te_ne : te ≠ 0 := by decide +kernel
theorem tturn : Turn four (fun a : Fq => a) te := ⟨sig_id, te_ne, by rw [te_cube, one_mul, one_mul]⟩
def phi (P : G1) : G1 := turnG tturn P
theorem phi_val (P : G1) : (phi P).1 = (P.1.1 * turn, P.1.2) := by
  show (te * te * P.1.1, te * te * te * P.1.2) = _
  rw [te_cube, te_sq, one_mul, mul_comm]
def sz : Nat := beN sizeL
theorem sz_val : sz = 0xd201000000010000 := rfl
theorem sz_lt : sz * sz < 2 ^ 256 := by rw [sz_val]; exact of_decide_eq_true (by kernel_rfl)
theorem inB_iff (P : G1) : inB P.1 = true ↔ phi P = -nmul sz (nmul sz P) := by
  unfold inB
  rw [times_ok sizeL_small, times_ok sizeL_small, pneg_ok, ← phi_val, decide_eq_true_iff]
  exact ⟨fun h => Gp.ext h, fun h => congrArg (fun x : G1 => x.1) h⟩
set_option maxRecDepth 100000 in
theorem phi_z : (gadd (glad gG.1 256 (sz * sz)) (phi gG).1).2.2 = 0 := by
  show (gadd (glad gen 256 (sz * sz)) (te * te * gen.1, te * te * te * gen.2)).2.2 = 0
  decide +kernel
theorem phi_gen : phi gG = -nmul sz (nmul sz gG) := by
  obtain ⟨h1, h2⟩ := glad_ok gG 256 (sz * sz) sz_lt
  obtain ⟨h3, h4⟩ := step_add (phi gG) h1 h2
  have hz : (gadd (glad gG.1 256 (sz * sz)) (phi gG).1).2.2 = 0 := phi_z
  have h5 : nmul (sz * sz) gG + phi gG = 0 := by
    generalize gadd (glad gG.1 256 (sz * sz)) (phi gG).1 = j at h4 hz
    exact Gp.ext (h4.symm.trans (if_pos hz))
  rw [nmul_mul] at h5
  exact a_neg_eq h5
theorem phi_mul (n : Nat) : phi (nmul n gG) = -nmul sz (nmul sz (nmul n gG)) := by
  show turnG tturn (nmul n gG) = _
  rw [turnG_nmul]
  show nmul n (phi gG) = _
  rw [phi_gen, nmul_neg, nmul_comm n, nmul_comm n]
theorem in_mul (n : Nat) : inB (nmul n gG).1 = true := (inB_iff _).2 (phi_mul n)

/-! ### Scalars -/
theorem order_mul (n : Nat) : nmul rr (nmul n gG) = 0 := by rw [nmul_comm, gG_order, nmul_zero]
theorem ord_mod {Q : G1} (h0 : nmul rr Q = 0) (hQ : Q ≠ 0) (b : Nat) (hb : nmul b Q = 0) : b % rr = 0 := by
  refine Classical.byContradiction fun hne => hQ ?_
  have hx : (Zp.of b : Fs) ≠ 0 := fun e => hne (by
    have := congrArg Zp.val e
    rw [Zp.of_val, Zp.zero_val] at this; exact this)
  have hi := congrArg Zp.val (Fld.mul_finv (Zp.of b : Fs) hx)
  obtain ⟨v, hv⟩ : ∃ v, v = (Fld.finv (Zp.of b : Fs)).val := ⟨_, rfl⟩
  rw [Zp.mul_val, Zp.of_val, ← hv] at hi
  have h1 : (1 : Fs).val = 1 := by decide +kernel
  rw [h1] at hi
  have e1 : nmul (b % rr * v % rr) Q = nmul (b % rr * v) Q := nmul_mod h0 _
  rw [hi, nmul_one, nmul_mul, nmul_mod h0, hb, nmul_zero] at e1
  exact e1


theorem mul_zero_iff (x : Fs) : nmul x.val gG = 0 ↔ x = 0 := by
  refine ⟨fun h => ?_, fun h => by rw [h, Zp.zero_val]; rfl⟩
  have h1 := ord_mod gG_order (fun e => gen_ne (congrArg (fun x : G1 => x.1) e)) x.val h
  rw [Nat.mod_eq_of_lt x.lt] at h1
  exact Zp.ext (by rw [h1, Zp.zero_val])
end Go.Cu

/- The second group: what the walks compute is its sums and multiples; multiples of the generator. -/
namespace Go.Cw
open Go.Cu Go.Ec
set_option linter.unusedVariables false
set_option linter.unusedSimpArgs false
set_option linter.unusedSectionVars false
set_option linter.constructorNameAsVariable false
open CR
instance fourGood : Gd four where
  two := by decide +kernel
  three := by decide +kernel
  b := by decide +kernel
/-! ### What the walks compute -/
abbrev G2 := Gp four
theorem pneg_ok (P : G2) : pneg P.1 = (-P).1 := rfl
theorem small_one : small 1 0 = 1 := by decide +kernel
theorem tojac_g (p : Pt) : tojac p = gtoj p := by unfold tojac gtoj; rw [small_one]
theorem jdbl_g (j : Jac) : jdbl j = gdbl j := rfl
theorem jadd_g (j : Jac) (q : Pt) : jadd j q = gadd j q := by
  unfold jadd gadd
  rw [tojac_g]; rfl
theorem point_g (j : Jac) : point j = gpt j := rfl
theorem padd_ok (P Q : G2) : padd P.1 Q.1 = (P + Q).1 := by
  have h := (gadd_ok (JOk.toj P.2) Q.2).1
  rw [gpt_toj] at h
  unfold padd
  rw [tojac_g, jadd_g, point_g]
  exact h
theorem stp_one (p : Pt) (j : Jac) : stp p 1 j = gadd j p := jadd_g j p
theorem stp_neg (p : Pt) (j : Jac) : stp p (-1) j = gadd j (pneg p) := jadd_g j (pneg p)
theorem stp_ok {j : Jac} {x : G2} (P : G2) (d : Int) (hj : JOk four j) (h : gpt j = x.1) (hd : d = 0 ∨ d = 1 ∨ d = -1) {v : Nat} (hx : x = nmul (2 * v) P) {u : Nat} (hu : (u : Int) = 2 * v + d) :
    JOk four (stp P.1 d j) ∧ gpt (stp P.1 d j) = (nmul u P).1 := by
  rcases hd with rfl | rfl | rfl
  · have e : u = 2 * v := by omega
    rw [e, ← hx, show stp P.1 0 j = j from rfl]
    exact ⟨hj, h⟩
  · have e : u = 2 * v + 1 := by omega
    rw [e, nmul, ← hx, stp_one]
    exact step_add P hj h
  · have e : 2 * v = u + 1 := by omega
    have h1 := step_add (-P) hj h
    have e2 : x + -P = nmul u P := by rw [hx, e, nmul, AG.aassoc, a_neg, a_zero]
    rw [e2] at h1
    rw [stp_neg, pneg_ok]
    exact h1
theorem jl_ok {l : List Nat} (hs : ∀ c ∈ l, c < 256) (P : G2) : ∀ m, m ≤ 8 * l.length + 1 → JOk four (jl l P.1 m) ∧ gpt (jl l P.1 m) = (nmul (upv l (8 * l.length + 1 - m)) P).1
  | 0, _ => by
    rw [Nat.sub_zero, upv_top hs]
    exact jzero_ok
  | m + 1, h => by
    obtain ⟨h1, h2⟩ := jl_ok hs P m (by omega)
    obtain ⟨h3, h4⟩ := step_dbl h1 h2
    have hk := upv_step hs (8 * l.length - m)
    rw [show 8 * l.length - m + 1 = 8 * l.length + 1 - m by omega] at hk
    have := stp_ok P (dg l (8 * l.length - m)) h3 h4 (dg_cases _ _) (v := upv l (8 * l.length + 1 - m)) (by rw [Nat.mul_comm 2, nmul_mul, nmul_two]) hk
    rw [show 8 * l.length + 1 - (m + 1) = 8 * l.length - m by omega, jl, jdbl_g]
    exact this
theorem times_ok {l : List Nat} (hs : ∀ c ∈ l, c < 256) (P : G2) : times l P.1 = (nmul (beN l) P).1 := by
  have h := (jl_ok hs P (8 * l.length + 1) (Nat.le_refl _)).2
  rw [Nat.sub_self, upv_zero] at h
  exact h
theorem pmul_ok (P : G2) (x : Fs) : pmul P.1 x = (nmul x.val P).1 := by
  unfold pmul
  rw [times_ok (blist_small x), blist_val]
theorem psum_ok (l : List G2) : psum (l.map (·.1)) = (l.foldl (· + ·) 0).1 := by
  unfold psum jsum
  rw [show (fun (j : Jac) (p : Pt) => jadd j p) = gadd from funext fun j => funext fun p => jadd_g j p, point_g]
  exact (step_sums l jzero_ok.1 jzero_ok.2).2
theorem onB_ok {p : Pt} (h : On four p) : onB p = true := by
  unfold onB
  rcases h with h | h
  · rw [decide_eq_true h]; rfl
  · rw [decide_eq_true (show p.2 * p.2 = p.1 * p.1 * p.1 + four from h), Bool.or_true]
theorem on_of {p : Pt} (h : onB p = true) : On four p := by
  unfold onB at h
  rcases Bool.or_eq_true_iff.1 h with h | h
  · exact .inl (of_decide_eq_true h)
  · exact .inr (show p.2 * p.2 = p.1 * p.1 * p.1 + four from of_decide_eq_true h)

/-! ### The generator -/
theorem gen_on : onB gen = true := by decide +kernel
/-- The generator, as an element of the curve's group. -/
def gG : G2 := ⟨gen, on_of gen_on⟩
theorem gG_order : nmul rr gG = 0 := nmul_zero_of (f := 256) (by decide) (by decide +kernel)
theorem gen_ne : gen ≠ (0, 0) := by decide +kernel
theorem gen_two : gen ≠ pneg gen := by decide +kernel
/-! ### The turn, and the group's test -/
def te : Fq2 := ⟨Zp.of 877076961050607968509681729531255177986764537961432449499635504522207616027455086505066378536590128544573588734230, Zp.of 877076961050607968509681729531255177986764537961432449499635504522207616027455086505066378536590128544573588734230⟩
theorem te_sq : te * te = turnx := by decide +kernel
theorem te_cube : te * te * te = turny := by decide +kernel
theorem te_ne : te ≠ 0 := by decide +kernel
theorem sig_conj : Sig conj2 := ⟨fun x y => Fq2.ext rfl (show (0 - (x.b + y.b)) = ((0 - x.b) + (0 - y.b)) from ring_id (fun vi_ => vget vi_ [x.b, y.b]) (.sub .zero (.add (.var 0) (.var 1))) (.add (.sub .zero (.var 0)) (.sub .zero (.var 1))) (by kernel_rfl)),
  fun x y => Fq2.ext (show ((x.a * y.a) - (x.b * y.b)) = ((x.a * y.a) - ((0 - x.b) * (0 - y.b))) from ring_id (fun vi_ => vget vi_ [x.a, x.b, y.a, y.b]) (.sub (.mul (.var 0) (.var 2)) (.mul (.var 1) (.var 3))) (.sub (.mul (.var 0) (.var 2)) (.mul (.sub .zero (.var 1)) (.sub .zero (.var 3)))) (by kernel_rfl)) (show (0 - ((((x.a + x.b) * (y.a + y.b)) - (x.a * y.a)) - (x.b * y.b))) = ((((x.a + (0 - x.b)) * (y.a + (0 - y.b))) - (x.a * y.a)) - ((0 - x.b) * (0 - y.b))) from ring_id (fun vi_ => vget vi_ [x.a, x.b, y.a, y.b]) (.sub .zero (.sub (.sub (.mul (.add (.var 0) (.var 1)) (.add (.var 2) (.var 3))) (.mul (.var 0) (.var 2))) (.mul (.var 1) (.var 3)))) (.sub (.sub (.mul (.add (.var 0) (.sub .zero (.var 1))) (.add (.var 2) (.sub .zero (.var 3)))) (.mul (.var 0) (.var 2))) (.mul (.sub .zero (.var 1)) (.sub .zero (.var 3)))) (by kernel_rfl)),
  fun x y h => by
    have h1 : (conj2 x).a = (conj2 y).a := congrArg (fun z : Fq2 => z.a) h
    have h2 : (conj2 x).b = (conj2 y).b := congrArg (fun z : Fq2 => z.b) h
    have h1 : x.a = y.a := h1
    have h2 : 0 - x.b = 0 - y.b := h2
    exact Fq2.ext h1 (eq_of_sub (Eq.trans (show (x.b - y.b) = ((-1) * ((0 - x.b) - (0 - y.b))) from ring_id (fun vi_ => vget vi_ [x.b, y.b]) (.sub (.var 0) (.var 1)) (.mul (.neg .one) (.sub (.sub .zero (.var 0)) (.sub .zero (.var 1)))) (by kernel_rfl)) (lz h2)))⟩
theorem te_keep : te * te * te * (te * te * te) * conj2 four = four := by decide +kernel
theorem tturn : Turn four conj2 te := ⟨sig_conj, te_ne, te_keep⟩
def psi (P : G2) : G2 := turnG tturn P
theorem psi_val (P : G2) : (psi P).1 = turnP P.1 := by
  show (te * te * conj2 P.1.1, te * te * te * conj2 P.1.2) = _
  rw [te_cube, te_sq, mul_comm turnx, mul_comm turny]; rfl
theorem inB_iff (P : G2) : inB P.1 = true ↔ psi P = -nmul sz P := by
  unfold inB
  rw [times_ok sizeL_small, pneg_ok, ← psi_val, decide_eq_true_iff]
  exact ⟨fun h => Gp.ext h, fun h => congrArg (fun x : G2 => x.1) h⟩
set_option maxRecDepth 100000 in
theorem psi_z : (gadd (glad gG.1 256 sz) (psi gG).1).2.2 = 0 := by
  show (gadd (glad gen 256 sz) (te * te * conj2 gen.1, te * te * te * conj2 gen.2)).2.2 = 0
  decide +kernel
theorem sz_lt2 : sz < 2 ^ 256 := by rw [sz_val]; exact of_decide_eq_true (by kernel_rfl)
theorem psi_gen : psi gG = -nmul sz gG := by
  obtain ⟨h1, h2⟩ := glad_ok gG 256 sz sz_lt2
  obtain ⟨h3, h4⟩ := step_add (psi gG) h1 h2
  have hz : (gadd (glad gG.1 256 sz) (psi gG).1).2.2 = 0 := psi_z
  have h5 : nmul sz gG + psi gG = 0 := by
    generalize gadd (glad gG.1 256 sz) (psi gG).1 = j at h4 hz
    exact Gp.ext (h4.symm.trans (if_pos hz))
  exact a_neg_eq h5
theorem psi_mul (n : Nat) : psi (nmul n gG) = -nmul sz (nmul n gG) := by
  show turnG tturn (nmul n gG) = _
  rw [turnG_nmul]
  show nmul n (psi gG) = _
  rw [psi_gen, nmul_neg, nmul_comm n]
theorem in_mul (n : Nat) : inB (nmul n gG).1 = true := (inB_iff _).2 (psi_mul n)
/-! ### Scalars -/
theorem order_mul (n : Nat) : nmul rr (nmul n gG) = 0 := by rw [nmul_comm, gG_order, nmul_zero]
theorem ord_mod {Q : G2} (h0 : nmul rr Q = 0) (hQ : Q ≠ 0) (b : Nat) (hb : nmul b Q = 0) : b % rr = 0 := by
  refine Classical.byContradiction fun hne => hQ ?_
  have hx : (Zp.of b : Fs) ≠ 0 := fun e => hne (by
    have := congrArg Zp.val e
    rw [Zp.of_val, Zp.zero_val] at this; exact this)
  have hi := congrArg Zp.val (Fld.mul_finv (Zp.of b : Fs) hx)
  obtain ⟨v, hv⟩ : ∃ v, v = (Fld.finv (Zp.of b : Fs)).val := ⟨_, rfl⟩
  rw [Zp.mul_val, Zp.of_val, ← hv] at hi
  have h1 : (1 : Fs).val = 1 := by decide +kernel
  rw [h1] at hi
  have e1 : nmul (b % rr * v % rr) Q = nmul (b % rr * v) Q := nmul_mod h0 _
  rw [hi, nmul_one, nmul_mul, nmul_mod h0, hb, nmul_zero] at e1
  exact e1


theorem mul_zero_iff (x : Fs) : nmul x.val gG = 0 ↔ x = 0 := by
  refine ⟨fun h => ?_, fun h => by rw [h, Zp.zero_val]; rfl⟩
  have h1 := ord_mod gG_order (fun e => gen_ne (congrArg (fun x : G2 => x.1) e)) x.val h
  rw [Nat.mod_eq_of_lt x.lt] at h1
  exact Zp.ext (by rw [h1, Zp.zero_val])
end Go.Cw

/- Each point of the first group comes back from its forms, and what other marks make of them: the mathematics. -/
namespace Go.Cu
open Go Go.Vm Go.Ec
set_option linter.unusedVariables false
set_option linter.unusedSimpArgs false
set_option linter.unusedSectionVars false
open CR
/-! ### Marks of the first byte -/
def HeadB (b : Nat) (s n g : Bool) : Prop := sB (mN b s n g) = s ∧ fB (mN b s n g) = n ∧ lB (mN b s n g) = (s && !n && g) ∧ mN b s n g % 32 = b
theorem fin_head : ∀ (b : Fin 32) (s n g : Bool), (sB (mN b.val s n g) == s && fB (mN b.val s n g) == n && lB (mN b.val s n g) == (s && !n && g) && Nat.beq (mN b.val s n g % 32) b.val) = true := by decide +kernel
theorem head_at {b : Nat} (h : b < 32) (s n g : Bool) : HeadB b s n g := by
  have h := fin_head ⟨b, h⟩ s n g
  rw [Bool.and_eq_true, Bool.and_eq_true, Bool.and_eq_true, beq_iff_eq, beq_iff_eq, beq_iff_eq] at h
  exact ⟨h.1.1.1, h.1.1.2, h.1.2, Nat.eq_of_beq_eq_true h.2⟩
def xN (b m : Nat) : Nat := (bitsOf .xor .u8 ((b : Nat) : Int) ((m : Nat) : Int)).toNat
def xl (m : Nat) (l : List Nat) : List Nat := xN (b0 l) m :: l.tail
theorem xN_ok (b m : Nat) : bitsOf .xor .u8 ((b : Nat) : Int) ((m : Nat) : Int) = ((xN b m : Nat) : Int) ∧ xN b m < 256 := by
  have h : bitsOf .xor .u8 ((b : Nat) : Int) ((m : Nat) : Int) = (((BitVec.ofInt IntKind.u8.bits ((b : Nat) : Int) ^^^ BitVec.ofInt IntKind.u8.bits ((m : Nat) : Int)).toNat % 256 : Nat) : Int) := by
    unfold bitsOf
    exact wrap_u8
  unfold xN
  rw [h]
  omega
theorem fin_x : ∀ (b : Fin 256) (j : Fin 8), (sB (xN b.val (32 * j.val)) == (sB b.val != Nat.beq (j.val / 4 % 2) 1) && fB (xN b.val (32 * j.val)) == (fB b.val != Nat.beq (j.val / 2 % 2) 1) && lB (xN b.val (32 * j.val)) == (lB b.val != Nat.beq (j.val % 2) 1) && Nat.beq (xN b.val (32 * j.val) % 32) (b.val % 32)) = true := by decide +kernel
structure XorB (b j : Nat) : Prop where
  s : sB (xN b (32 * j)) = (sB b != Nat.beq (j / 4 % 2) 1)
  f : fB (xN b (32 * j)) = (fB b != Nat.beq (j / 2 % 2) 1)
  l : lB (xN b (32 * j)) = (lB b != Nat.beq (j % 2) 1)
  m : xN b (32 * j) % 32 = b % 32
theorem xor_at {b j : Nat} (hb : b < 256) (hj : j < 8) : XorB b j := by
  have h := fin_x ⟨b, hb⟩ ⟨j, hj⟩
  rw [Bool.and_eq_true, Bool.and_eq_true, Bool.and_eq_true, beq_iff_eq, beq_iff_eq, beq_iff_eq] at h
  exact ⟨h.1.1.1, h.1.1.2, h.1.2, Nat.eq_of_beq_eq_true h.2⟩
theorem fin_flip : ∀ (b : Fin 32) (g : Bool), Nat.beq (xN (mN b.val true false g) 32) (mN b.val true false (!g)) = true := by decide +kernel
theorem flip_at {b : Nat} (h : b < 32) (g : Bool) : xN (mN b true false g) 32 = mN b true false (!g) := Nat.eq_of_beq_eq_true (fin_flip ⟨b, h⟩ g)
theorem zB_low {b : Nat} (h : b < 256) (h2 : zB b = false) : b % 32 = 0 := by
  unfold zB at h2
  rw [and31_at h] at h2
  simp only [bne_eq_false_iff_eq] at h2
  omega
theorem xl_len {m : Nat} {l : List Nat} (h : 0 < l.length) : (xl m l).length = l.length := by unfold xl; rw [List.length_cons, List.length_tail]; omega
theorem xl_small {m : Nat} {l : List Nat} (hs : ∀ c ∈ l, c < 256) : ∀ c ∈ xl m l, c < 256 := by
  intro c hc
  unfold xl at hc
  rcases List.mem_cons.1 hc with rfl | h
  · exact (xN_ok _ _).2
  · exact hs _ (List.mem_of_mem_tail h)
/-- A form whose marks are not those of a form: with its own bytes not all nought. -/
theorem mark_x {l : List Nat} {j n : Nat} (hn : 0 < n) (hl : l.length = n ∨ l.length = 2 * n) (hsm : ∀ c ∈ l, c < 256) (hs : sB (b0 l) = decide (l.length = n)) (hf : fB (b0 l) = false) (hne : ¬ (b0 l % 32 = 0 ∧ ∀ c ∈ l.tail, c = 0))
    (hj : 0 < j) (hj8 : j < 8) (hk : l.length = n → j ≠ 1) (hg : l.length ≠ n → lB (b0 l) = false) : (markE (xl (32 * j) l) n).1 = 11 := by
  have h0 : 0 < l.length := by omega
  have hlx := xl_len (m := 32 * j) h0
  have hb := b0_lt hsm h0
  have hX := xor_at hb hj8
  have e : b0 (xl (32 * j) l) = xN (b0 l) (32 * j) := rfl
  by_cases hbad : badM (xl (32 * j) l) n = true
  · rw [mark_bad (by omega) hbad]
  · have hbad : badM (xl (32 * j) l) n = false := by simpa using hbad
    have hp := bad_parts hbad
    rw [e, hlx, hX.s, hX.f, hX.l, hs, hf] at hp
    obtain ⟨p1, p2, p3⟩ := hp
    have hj4 : Nat.beq (j / 4 % 2) 1 = false := by
      revert p1
      cases decide (l.length = n) <;> cases Nat.beq (j / 4 % 2) 1 <;> simp
    have j4 : j < 4 := by
      refine Classical.byContradiction fun h => ?_
      have : j / 4 % 2 = 1 := by omega
      rw [this] at hj4; cases hj4
    have hj2 : Nat.beq (j / 2 % 2) 1 = true := by
      rcases h : Nat.beq (j / 2 % 2) 1 with _ | _
      · exfalso
        have h2 : ¬ j / 2 % 2 = 1 := fun e => by rw [e] at h; cases h
        have j1 : j = 1 := by omega
        subst j1
        have hln : l.length ≠ n := fun e => hk e rfl
        rw [hg hln, decide_eq_false hln, hj4] at p2
        have := p2 rfl
        cases this
      · rfl
    have hfb : fB (b0 (xl (32 * j) l)) = true := by rw [e, hX.f, hf, hj2]; rfl
    have hd : dirty (xl (32 * j) l) = true := by
      rcases h : dirty (xl (32 * j) l) with _ | _
      · refine absurd ?_ hne
        have hz : zB (xN (b0 l) (32 * j)) = false := by unfold dirty at h; rw [Bool.or_eq_false_iff] at h; exact h.1
        have := zB_low (xN_ok _ _).2 hz
        rw [hX.m] at this
        exact ⟨this, (show ∀ c ∈ (xl (32 * j) l).tail, c = 0 from tail_zero h)⟩
      · rfl
    rw [mark_dirty (by omega) hbad hfb hd]
theorem rd1_bad {l : List Nat} (h : (markE l 48).1 = 11) : rd1 l = ((0, 0), 11) := by
  rw [rd1_mark (by rw [h]; decide), h]
/-! ### Bytes of a number -/
theorem pp_top : pp ≤ 32 * 256 ^ 47 := by decide +kernel
theorem pp_48 : pp ≤ 256 ^ 48 := by decide +kernel
theorem byt_top32 (x : Fq) : byt x.val 47 < 32 := by
  unfold byt
  have h := x.lt
  have h2 := pp_top
  refine Nat.lt_of_le_of_lt (Nat.mod_le _ _) (Nat.div_lt_of_lt_mul (Nat.lt_of_lt_of_le h ?_))
  rw [Nat.mul_comm]; exact h2
theorem beN_fN (x : Fq) : beN (fN x) = x.val := by
  have h := beN_bytes x.val 48
  have e : fN x = (List.range 48).map fun i => x.val / 256 ^ (48 - 1 - i) % 256 := rfl
  rw [e, h, Nat.mod_eq_of_lt (Nat.lt_of_lt_of_le x.lt pp_48)]
theorem readF_fN (x : Fq) : readF (fN x) = (x, 0) := by
  have h := beN_fN x
  rw [readF_yes (fN_len x) (by rw [h]; exact x.lt), h]
  exact Prod.ext (Zp.ext (by rw [Zp.of_val, Nat.mod_eq_of_lt x.lt])) rfl
theorem fN_zero {x : Fq} (h : ∀ c ∈ fN x, c = 0) : x = 0 := by
  have e : fN x = fN 0 := by
    have h1 : fN x = List.replicate 48 0 := List.eq_replicate_iff.2 ⟨fN_len x, h⟩
    rw [h1]; decide +kernel
  have h2 := readF_fN x
  rw [e, readF_fN] at h2
  exact (congrArg Prod.fst h2).symm
/-! ### Roots -/
theorem sqrtF_of_sq (y : Fq) : (sqrtF (y * y)).2 = true := by
  have h : root (y * y) * root (y * y) = y * y := by
    rw [Cw.root_sq]
    by_cases hy : y = 0
    · rw [hy, mul_zero', zero_mul']
    · rw [show y * y = pw y 2 by rw [pw, pw, pw, one_mul], ← pw_mul, show 2 * ((pp - 1) / 2) = pp - 1 by decide +kernel, fermat prime_pp hy, mul_one']
  unfold sqrtF
  rw [if_pos h]
theorem sq_two {s y : Fq} (h : s * s = y * y) : s = y ∨ s = 0 - y := by
  by_cases h1 : s = y
  · exact .inl h1
  · right
    refine Classical.byContradiction fun h2 => ?_
    refine Fld.mul_ne (a := s - y) (b := s + y) (fun e => h1 (eq_of_sub e)) (fun e => h2 ?_) ?_
    · exact (eq_of_sub (Eq.trans (show (s - (0 - y)) = (1 * ((s + y) - 0)) from ring_id (fun vi_ => vget vi_ [s, y]) (.sub (.var 0) (.sub .zero (.var 1))) (.mul .one (.sub (.add (.var 0) (.var 1)) .zero)) (by kernel_rfl)) (lz e)))
    · exact (eq_of_sub (Eq.trans (show (((s - y) * (s + y)) - 0) = (1 * ((s * s) - (y * y))) from ring_id (fun vi_ => vget vi_ [s, y]) (.sub (.mul (.sub (.var 0) (.var 1)) (.add (.var 0) (.var 1))) .zero) (.mul .one (.sub (.mul (.var 0) (.var 0)) (.mul (.var 1) (.var 1)))) (by kernel_rfl)) (lz h)))
/-! ### There and back -/
theorem form_b0 (p : Pt) : b0 (formN1 p) = mN (byt p.1.val 47) true (decide (p = (0, 0))) (largeF p.2) := rfl
theorem full_b0 (p : Pt) : b0 (fullN1 p) = mN (byt p.1.val 47) false (decide (p = (0, 0))) false := rfl
theorem form_cl (p : Pt) : cl (formN1 p) = fN p.1 := by
  unfold cl
  rw [form_b0, (head_at (byt_top32 p.1) _ _ _).2.2.2]; rfl
theorem full_cl (p : Pt) : cl (fullN1 p) = fN p.1 ++ fN p.2 := by
  unfold cl
  rw [full_b0, (head_at (byt_top32 p.1) _ _ _).2.2.2]; rfl
theorem form_zero_back : rd1 (formN1 (0, 0)) = ((0, 0), 0) := by decide +kernel
theorem full_zero_back : rd1 (fullN1 (0, 0)) = ((0, 0), 0) := by decide +kernel
theorem on_eq {p : Pt} (hp : p ≠ (0, 0)) (hon : onB p = true) : p.2 * p.2 = p.1 * p.1 * p.1 + Zp.of 4 := by
  unfold onB at hon
  rw [decide_eq_false hp, Bool.false_or] at hon
  exact of_decide_eq_true hon
theorem y_ne {p : Pt} (h : p.2 * p.2 = p.1 * p.1 * p.1 + Zp.of 4) : p.2 ≠ 0 := fun e => by
  rw [e] at h
  exact no_cube p.1 (by rw [← h]; exact (show (0 * 0) = 0 from ring_id (fun vi_ => vget vi_ []) (.mul .zero .zero) .zero (by kernel_rfl)))
theorem form_back {p : Pt} (hin : inB p = true) (hon : onB p = true) : rd1 (formN1 p) = (p, 0) := by
  by_cases hp : p = (0, 0)
  · rw [hp]; exact form_zero_back
  · have hy := on_eq hp hon
    have hy0 := y_ne hy
    obtain ⟨l, hl⟩ : ∃ l, l = formN1 p := ⟨_, rfl⟩
    have hlen : l.length = 48 := by rw [hl, formN1_len]
    have hH := head_at (byt_top32 p.1) true (decide (p = (0, 0))) (largeF p.2)
    rw [decide_eq_false hp] at hH
    have hb : b0 l = mN (byt p.1.val 47) true false (largeF p.2) := by rw [hl, form_b0, decide_eq_false hp]
    obtain ⟨h1, h2, h3, h4⟩ := hH
    rw [← hb] at h1 h2 h3 h4
    have hbad : badM l 48 = false := by
      unfold badM
      rw [h1, h2, h3, hlen]
      cases largeF p.2 <;> rfl
    have hM : markE l 48 = (0, false) := by rw [mark_ok (.inl hlen) hbad (by rw [h2]; simp), h2]
    have hE : (markE l 48).1 = 0 := by rw [hM]
    have hX : (p.1, (0 : Int)) = rx l := by
      rw [rx_eq, hl, form_cl, List.take_of_length_le (by rw [fN_len]; exact Nat.le_refl _), readF_fN]
    obtain ⟨sq, hsq⟩ : ∃ s, s = sqrtF (p.1 * p.1 * p.1 + Zp.of 4) := ⟨_, rfl⟩
    have hok : sq.2 = true := by rw [hsq, ← hy]; exact sqrtF_of_sq _
    have hroot := sqrtF_sq hsq hok
    rw [← hy] at hroot
    rw [← hl]
    by_cases h5 : largeF sq.1 = lB (b0 l)
    · rw [rd1_pos hX hsq hE h2 rfl (by omega) h5, hok]
      have he : sq.1 = p.2 := by
        rcases sq_two hroot with h | h
        · exact h
        · rw [h, large_neg hy0, h3] at h5
          revert h5; cases largeF p.2 <;> simp
      rw [he]
      exact fin_ok hp hin
    · rw [rd1_neg hX hsq hE h2 rfl (by omega) h5, hok]
      have he : 0 - sq.1 = p.2 := by
        rcases sq_two hroot with h | h
        · rw [h, h3] at h5
          revert h5; cases largeF p.2 <;> simp
        · rw [h]; exact (show (0 - (0 - p.2)) = p.2 from ring_id (fun vi_ => vget vi_ [p.2]) (.sub .zero (.sub .zero (.var 0))) (.var 0) (by kernel_rfl))
      show fin1 (p.1, 0 - sq.1) true = _
      rw [he]
      exact fin_ok hp hin
theorem full_back {p : Pt} (hin : inB p = true) (hon : onB p = true) : rd1 (fullN1 p) = (p, 0) := by
  by_cases hp : p = (0, 0)
  · rw [hp]; exact full_zero_back
  · obtain ⟨l, hl⟩ : ∃ l, l = fullN1 p := ⟨_, rfl⟩
    have hlen : l.length = 96 := by rw [hl, fullN1_len]
    have hH := head_at (byt_top32 p.1) false (decide (p = (0, 0))) false
    rw [decide_eq_false hp] at hH
    have hb : b0 l = mN (byt p.1.val 47) false false false := by rw [hl, full_b0, decide_eq_false hp]
    obtain ⟨h1, h2, h3, h4⟩ := hH
    rw [← hb] at h1 h2 h3 h4
    have hbad : badM l 48 = false := by
      unfold badM
      rw [h1, h2, h3, hlen]; rfl
    have hM : markE l 48 = (0, false) := by rw [mark_ok (.inr hlen) hbad (by rw [h2]; simp), h2]
    have hE : (markE l 48).1 = 0 := by rw [hM]
    have hX : (p.1, (0 : Int)) = rx l := by
      rw [rx_eq, hl, full_cl, List.take_left' (fN_len p.1), readF_fN]
    have hY : (p.2, (0 : Int)) = ry l := by
      rw [ry_eq, hl, full_cl, List.drop_left' (fN_len p.1), readF_fN]
    rw [← hl, rd1_long hX hY hE h2 rfl (by omega) rfl]
    show fin1 p (onB p) = _
    rw [hon]
    exact fin_ok hp hin
/-! ### Other marks -/
theorem three_of {P : G1} (h3 : P + P = -P) (hr : nmul rr P = 0) : P = 0 := by
  have h : nmul 3 P = 0 := by rw [show 3 = 2 + 1 from rfl, nmul, nmul_two, h3, AG.neg_a]
  have h4 : nmul (rr % 3) P = 0 := by
    have e := nmul_add (3 * (rr / 3)) P (rr % 3)
    rw [Nat.div_add_mod, hr, nmul_mul, h, nmul_zero, AG.zero_a] at e
    exact e.symm
  rw [show rr % 3 = 1 by decide +kernel, nmul_one] at h4
  exact h4
theorem dbl_x0 {α : Type} [Fld α] [DecidableEq α] {B : α} [hG : Gd B] {P : Gp B} (hp : P.1 ≠ (0, 0)) (hx : P.1.1 = 0) : P + P = -P := by
  have hn : ¬ (P.1.1 = P.1.1 ∧ P.1.2 + P.1.2 = 0) := fun h => by
    refine hp (Prod.ext hx (Classical.byContradiction fun hy => ?_))
    refine Fld.mul_ne (a := 1 + 1) (b := P.1.2) hG.two hy ?_
    exact (eq_of_sub (Eq.trans (show (((1 + 1) * P.1.2) - 0) = (1 * ((P.1.2 + P.1.2) - 0)) from ring_id (fun vi_ => vget vi_ [P.1.2]) (.sub (.mul (.add .one .one) (.var 0)) .zero) (.mul .one (.sub (.add (.var 0) (.var 0)) .zero)) (by kernel_rfl)) (lz h.2)))
  refine Gp.ext ?_
  show cadd P.1 P.1 = cneg P.1
  unfold cadd cneg
  rw [if_neg hp, if_neg hp, if_neg hn, if_neg hp]
  unfold third slope
  rw [if_pos rfl, hx]
  generalize Fld.finv (P.1.2 + P.1.2) = v
  exact Prod.ext (show (((((((0 * 0) + (0 * 0)) + (0 * 0)) * v) * ((((0 * 0) + (0 * 0)) + (0 * 0)) * v)) - 0) - 0) = 0 from ring_id (fun vi_ => vget vi_ [v]) (.sub (.sub (.mul (.mul (.add (.add (.mul .zero .zero) (.mul .zero .zero)) (.mul .zero .zero)) (.var 0)) (.mul (.add (.add (.mul .zero .zero) (.mul .zero .zero)) (.mul .zero .zero)) (.var 0))) .zero) .zero) .zero (by kernel_rfl)) (show ((((((0 * 0) + (0 * 0)) + (0 * 0)) * v) * (0 - (((((((0 * 0) + (0 * 0)) + (0 * 0)) * v) * ((((0 * 0) + (0 * 0)) + (0 * 0)) * v)) - 0) - 0))) - P.1.2) = (0 - P.1.2) from ring_id (fun vi_ => vget vi_ [v, P.1.2]) (.sub (.mul (.mul (.add (.add (.mul .zero .zero) (.mul .zero .zero)) (.mul .zero .zero)) (.var 0)) (.sub .zero (.sub (.sub (.mul (.mul (.add (.add (.mul .zero .zero) (.mul .zero .zero)) (.mul .zero .zero)) (.var 0)) (.mul (.add (.add (.mul .zero .zero) (.mul .zero .zero)) (.mul .zero .zero)) (.var 0))) .zero) .zero))) (.var 1)) (.sub .zero (.var 1)) (by kernel_rfl))
theorem x_ne {P : G1} (hp : P.1 ≠ (0, 0)) (hr : nmul rr P = 0) : P.1.1 ≠ 0 := fun e => hp (congrArg (fun x : G1 => x.1) (three_of (dbl_x0 hp e) hr))
theorem form_neg {p : Pt} (hp : p ≠ (0, 0)) (hon : onB p = true) : xl 32 (formN1 p) = formN1 (pneg p) := by
  have hy0 := y_ne (on_eq hp hon)
  have hn : pneg p = (p.1, 0 - p.2) := if_neg hp
  have hp' : pneg p ≠ (0, 0) := fun e => hy0 (by
    have : 0 - p.2 = 0 := congrArg Prod.snd (hn.symm.trans e)
    exact (eq_of_sub (Eq.trans (show (p.2 - 0) = ((0 - 1) * ((0 - p.2) - 0)) from ring_id (fun vi_ => vget vi_ [p.2]) (.sub (.var 0) .zero) (.mul (.sub .zero .one) (.sub (.sub .zero (.var 0)) .zero)) (by kernel_rfl)) (lz this))))
  unfold xl
  rw [form_b0, decide_eq_false hp, flip_at (byt_top32 p.1), ← large_neg hy0]
  unfold formN1
  rw [decide_eq_false hp', hn]; rfl
theorem form_bad {p : Pt} (hp : p ≠ (0, 0)) (hx : p.1 ≠ 0) {j : Nat} (hj : 1 < j) (hj8 : j < 8) : rd1 (xl (32 * j) (formN1 p)) = ((0, 0), 11) := by
  have hH := head_at (byt_top32 p.1) true (decide (p = (0, 0))) (largeF p.2)
  rw [decide_eq_false hp] at hH
  have hb : b0 (formN1 p) = mN (byt p.1.val 47) true false (largeF p.2) := by rw [form_b0, decide_eq_false hp]
  obtain ⟨h1, h2, h3, h4⟩ := hH
  rw [← hb] at h1 h2 h3 h4
  have hlen := formN1_len p
  refine rd1_bad (mark_x (by decide) (.inl hlen) (formN1_small p) (by rw [h1, hlen]; rfl) h2 (fun h => hx (fN_zero fun c hc => ?_)) (by omega) hj8 (fun _ => by omega) (fun h => absurd hlen h))
  rw [fN_cons, ← h4] at hc
  rcases List.mem_cons.1 hc with h5 | h5
  · rw [h5]; exact h.1
  · exact h.2 c h5
theorem full_bad {p : Pt} (hp : p ≠ (0, 0)) (hx : p.1 ≠ 0) {j : Nat} (hj : 0 < j) (hj8 : j < 8) : rd1 (xl (32 * j) (fullN1 p)) = ((0, 0), 11) := by
  have hH := head_at (byt_top32 p.1) false (decide (p = (0, 0))) false
  rw [decide_eq_false hp] at hH
  have hb : b0 (fullN1 p) = mN (byt p.1.val 47) false false false := by rw [full_b0, decide_eq_false hp]
  obtain ⟨h1, h2, h3, h4⟩ := hH
  rw [← hb] at h1 h2 h3 h4
  have hlen := fullN1_len p
  refine rd1_bad (mark_x (by decide) (.inr hlen) (fullN1_small p) (by rw [h1, hlen]; rfl) h2 (fun h => hx (fN_zero fun c hc => ?_)) hj hj8 (fun h => by omega) (fun _ => h3))
  rw [fN_cons, ← h4] at hc
  rcases List.mem_cons.1 hc with h5 | h5
  · rw [h5]; exact h.1
  · refine h.2 c ?_
    have e : (fullN1 p).tail = (fN p.1).tail ++ fN p.2 := rfl
    rw [e]; exact List.mem_append_left _ h5
/-- What the laws ask of a multiple of the generator. -/
structure Bk (n : Fs) (p : Pt) : Prop where
  b1 : rd1 (formN1 p) = (p, 0)
  b2 : rd1 (fullN1 p) = (p, 0)
  b3 : n = 0 → formN1 (pneg p) = formN1 p
  b4 : n ≠ 0 → xl 32 (formN1 (pneg p)) = formN1 p
  m1 : n ≠ 0 → ∀ j, 1 < j → j < 8 → rd1 (xl (32 * j) (formN1 p)) = ((0, 0), 11)
  m2 : n ≠ 0 → ∀ j, 0 < j → j < 8 → rd1 (xl (32 * j) (fullN1 p)) = ((0, 0), 11)
  m3 : n ≠ 0 → rd1 (xl 32 (formN1 p)) = (pneg p, 0)
theorem neg_of {γ : Type} [AG γ] {r : Nat} (hr : 0 < r) {x : γ} (h : nmul r x = 0) : -x = nmul (r - 1) x := by
  obtain ⟨k, rfl⟩ : ∃ k, r = k + 1 := ⟨r - 1, by omega⟩
  rw [nmul] at h
  rw [Nat.add_sub_cancel]
  exact (a_neg_eq (by rw [AG.acomm]; exact h)).symm
theorem neg_mul (k : Nat) : -nmul k gG = nmul (k * (rr - 1)) gG := by
  rw [nmul_mul]
  exact neg_of rr_pos (order_mul k)
theorem bk {n : Fs} {p : Pt} (hp : p = pmul gen n) : Bk n p := by
  have hP : p = (nmul n.val gG).1 := hp.trans (pmul_ok gG n)
  have hin : inB p = true := by rw [hP]; exact in_mul _
  have hon : onB p = true := by rw [hP]; exact onB_ok (nmul n.val gG).2
  have hN : pneg p = (nmul (n.val * (rr - 1)) gG).1 := by rw [hP, pneg_ok, neg_mul]
  have hin' : inB (pneg p) = true := by rw [hN]; exact in_mul _
  have hon' : onB (pneg p) = true := by rw [hN]; exact onB_ok (nmul (n.val * (rr - 1)) gG).2
  have h0 : n ≠ 0 → p ≠ (0, 0) := fun h e => h ((mul_zero_iff n).1 (Gp.ext (hP.symm.trans e)))
  have h0' : n ≠ 0 → pneg p ≠ (0, 0) := fun h e => by
    refine y_ne (on_eq (h0 h) hon) ?_
    have : 0 - p.2 = 0 := congrArg Prod.snd ((if_neg (h0 h) : pneg p = (p.1, 0 - p.2)).symm.trans e)
    exact (eq_of_sub (Eq.trans (show (p.2 - 0) = ((0 - 1) * ((0 - p.2) - 0)) from ring_id (fun vi_ => vget vi_ [p.2]) (.sub (.var 0) .zero) (.mul (.sub .zero .one) (.sub (.sub .zero (.var 0)) .zero)) (by kernel_rfl)) (lz this)))
  have hnn : pneg (pneg p) = p := by rw [hP, pneg_ok, pneg_ok, a_neg_neg]
  have hx : n ≠ 0 → p.1 ≠ 0 := fun h => by rw [hP]; exact x_ne (hP ▸ h0 h) (order_mul n.val)
  refine ⟨form_back hin hon, full_back hin hon, fun h => ?_, fun h => ?_, fun h j h1 h2 => form_bad (h0 h) (hx h) h1 h2, fun h j h1 h2 => full_bad (h0 h) (hx h) h1 h2, fun h => ?_⟩
  · have : p = (0, 0) := by rw [hP, h, Zp.zero_val]; rfl
    rw [this]; decide +kernel
  · rw [form_neg (h0' h) hon', hnn]
  · rw [form_neg (h0 h) hon]; exact form_back hin' hon'
end Go.Cu

/- Each point of the second group comes back from its forms, and what other marks make of them: the mathematics. -/
namespace Go.Cw
open Go.Cu Go Go.Vm Go.Ec
set_option linter.unusedVariables false
set_option linter.unusedSimpArgs false
set_option linter.unusedSectionVars false
open CR
theorem rd1_bad {l : List Nat} (h : (markE l 96).1 = 11) : rd1 l = ((0, 0), 11) := by
  rw [rd1_mark (by rw [h]; decide), h]
theorem read2_f2N (x : Fq2) : read2 (f2N x) = (x, 0) := by
  have h1 : (f2N x).take 48 = fN x.b := List.take_left' (fN_len x.b)
  have h2 : (f2N x).drop 48 = fN x.a := List.drop_left' (fN_len x.b)
  rw [read2_yes (f2N_len x) (by rw [h1, readF_fN]) (by rw [h2, readF_fN]), h1, h2, readF_fN, readF_fN]
theorem f2N_zero {x : Fq2} (h : ∀ c ∈ f2N x, c = 0) : x = 0 :=
  Fq2.ext (fN_zero fun c hc => h c (List.mem_append_right _ hc)) (fN_zero fun c hc => h c (List.mem_append_left _ hc))
/-! ### Roots -/
theorem sqrtF_ne {x : Fq} (hx : x ≠ 0) (h : (sqrtF x).2 = true) : (sqrtF x).1 ≠ 0 := fun e => hx (by
  have h2 := sqrtF_ok h
  rw [e] at h2
  rw [← h2]; exact (show (0 * 0) = 0 from ring_id (fun vi_ => vget vi_ []) (.mul .zero .zero) .zero (by kernel_rfl)))
theorem half_sq {c d h : Fq} (hh : h + h = 1) : (c * c - d * d + (c * c + d * d)) * h = c * c := (eq_of_sub (Eq.trans (show (((((c * c) - (d * d)) + ((c * c) + (d * d))) * h) - (c * c)) = ((c * c) * ((h + h) - 1)) from ring_id (fun vi_ => vget vi_ [c, d, h]) (.sub (.mul (.add (.sub (.mul (.var 0) (.var 0)) (.mul (.var 1) (.var 1))) (.add (.mul (.var 0) (.var 0)) (.mul (.var 1) (.var 1)))) (.var 2)) (.mul (.var 0) (.var 0))) (.mul (.mul (.var 0) (.var 0)) (.sub (.add (.var 2) (.var 2)) .one)) (by kernel_rfl)) (lz hh)))
theorem s2from_sq {x : Fq2} {h : Fq} (hh : h + h = 1) {c d : Fq} (ha : x.a = c * c - d * d) (hc : c ≠ 0) : ∀ n, n = c * c + d * d ∨ n = 0 - (c * c + d * d) → (s2from x h 2 n).2 = true := by
  have hgood : ∀ f n, n = c * c + d * d → (s2from x h (f + 1) n).2 = true := fun f n hn => by
    have e : (x.a + n) * h = c * c := by rw [ha, hn]; exact half_sq hh
    have h1 : (sqrtF ((x.a + n) * h)).2 = true := by rw [e]; exact sqrtF_of_sq c
    have h2 : (sqrtF ((x.a + n) * h)).1 ≠ 0 := sqrtF_ne (by rw [e]; exact Fld.mul_ne hc hc) h1
    unfold s2from
    rw [if_pos ⟨h1, h2⟩]
  intro n hn
  rcases hn with hn | hn
  · exact hgood 1 n hn
  · by_cases hk : (sqrtF ((x.a + n) * h)).2 = true ∧ (sqrtF ((x.a + n) * h)).1 ≠ 0
    · unfold s2from; rw [if_pos hk]
    · have e : s2from x h 2 n = s2from x h 1 (0 - n) := by rw [s2from, if_neg hk]
      rw [e]
      exact hgood 0 _ (by rw [hn]; exact (show (0 - (0 - ((c * c) + (d * d)))) = ((c * c) + (d * d)) from ring_id (fun vi_ => vget vi_ [c, d]) (.sub .zero (.sub .zero (.add (.mul (.var 0) (.var 0)) (.mul (.var 1) (.var 1))))) (.add (.mul (.var 0) (.var 0)) (.mul (.var 1) (.var 1))) (by kernel_rfl)))
theorem sqrt2_of_sq (y : Fq2) : (sqrt2 (y * y)).2 = true := by
  obtain ⟨c, d⟩ := y
  have ha : (⟨c, d⟩ * ⟨c, d⟩ : Fq2).a = c * c - d * d := rfl
  have hb : (⟨c, d⟩ * ⟨c, d⟩ : Fq2).b = (c + d) * (c + d) - c * c - d * d := rfl
  have hn : norm2 (⟨c, d⟩ * ⟨c, d⟩) = (c * c + d * d) * (c * c + d * d) := norm2_mul ⟨c, d⟩ ⟨c, d⟩
  generalize (⟨c, d⟩ * ⟨c, d⟩ : Fq2) = x at ha hb hn
  by_cases h0 : x.b = 0
  · unfold sqrt2
    rw [if_pos h0]
    split <;> rfl
  · have hN : (sqrtF (norm2 x)).2 = true := by rw [hn]; exact sqrtF_of_sq _
    have hc : c ≠ 0 := fun e => h0 (by rw [hb, e]; exact (show ((((0 + d) * (0 + d)) - (0 * 0)) - (d * d)) = 0 from ring_id (fun vi_ => vget vi_ [d]) (.sub (.sub (.mul (.add .zero (.var 0)) (.add .zero (.var 0))) (.mul .zero .zero)) (.mul (.var 0) (.var 0))) .zero (by kernel_rfl)))
    unfold sqrt2
    rw [if_neg h0, if_pos hN]
    refine s2from_sq two_inv ha hc _ (sq_two ?_)
    rw [sqrtF_ok hN, hn]
theorem sq_two2 {s y : Fq2} (h : s * s = y * y) : s = y ∨ s = 0 - y := by
  by_cases h1 : s = y
  · exact .inl h1
  · right
    refine Classical.byContradiction fun h2 => ?_
    refine Fld.mul_ne (a := s - y) (b := s + y) (fun e => h1 (eq_of_sub e)) (fun e => h2 ?_) ?_
    · exact (eq_of_sub (Eq.trans (show (s - (0 - y)) = (1 * ((s + y) - 0)) from ring_id (fun vi_ => vget vi_ [s, y]) (.sub (.var 0) (.sub .zero (.var 1))) (.mul .one (.sub (.add (.var 0) (.var 1)) .zero)) (by kernel_rfl)) (lz e)))
    · exact (eq_of_sub (Eq.trans (show (((s - y) * (s + y)) - 0) = (1 * ((s * s) - (y * y))) from ring_id (fun vi_ => vget vi_ [s, y]) (.sub (.mul (.sub (.var 0) (.var 1)) (.add (.var 0) (.var 1))) .zero) (.mul .one (.sub (.mul (.var 0) (.var 0)) (.mul (.var 1) (.var 1)))) (by kernel_rfl)) (lz h)))
/-! ### There and back -/
theorem form_b0 (p : Pt) : b0 (formN2 p) = mN (byt p.1.b.val 47) true (decide (p = (0, 0))) (large2 p.2) := rfl
theorem full_b0 (p : Pt) : b0 (fullN2 p) = mN (byt p.1.b.val 47) false (decide (p = (0, 0))) false := rfl
theorem form_cl (p : Pt) : cl (formN2 p) = f2N p.1 := by
  unfold cl
  rw [form_b0, (head_at (byt_top32 p.1.b) _ _ _).2.2.2]; rfl
theorem full_cl (p : Pt) : cl (fullN2 p) = f2N p.1 ++ f2N p.2 := by
  unfold cl
  rw [full_b0, (head_at (byt_top32 p.1.b) _ _ _).2.2.2]; rfl
theorem form_zero_back : rd1 (formN2 (0, 0)) = ((0, 0), 0) := by decide +kernel
theorem full_zero_back : rd1 (fullN2 (0, 0)) = ((0, 0), 0) := by decide +kernel
theorem on_eq {p : Pt} (hp : p ≠ (0, 0)) (hon : onB p = true) : p.2 * p.2 = p.1 * p.1 * p.1 + small 4 4 := by
  unfold onB at hon
  rw [decide_eq_false hp, Bool.false_or] at hon
  exact of_decide_eq_true hon
theorem y_ne {p : Pt} (h : p.2 * p.2 = p.1 * p.1 * p.1 + small 4 4) : p.2 ≠ 0 := fun e => by
  rw [e] at h
  exact no_cube2 p.1 (by rw [← h]; exact (show (0 * 0) = 0 from ring_id (fun vi_ => vget vi_ []) (.mul .zero .zero) .zero (by kernel_rfl)))
theorem form_back {p : Pt} (hin : inB p = true) (hon : onB p = true) : rd1 (formN2 p) = (p, 0) := by
  by_cases hp : p = (0, 0)
  · rw [hp]; exact form_zero_back
  · have hy := on_eq hp hon
    have hy0 := y_ne hy
    obtain ⟨l, hl⟩ : ∃ l, l = formN2 p := ⟨_, rfl⟩
    have hlen : l.length = 96 := by rw [hl, formN2_len]
    have hH := head_at (byt_top32 p.1.b) true (decide (p = (0, 0))) (large2 p.2)
    rw [decide_eq_false hp] at hH
    have hb : b0 l = mN (byt p.1.b.val 47) true false (large2 p.2) := by rw [hl, form_b0, decide_eq_false hp]
    obtain ⟨h1, h2, h3, h4⟩ := hH
    rw [← hb] at h1 h2 h3 h4
    have hbad : badM l 96 = false := by
      unfold badM
      rw [h1, h2, h3, hlen]
      cases large2 p.2 <;> rfl
    have hM : markE l 96 = (0, false) := by rw [mark_ok (.inl hlen) hbad (by rw [h2]; simp), h2]
    have hE : (markE l 96).1 = 0 := by rw [hM]
    have hX : (p.1, (0 : Int)) = rx l := by
      rw [rx_eq, hl, form_cl, List.take_of_length_le (by rw [f2N_len]; exact Nat.le_refl _), read2_f2N]
    obtain ⟨sq, hsq⟩ : ∃ s, s = sqrt2 (p.1 * p.1 * p.1 + small 4 4) := ⟨_, rfl⟩
    have hok : sq.2 = true := by rw [hsq, ← hy]; exact sqrt2_of_sq _
    have hroot := sqrt2_sq hsq hok
    rw [← hy] at hroot
    rw [← hl]
    by_cases h5 : large2 sq.1 = lB (b0 l)
    · rw [rd1_pos hX hsq hE h2 rfl (by omega) h5, hok]
      have he : sq.1 = p.2 := by
        rcases sq_two2 hroot with h | h
        · exact h
        · rw [h, large2_neg hy0, h3] at h5
          revert h5; cases large2 p.2 <;> simp
      rw [he]
      exact fin_ok hp hin
    · rw [rd1_neg hX hsq hE h2 rfl (by omega) h5, hok]
      have he : 0 - sq.1 = p.2 := by
        rcases sq_two2 hroot with h | h
        · rw [h, h3] at h5
          revert h5; cases large2 p.2 <;> simp
        · rw [h]; exact (show (0 - (0 - p.2)) = p.2 from ring_id (fun vi_ => vget vi_ [p.2]) (.sub .zero (.sub .zero (.var 0))) (.var 0) (by kernel_rfl))
      show fin1 (p.1, 0 - sq.1) true = _
      rw [he]
      exact fin_ok hp hin
theorem full_back {p : Pt} (hin : inB p = true) (hon : onB p = true) : rd1 (fullN2 p) = (p, 0) := by
  by_cases hp : p = (0, 0)
  · rw [hp]; exact full_zero_back
  · obtain ⟨l, hl⟩ : ∃ l, l = fullN2 p := ⟨_, rfl⟩
    have hlen : l.length = 192 := by rw [hl, fullN2_len]
    have hH := head_at (byt_top32 p.1.b) false (decide (p = (0, 0))) false
    rw [decide_eq_false hp] at hH
    have hb : b0 l = mN (byt p.1.b.val 47) false false false := by rw [hl, full_b0, decide_eq_false hp]
    obtain ⟨h1, h2, h3, h4⟩ := hH
    rw [← hb] at h1 h2 h3 h4
    have hbad : badM l 96 = false := by
      unfold badM
      rw [h1, h2, h3, hlen]; rfl
    have hM : markE l 96 = (0, false) := by rw [mark_ok (.inr hlen) hbad (by rw [h2]; simp), h2]
    have hE : (markE l 96).1 = 0 := by rw [hM]
    have hX : (p.1, (0 : Int)) = rx l := by
      rw [rx_eq, hl, full_cl, List.take_left' (f2N_len p.1), read2_f2N]
    have hY : (p.2, (0 : Int)) = ry l := by
      rw [ry_eq, hl, full_cl, List.drop_left' (f2N_len p.1), read2_f2N]
    rw [← hl, rd1_long hX hY hE h2 rfl (by omega) rfl]
    show fin1 p (onB p) = _
    rw [hon]
    exact fin_ok hp hin
/-! ### Other marks -/
theorem three_of {P : G2} (h3 : P + P = -P) (hr : nmul rr P = 0) : P = 0 := by
  have h : nmul 3 P = 0 := by rw [show 3 = 2 + 1 from rfl, nmul, nmul_two, h3, AG.neg_a]
  have h4 : nmul (rr % 3) P = 0 := by
    have e := nmul_add (3 * (rr / 3)) P (rr % 3)
    rw [Nat.div_add_mod, hr, nmul_mul, h, nmul_zero, AG.zero_a] at e
    exact e.symm
  rw [show rr % 3 = 1 by decide +kernel, nmul_one] at h4
  exact h4
theorem x_ne {P : G2} (hp : P.1 ≠ (0, 0)) (hr : nmul rr P = 0) : P.1.1 ≠ 0 := fun e => hp (congrArg (fun x : G2 => x.1) (three_of (dbl_x0 hp e) hr))
theorem form_neg {p : Pt} (hp : p ≠ (0, 0)) (hon : onB p = true) : xl 32 (formN2 p) = formN2 (pneg p) := by
  have hy0 := y_ne (on_eq hp hon)
  have hn : pneg p = (p.1, 0 - p.2) := if_neg hp
  have hp' : pneg p ≠ (0, 0) := fun e => hy0 (by
    have : 0 - p.2 = 0 := congrArg Prod.snd (hn.symm.trans e)
    exact (eq_of_sub (Eq.trans (show (p.2 - 0) = ((0 - 1) * ((0 - p.2) - 0)) from ring_id (fun vi_ => vget vi_ [p.2]) (.sub (.var 0) .zero) (.mul (.sub .zero .one) (.sub (.sub .zero (.var 0)) .zero)) (by kernel_rfl)) (lz this))))
  unfold xl
  rw [form_b0, decide_eq_false hp, flip_at (byt_top32 p.1.b), ← large2_neg hy0]
  unfold formN2
  rw [decide_eq_false hp', hn]; rfl
theorem form_bad {p : Pt} (hp : p ≠ (0, 0)) (hx : p.1 ≠ 0) {j : Nat} (hj : 1 < j) (hj8 : j < 8) : rd1 (xl (32 * j) (formN2 p)) = ((0, 0), 11) := by
  have hH := head_at (byt_top32 p.1.b) true (decide (p = (0, 0))) (large2 p.2)
  rw [decide_eq_false hp] at hH
  have hb : b0 (formN2 p) = mN (byt p.1.b.val 47) true false (large2 p.2) := by rw [form_b0, decide_eq_false hp]
  obtain ⟨h1, h2, h3, h4⟩ := hH
  rw [← hb] at h1 h2 h3 h4
  have hlen := formN2_len p
  refine rd1_bad (mark_x (by decide) (.inl hlen) (formN2_small p) (by rw [h1, hlen]; rfl) h2 (fun h => hx (f2N_zero fun c hc => ?_)) (by omega) hj8 (fun _ => by omega) (fun h => absurd hlen h))
  rw [f2N_cons, ← h4] at hc
  rcases List.mem_cons.1 hc with h5 | h5
  · rw [h5]; exact h.1
  · exact h.2 c h5
theorem full_bad {p : Pt} (hp : p ≠ (0, 0)) (hx : p.1 ≠ 0) {j : Nat} (hj : 0 < j) (hj8 : j < 8) : rd1 (xl (32 * j) (fullN2 p)) = ((0, 0), 11) := by
  have hH := head_at (byt_top32 p.1.b) false (decide (p = (0, 0))) false
  rw [decide_eq_false hp] at hH
  have hb : b0 (fullN2 p) = mN (byt p.1.b.val 47) false false false := by rw [full_b0, decide_eq_false hp]
  obtain ⟨h1, h2, h3, h4⟩ := hH
  rw [← hb] at h1 h2 h3 h4
  have hlen := fullN2_len p
  refine rd1_bad (mark_x (by decide) (.inr hlen) (fullN2_small p) (by rw [h1, hlen]; rfl) h2 (fun h => hx (f2N_zero fun c hc => ?_)) hj hj8 (fun h => by omega) (fun _ => h3))
  rw [f2N_cons, ← h4] at hc
  rcases List.mem_cons.1 hc with h5 | h5
  · rw [h5]; exact h.1
  · refine h.2 c ?_
    have e : (fullN2 p).tail = (f2N p.1).tail ++ f2N p.2 := rfl
    rw [e]; exact List.mem_append_left _ h5
/-- What the laws ask of a multiple of the generator. -/
structure Bk (n : Fs) (p : Pt) : Prop where
  b1 : rd1 (formN2 p) = (p, 0)
  b2 : rd1 (fullN2 p) = (p, 0)
  b3 : n = 0 → formN2 (pneg p) = formN2 p
  b4 : n ≠ 0 → xl 32 (formN2 (pneg p)) = formN2 p
  m1 : n ≠ 0 → ∀ j, 1 < j → j < 8 → rd1 (xl (32 * j) (formN2 p)) = ((0, 0), 11)
  m2 : n ≠ 0 → ∀ j, 0 < j → j < 8 → rd1 (xl (32 * j) (fullN2 p)) = ((0, 0), 11)
  m3 : n ≠ 0 → rd1 (xl 32 (formN2 p)) = (pneg p, 0)
theorem neg_mul (k : Nat) : -nmul k gG = nmul (k * (rr - 1)) gG := by
  rw [nmul_mul]
  exact neg_of rr_pos (order_mul k)
theorem bk {n : Fs} {p : Pt} (hp : p = pmul gen n) : Bk n p := by
  have hP : p = (nmul n.val gG).1 := hp.trans (pmul_ok gG n)
  have hin : inB p = true := by rw [hP]; exact in_mul _
  have hon : onB p = true := by rw [hP]; exact onB_ok (nmul n.val gG).2
  have hN : pneg p = (nmul (n.val * (rr - 1)) gG).1 := by rw [hP, pneg_ok, neg_mul]
  have hin' : inB (pneg p) = true := by rw [hN]; exact in_mul _
  have hon' : onB (pneg p) = true := by rw [hN]; exact onB_ok (nmul (n.val * (rr - 1)) gG).2
  have h0 : n ≠ 0 → p ≠ (0, 0) := fun h e => h ((mul_zero_iff n).1 (Gp.ext (hP.symm.trans e)))
  have h0' : n ≠ 0 → pneg p ≠ (0, 0) := fun h e => by
    refine y_ne (on_eq (h0 h) hon) ?_
    have : 0 - p.2 = 0 := congrArg Prod.snd ((if_neg (h0 h) : pneg p = (p.1, 0 - p.2)).symm.trans e)
    exact (eq_of_sub (Eq.trans (show (p.2 - 0) = ((0 - 1) * ((0 - p.2) - 0)) from ring_id (fun vi_ => vget vi_ [p.2]) (.sub (.var 0) .zero) (.mul (.sub .zero .one) (.sub (.sub .zero (.var 0)) .zero)) (by kernel_rfl)) (lz this)))
  have hnn : pneg (pneg p) = p := by rw [hP, pneg_ok, pneg_ok, a_neg_neg]
  have hx : n ≠ 0 → p.1 ≠ 0 := fun h => by rw [hP]; exact x_ne (hP ▸ h0 h) (order_mul n.val)
  refine ⟨form_back hin hon, full_back hin hon, fun h => ?_, fun h => ?_, fun h j h1 h2 => form_bad (h0 h) (hx h) h1 h2, fun h j h1 h2 => full_bad (h0 h) (hx h) h1 h2, fun h => ?_⟩
  · have : p = (0, 0) := by rw [hP, h, Zp.zero_val]; rfl
    rw [this]; decide +kernel
  · rw [form_neg (h0' h) hon', hnn]
  · rw [form_neg (h0 h) hon]; exact form_back hin' hon'
end Go.Cw

/- Whether a scalar is nought: the walk. Conditions: none. -/
namespace Go.Cu
open Go Go.Vm Go.RowKit Go.Proofs 
attribute [local irreducible] W OpsW Det Fresh New Writes Vm.Pure Makes Changes ExternTo BuildTo ZeroTo FieldTo IndexTo BinTo SliceTo Vm.Enters
set_option linter.unusedVariables false
set_option linter.unusedSimpArgs false
variable {T : Nat → TypeId × Nat × Nat}

theorem montr_inj {x y : Fs} (h : montr x = montr y) : x = y := by
  have h1 : ∀ z : Fs, montr z * inv_rr % rr = z.val := fun z => by
    unfold montr
    rw [Nat.mod_mul_mod, Nat.mul_assoc, Nat.mul_mod, show R4 * inv_rr % rr = 1 from by decide +kernel, Nat.mul_one, Nat.mod_mod, Nat.mod_eq_of_lt z.lt]
  exact Zp.ext (by rw [← h1 x, h, h1 y])
theorem montr_R4 (x : Fs) : montr x < R4 := Nat.lt_trans (montr_lt x) (by decide)
theorem lim4_inj {m k : Nat} (hm : m < R4) (hk : k < R4) (h0 : lim m 0 = lim k 0) (h1 : lim m 1 = lim k 1) (h2 : lim m 2 = lim k 2) (h3 : lim m 3 = lim k 3) : m = k := by
  rw [← val_lim4 hm, ← val_lim4 hk, h0, h1, h2, h3]
theorem eqTo65 (d m k : Nat) : EqTo Tryd.prog (d + 2) 65 (enc4 m) (enc4 k) ((List.range 4).all fun i => lim m i == lim k i) := fun w => by
  unfold enc4
  obtain ⟨i, hi⟩ : ∃ i, Tryd.prog.info? 26 = some i := by
    have := sz26
    unfold sizeIn at this
    cases h : Tryd.prog.info? 26 with
    | none => simp [h] at this
    | some i => exact ⟨i, rfl⟩
  rw [run_equalIn_array w (d + 1) _ _ (show Tryd.prog.underlying 65 = some (.array 4 26) by kernel_rfl) hi, show Tryd.prog.cellsOf 26 = 1 by kernel_rfl]
  refine eq_items (show Tryd.prog.plainKey 26 = true by kernel_rfl) (show Tryd.prog.underlying 26 = some (.int .u64) by kernel_rfl) w _ fun i hi => ?_
  have : i < 4 := by simpa using hi
  have : i = 0 ∨ i = 1 ∨ i = 2 ∨ i = 3 := by omega
  rcases this with rfl | rfl | rfl | rfl <;> exact ⟨rfl, rfl⟩
theorem eqTo67 (d : Nat) (x y : Fs) : EqTo Tryd.prog (d + 3) 67 (encR x) (encR y) (decide (x = y)) := by
  have h := eqTo65 d (montr x) (montr y)
  have hb : ((List.range 4).all fun i => lim (montr x) i == lim (montr y) i) = decide (x = y) := by
    rw [Bool.eq_iff_iff, decide_eq_true_eq, List.all_eq_true]
    constructor
    · intro h
      have h' : ∀ i, i < 4 → lim (montr x) i = lim (montr y) i := fun i hi => by simpa using h i (by simpa using hi)
      exact montr_inj (lim4_inj (montr_R4 x) (montr_R4 y) (h' 0 (by decide)) (h' 1 (by decide)) (h' 2 (by decide)) (h' 3 (by decide)))
    · intro h; subst h; simp
  rw [hb] at h
  exact eq_one (by kernel_rfl) (by kernel_rfl) (nm := "v") (ft := 65) (off := 0) (by kernel_rfl) (by decide) (fun w => by kernel_rfl) (fun w => by kernel_rfl) h
theorem eqR {x y : Operand} {a b : Fs} : BinTo Tryd.prog .eql 67 x y (encR a) (encR b) (.bool (decide (a = b))) := bin_of_eq (by kernel_rfl) (eqTo67 9997 a b)
theorem z67z : ZeroTo Tryd.prog 67 (encR 0) := ZeroTo.of fun _ => by kernel_rfl


theorem RZero_ok {x : Fs} {w : World} (hG : Blocks (GH T) w)  : Vm.Pure Tryd.prog 47 #[encR x] w (.bool (decide (x = 0))) := by
  refine pure_of_W (n := 6) (args := [encR x]) Tryd.func47 rfl Tryd.ntmps47 (Nat.le_of_ble_eq_true rfl) hG ?_
  refine sStart ?_
  refine sSeq ?_
  refine W.region ?_
  refine OpsW.fresh (fr_box rfl rfl) rfl fun b1 => ?_
  refine OpsW.det (det_assign rfl) rfl ?_
  refine sNext ?_
  refine W.keep (F' := [(1, _)]) ⟨rfl, trivial⟩ ?_
  refine sSeq ?_
  refine W.region ?_
  refine OpsW.det (det_loadA ty67 rfl (List.Mem.head _) rfl) rfl ?_
  refine OpsW.det (det_zero z67z) rfl ?_
  refine OpsW.det (det_binTo rfl rfl eqR) rfl ?_
  refine OpsW.det (det_assign rfl) rfl ?_
  refine sNext ?_
  refine W.keep (F' := [(2, _)]) ⟨rfl, trivial⟩ ?_
  refine sRet ?_
  exact done1 Tryd.results47 (rv_tmp rfl) rfl

end Go.Cu
