/-
  Setups: which are right, and how many dealers there must be: the walks. Conditions: as many as memory has.
-/
import Derived.Test.YtndonmbemehefaaDoorSt1
namespace Go.Cu
open Go Go.Vm Go.RowKit Go.Proofs 
attribute [local irreducible] W OpsW Det Fresh New Writes Vm.Pure Makes Changes ExternTo BuildTo ZeroTo FieldTo IndexTo BinTo SliceTo Vm.Enters
set_option linter.unusedVariables false
set_option linter.unusedSimpArgs false
variable {T : Nat → TypeId × Nat × Nat}

def chkP (l1 l2 : List Int) (need : Int) (k : Nat) : Prop := setB l1 = true ∧ setB l2 = true ∧ 1 ≤ need ∧ need ≤ (l2.length : Int) ∧ (k = 0 → l1 = l2) ∧ k ≤ l1.length
instance (l1 l2 : List Int) (need : Int) (k : Nat) : Decidable (chkP l1 l2 need k) := by unfold chkP; exact inferInstance
/-- What Check answers. -/
def chkE (l1 l2 : List Int) (need : Int) (k : Nat) : Int := if chkP l1 l2 need k then 0 else 1
theorem chk_no {l1 l2 : List Int} {need : Int} {k : Nat} (h : ¬ chkP l1 l2 need k) : (1 : Int) = chkE l1 l2 need k := (if_neg h).symm
theorem chk_yes {l1 l2 : List Int} {need : Int} {k : Nat} (h : chkP l1 l2 need k) : (0 : Int) = chkE l1 l2 need k := (if_pos h).symm
/-- What Least answers. -/
def leastI (n k : Nat) : Int := if 0 < k then (k : Int) else IntKind.i64.wrap ((n : Int) - IntKind.i64.wrap ((IntKind.i64.wrap ((n : Int) - 1)).tdiv 3))
theorem tc76 : TyC Tryd.prog 76 := ⟨by kernel_rfl, by kernel_rfl⟩
theorem tc78 : TyC Tryd.prog 78 := ⟨by kernel_rfl, by kernel_rfl⟩

theorem en77 : Vm.Enters Tryd.prog 77 := Vm.Enters.of fun _ _ => by kernel_rfl
theorem en78 : Vm.Enters Tryd.prog 78 := Vm.Enters.of fun _ _ => by kernel_rfl
theorem fl80_0 : TyF Tryd.prog 80 0 0 1 := ⟨⟨76, by kernel_rfl, by kernel_rfl⟩, by decide⟩
theorem fl80_1 : TyF Tryd.prog 80 1 1 1 := ⟨⟨76, by kernel_rfl, by kernel_rfl⟩, by decide⟩
theorem fl80_2 : TyF Tryd.prog 80 2 2 1 := ⟨⟨3, by kernel_rfl, by kernel_rfl⟩, by decide⟩
theorem fl80_3 : TyF Tryd.prog 80 3 3 1 := ⟨⟨78, by kernel_rfl, by kernel_rfl⟩, by decide⟩
theorem u78 : Tryd.prog.underlying 78 = some (.slice 31) := by kernel_rfl
set_option maxHeartbeats 2000000 in
theorem check_ok {G' : Hp} {a1 a2 a3 : Option Addr} {c1 c2 c3 k : Nat} {l1 l2 : List Int} {need : Int} (h1 : Ints G' (.slice a1 l1.length c1) l1) (h2 : Ints G' (.slice a2 l2.length c2) l2) (hl1 : l1.length ≤ 9223372036854775806) (hl2 : l2.length ≤ 9223372036854775806) {w : World} (hG : Blocks (G' ++ GH T) w)  : Vm.Pure Tryd.prog 51 #[.agg #[.slice a1 l1.length c1, .slice a2 l2.length c2, .int .i64 need, .slice a3 k c3]] w (.int .i64 (chkE l1 l2 need k)) := by
  refine pure_of_W (n := 51) (args := [.agg #[.slice a1 l1.length c1, .slice a2 l2.length c2, .int .i64 need, .slice a3 k c3]]) Tryd.func51 rfl Tryd.ntmps51 (Nat.le_of_ble_eq_true rfl) hG ?_
  refine sStart ?_
  refine sSeq ?_
  refine W.region ?_
  refine OpsW.fresh (fr_box rfl rfl) rfl fun b1 => ?_
  refine OpsW.det (det_assign rfl) rfl ?_
  refine sNext ?_
  refine W.keep (F' := [(1, _)]) ⟨rfl, trivial⟩ ?_
  refine sSeq ?_
  rcases Nat.eq_zero_or_pos k with hk0 | hk0
  · skip
    refine W.region ?_
    refine OpsW.det (det_fieldAddr fl80_3 rfl) rfl ?_
    refine OpsW.det (det_loadC tc78 rfl (List.Mem.head _) rfl) rfl ?_
    refine OpsW.det (det_len u78 rfl) rfl ?_
    refine OpsW.det (Det.to (det_eql rfl rfl) (congrArg Value.bool ((by rw [hk0])))) rfl ?_
    refine OpsW.det (det_assign rfl) rfl ?_
    refine sNext ?_
    refine W.keep (F' := [(3, _), (1, _)]) ⟨rfl, rfl, trivial⟩ ?_
    refine sSeq ?_
    refine sSeq ?_
    refine W.region ?_
    refine OpsW.det (det_fieldAddr fl80_0 rfl) rfl ?_
    refine OpsW.det (det_loadC tc76 rfl (List.Mem.head _) rfl) rfl ?_
    refine OpsW.test (det_call en77 rfl (fun w hb ho => dset_ok (G' := G') (l := l1) h1 (by omega) ho.blocks)) rfl (fun hc10 => ?_) (fun hc10 => ?_)
    · skip
      refine OpsW.det (det_not rfl) rfl ?_
      refine OpsW.det (det_move rfl) rfl ?_
      refine OpsW.guard_yes rfl rfl ?_
      refine OpsW.det (det_fieldAddr fl80_1 rfl) rfl ?_
      refine OpsW.guard_yes rfl rfl ?_
      refine OpsW.det (det_loadC tc76 rfl (List.Mem.head _) rfl) rfl ?_
      refine OpsW.guard_yes rfl rfl ?_
      refine OpsW.test (det_call en77 rfl (fun w hb ho => dset_ok (G' := G') (l := l2) h2 (by omega) ho.blocks)) rfl (fun hc15 => ?_) (fun hc15 => ?_)
      · skip
        refine OpsW.guard_yes rfl rfl ?_
        refine OpsW.det (det_not rfl) rfl ?_
        refine OpsW.det (det_pick rfl rfl) rfl ?_
        refine OpsW.det (det_move rfl) rfl ?_
        refine OpsW.guard_yes rfl rfl ?_
        refine OpsW.det (det_fieldAddr fl80_2 rfl) rfl ?_
        refine OpsW.guard_yes rfl rfl ?_
        refine OpsW.det (det_loadC tc3 rfl (List.Mem.head _) rfl) rfl ?_
        refine OpsW.guard_yes rfl rfl ?_
        refine OpsW.test (det_lss rfl rfl) rfl (fun hc21 => ?_) (fun hc21 => ?_)
        · skip
          refine OpsW.det (det_pick rfl rfl) rfl ?_
          refine OpsW.det (det_move rfl) rfl ?_
          refine OpsW.guard_no rfl rfl rfl ?_
          refine OpsW.guard_no rfl rfl rfl ?_
          refine OpsW.guard_no rfl rfl rfl ?_
          refine OpsW.guard_no rfl rfl rfl ?_
          refine OpsW.guard_no rfl rfl rfl ?_
          refine OpsW.guard_no rfl rfl rfl ?_
          refine OpsW.det (det_pick rfl rfl) rfl ?_
          refine OpsW.det (det_move rfl) rfl ?_
          refine OpsW.guard_no rfl rfl rfl ?_
          refine OpsW.guard_no rfl rfl rfl ?_
          refine OpsW.guard_un rfl rfl rfl ?_
          refine OpsW.guard_un rfl rfl rfl ?_
          refine OpsW.guard_un rfl rfl rfl ?_
          refine OpsW.guard_un rfl rfl rfl ?_
          refine OpsW.guard_un rfl rfl rfl ?_
          refine OpsW.guard_un rfl rfl rfl ?_
          refine OpsW.guard_no rfl rfl rfl ?_
          refine OpsW.det (det_pick rfl rfl) rfl ?_
          refine OpsW.det (det_move rfl) rfl ?_
          refine OpsW.guard_no rfl rfl rfl ?_
          refine OpsW.guard_no rfl rfl rfl ?_
          refine OpsW.guard_no rfl rfl rfl ?_
          refine OpsW.guard_no rfl rfl rfl ?_
          refine OpsW.guard_no rfl rfl rfl ?_
          refine OpsW.guard_no rfl rfl rfl ?_
          refine OpsW.guard_no rfl rfl rfl ?_
          refine OpsW.det (det_pick rfl rfl) rfl ?_
          refine sNext ?_
          refine W.keep (F' := [(50, _)]) ⟨rfl, trivial⟩ ?_
          refine W.cond_true rfl ?_
          refine sSeq ?_
          refine W.region ?_
          refine OpsW.det (det_assign rfl) rfl ?_
          refine sNext ?_
          refine W.keep (F' := [(2, _)]) ⟨rfl, trivial⟩ ?_
          refine sRet ?_
          exact done1 Tryd.results51 (rv_tmp rfl) (congrArg (Value.int .i64) (chk_no (fun h => by have h2 := h.2.2.1; have h3 := of_decide_eq_true hc21; omega)))
        · skip
          refine OpsW.det (det_pick rfl rfl) rfl ?_
          refine OpsW.det (det_move rfl) rfl ?_
          refine OpsW.guard_yes rfl rfl ?_
          refine OpsW.det (det_fieldAddr fl80_2 rfl) rfl ?_
          refine OpsW.guard_yes rfl rfl ?_
          refine OpsW.det (det_loadC tc3 rfl (List.Mem.head _) rfl) rfl ?_
          refine OpsW.guard_yes rfl rfl ?_
          refine OpsW.det (det_fieldAddr fl80_1 rfl) rfl ?_
          refine OpsW.guard_yes rfl rfl ?_
          refine OpsW.det (det_loadC tc76 rfl (List.Mem.head _) rfl) rfl ?_
          refine OpsW.guard_yes rfl rfl ?_
          refine OpsW.det (det_len u76 rfl) rfl ?_
          refine OpsW.guard_yes rfl rfl ?_
          refine OpsW.test (det_gtr rfl rfl) rfl (fun hc29 => ?_) (fun hc29 => ?_)
          · skip
            refine OpsW.det (det_pick rfl rfl) rfl ?_
            refine OpsW.det (det_move rfl) rfl ?_
            refine OpsW.guard_no rfl rfl rfl ?_
            refine OpsW.guard_no rfl rfl rfl ?_
            refine OpsW.guard_un rfl rfl rfl ?_
            refine OpsW.guard_un rfl rfl rfl ?_
            refine OpsW.guard_un rfl rfl rfl ?_
            refine OpsW.guard_un rfl rfl rfl ?_
            refine OpsW.guard_un rfl rfl rfl ?_
            refine OpsW.guard_un rfl rfl rfl ?_
            refine OpsW.guard_no rfl rfl rfl ?_
            refine OpsW.det (det_pick rfl rfl) rfl ?_
            refine OpsW.det (det_move rfl) rfl ?_
            refine OpsW.guard_no rfl rfl rfl ?_
            refine OpsW.guard_no rfl rfl rfl ?_
            refine OpsW.guard_no rfl rfl rfl ?_
            refine OpsW.guard_no rfl rfl rfl ?_
            refine OpsW.guard_no rfl rfl rfl ?_
            refine OpsW.guard_no rfl rfl rfl ?_
            refine OpsW.guard_no rfl rfl rfl ?_
            refine OpsW.det (det_pick rfl rfl) rfl ?_
            refine sNext ?_
            refine W.keep (F' := [(50, _)]) ⟨rfl, trivial⟩ ?_
            refine W.cond_true rfl ?_
            refine sSeq ?_
            refine W.region ?_
            refine OpsW.det (det_assign rfl) rfl ?_
            refine sNext ?_
            refine W.keep (F' := [(2, _)]) ⟨rfl, trivial⟩ ?_
            refine sRet ?_
            exact done1 Tryd.results51 (rv_tmp rfl) (congrArg (Value.int .i64) (chk_no (fun h => by have h2 := h.2.2.2.1; have h3 := of_decide_eq_true hc29; omega)))
          · skip
            refine OpsW.det (det_pick rfl rfl) rfl ?_
            refine OpsW.det (det_move rfl) rfl ?_
            refine OpsW.guard_yes rfl rfl ?_
            refine OpsW.det (det_move rfl) rfl ?_
            refine OpsW.guard_yes rfl rfl ?_
            refine OpsW.det (det_move rfl) rfl ?_
            refine OpsW.guard_yes rfl rfl ?_
            refine OpsW.det (det_fieldAddr fl80_0 rfl) rfl ?_
            refine OpsW.guard_yes rfl rfl ?_
            refine OpsW.det (det_loadC tc76 rfl (List.Mem.head _) rfl) rfl ?_
            refine OpsW.guard_yes rfl rfl ?_
            refine OpsW.det (det_fieldAddr fl80_1 rfl) rfl ?_
            refine OpsW.guard_yes rfl rfl ?_
            refine OpsW.det (det_loadC tc76 rfl (List.Mem.head _) rfl) rfl ?_
            refine OpsW.guard_yes rfl rfl ?_
            refine OpsW.test (det_call en78 rfl (fun w hb ho => equal_ok (G' := G') (l := l1) (l2 := l2) h1 h2 (by omega) ho.blocks)) rfl (fun hc38 => ?_) (fun hc38 => ?_)
            · skip
              refine OpsW.guard_yes rfl rfl ?_
              refine OpsW.det (det_not rfl) rfl ?_
              refine OpsW.guard_yes rfl rfl ?_
              refine OpsW.det (det_pick rfl rfl) rfl ?_
              refine OpsW.det (det_pick rfl rfl) rfl ?_
              refine OpsW.det (det_move rfl) rfl ?_
              refine OpsW.guard_yes rfl rfl ?_
              refine OpsW.det (det_fieldAddr fl80_3 rfl) rfl ?_
              refine OpsW.guard_yes rfl rfl ?_
              refine OpsW.det (det_loadC tc78 rfl (List.Mem.head _) rfl) rfl ?_
              refine OpsW.guard_yes rfl rfl ?_
              refine OpsW.det (det_len u78 rfl) rfl ?_
              refine OpsW.guard_yes rfl rfl ?_
              refine OpsW.det (det_fieldAddr fl80_0 rfl) rfl ?_
              refine OpsW.guard_yes rfl rfl ?_
              refine OpsW.det (det_loadC tc76 rfl (List.Mem.head _) rfl) rfl ?_
              refine OpsW.guard_yes rfl rfl ?_
              refine OpsW.det (det_len u76 rfl) rfl ?_
              refine OpsW.guard_yes rfl rfl ?_
              refine OpsW.det (det_gtr rfl rfl) rfl ?_
              refine OpsW.det (det_pick rfl rfl) rfl ?_
              refine sNext ?_
              refine W.keep (F' := [(50, _)]) ⟨rfl, trivial⟩ ?_
              refine W.cond rfl (fun hc50 => ?_) (fun hc50 => ?_)
              · skip
                refine sSeq ?_
                refine W.region ?_
                refine OpsW.det (det_assign rfl) rfl ?_
                refine sNext ?_
                refine W.keep (F' := [(2, _)]) ⟨rfl, trivial⟩ ?_
                refine sRet ?_
                exact done1 Tryd.results51 (rv_tmp rfl) (congrArg (Value.int .i64) (chk_no (fun h => by have h2 := h.2.2.2.2.2; have h3 := of_decide_eq_true hc50; omega)))
              · skip
                refine sSkip ?_
                refine sSeq ?_
                refine W.region ?_
                refine OpsW.det (det_assign rfl) rfl ?_
                refine sNext ?_
                refine W.keep (F' := [(2, _)]) ⟨rfl, trivial⟩ ?_
                refine sRet ?_
                exact done1 Tryd.results51 (rv_tmp rfl) (congrArg (Value.int .i64) (chk_yes ⟨hc10, hc15, by have h3 := of_decide_eq_false hc21; omega, by have h3 := of_decide_eq_false hc29; omega, fun _ => of_decide_eq_true hc38, by have h3 := of_decide_eq_false hc50; omega⟩))
            · skip
              refine OpsW.guard_yes rfl rfl ?_
              refine OpsW.det (det_not rfl) rfl ?_
              refine OpsW.guard_yes rfl rfl ?_
              refine OpsW.det (det_pick rfl rfl) rfl ?_
              refine OpsW.det (det_pick rfl rfl) rfl ?_
              refine OpsW.det (det_move rfl) rfl ?_
              refine OpsW.guard_no rfl rfl rfl ?_
              refine OpsW.guard_no rfl rfl rfl ?_
              refine OpsW.guard_no rfl rfl rfl ?_
              refine OpsW.guard_no rfl rfl rfl ?_
              refine OpsW.guard_no rfl rfl rfl ?_
              refine OpsW.guard_no rfl rfl rfl ?_
              refine OpsW.guard_no rfl rfl rfl ?_
              refine OpsW.det (det_pick rfl rfl) rfl ?_
              refine sNext ?_
              refine W.keep (F' := [(50, _)]) ⟨rfl, trivial⟩ ?_
              refine W.cond_true rfl ?_
              refine sSeq ?_
              refine W.region ?_
              refine OpsW.det (det_assign rfl) rfl ?_
              refine sNext ?_
              refine W.keep (F' := [(2, _)]) ⟨rfl, trivial⟩ ?_
              refine sRet ?_
              exact done1 Tryd.results51 (rv_tmp rfl) (congrArg (Value.int .i64) (chk_no (fun h => of_decide_eq_false hc38 (h.2.2.2.2.1 hk0))))
      · skip
        refine OpsW.guard_yes rfl rfl ?_
        refine OpsW.det (det_not rfl) rfl ?_
        refine OpsW.det (det_pick rfl rfl) rfl ?_
        refine OpsW.det (det_move rfl) rfl ?_
        refine OpsW.guard_no rfl rfl rfl ?_
        refine OpsW.guard_no rfl rfl rfl ?_
        refine OpsW.guard_no rfl rfl rfl ?_
        refine OpsW.det (det_pick rfl rfl) rfl ?_
        refine OpsW.det (det_move rfl) rfl ?_
        refine OpsW.guard_no rfl rfl rfl ?_
        refine OpsW.guard_no rfl rfl rfl ?_
        refine OpsW.guard_no rfl rfl rfl ?_
        refine OpsW.guard_no rfl rfl rfl ?_
        refine OpsW.guard_no rfl rfl rfl ?_
        refine OpsW.guard_no rfl rfl rfl ?_
        refine OpsW.det (det_pick rfl rfl) rfl ?_
        refine OpsW.det (det_move rfl) rfl ?_
        refine OpsW.guard_no rfl rfl rfl ?_
        refine OpsW.guard_no rfl rfl rfl ?_
        refine OpsW.guard_un rfl rfl rfl ?_
        refine OpsW.guard_un rfl rfl rfl ?_
        refine OpsW.guard_un rfl rfl rfl ?_
        refine OpsW.guard_un rfl rfl rfl ?_
        refine OpsW.guard_un rfl rfl rfl ?_
        refine OpsW.guard_un rfl rfl rfl ?_
        refine OpsW.guard_no rfl rfl rfl ?_
        refine OpsW.det (det_pick rfl rfl) rfl ?_
        refine OpsW.det (det_move rfl) rfl ?_
        refine OpsW.guard_no rfl rfl rfl ?_
        refine OpsW.guard_no rfl rfl rfl ?_
        refine OpsW.guard_no rfl rfl rfl ?_
        refine OpsW.guard_no rfl rfl rfl ?_
        refine OpsW.guard_no rfl rfl rfl ?_
        refine OpsW.guard_no rfl rfl rfl ?_
        refine OpsW.guard_no rfl rfl rfl ?_
        refine OpsW.det (det_pick rfl rfl) rfl ?_
        refine sNext ?_
        refine W.keep (F' := [(50, _)]) ⟨rfl, trivial⟩ ?_
        refine W.cond_true rfl ?_
        refine sSeq ?_
        refine W.region ?_
        refine OpsW.det (det_assign rfl) rfl ?_
        refine sNext ?_
        refine W.keep (F' := [(2, _)]) ⟨rfl, trivial⟩ ?_
        refine sRet ?_
        exact done1 Tryd.results51 (rv_tmp rfl) (congrArg (Value.int .i64) (chk_no (fun h => absurd h.2.1 (by rw [hc15]; decide))))
    · skip
      refine OpsW.det (det_not rfl) rfl ?_
      refine OpsW.det (det_move rfl) rfl ?_
      refine OpsW.guard_no rfl rfl rfl ?_
      refine OpsW.guard_no rfl rfl rfl ?_
      refine OpsW.guard_no rfl rfl rfl ?_
      refine OpsW.guard_no rfl rfl rfl ?_
      refine OpsW.det (det_pick rfl rfl) rfl ?_
      refine OpsW.det (det_move rfl) rfl ?_
      refine OpsW.guard_no rfl rfl rfl ?_
      refine OpsW.guard_no rfl rfl rfl ?_
      refine OpsW.guard_no rfl rfl rfl ?_
      refine OpsW.det (det_pick rfl rfl) rfl ?_
      refine OpsW.det (det_move rfl) rfl ?_
      refine OpsW.guard_no rfl rfl rfl ?_
      refine OpsW.guard_no rfl rfl rfl ?_
      refine OpsW.guard_no rfl rfl rfl ?_
      refine OpsW.guard_no rfl rfl rfl ?_
      refine OpsW.guard_no rfl rfl rfl ?_
      refine OpsW.guard_no rfl rfl rfl ?_
      refine OpsW.det (det_pick rfl rfl) rfl ?_
      refine OpsW.det (det_move rfl) rfl ?_
      refine OpsW.guard_no rfl rfl rfl ?_
      refine OpsW.guard_no rfl rfl rfl ?_
      refine OpsW.guard_un rfl rfl rfl ?_
      refine OpsW.guard_un rfl rfl rfl ?_
      refine OpsW.guard_un rfl rfl rfl ?_
      refine OpsW.guard_un rfl rfl rfl ?_
      refine OpsW.guard_un rfl rfl rfl ?_
      refine OpsW.guard_un rfl rfl rfl ?_
      refine OpsW.guard_no rfl rfl rfl ?_
      refine OpsW.det (det_pick rfl rfl) rfl ?_
      refine OpsW.det (det_move rfl) rfl ?_
      refine OpsW.guard_no rfl rfl rfl ?_
      refine OpsW.guard_no rfl rfl rfl ?_
      refine OpsW.guard_no rfl rfl rfl ?_
      refine OpsW.guard_no rfl rfl rfl ?_
      refine OpsW.guard_no rfl rfl rfl ?_
      refine OpsW.guard_no rfl rfl rfl ?_
      refine OpsW.guard_no rfl rfl rfl ?_
      refine OpsW.det (det_pick rfl rfl) rfl ?_
      refine sNext ?_
      refine W.keep (F' := [(50, _)]) ⟨rfl, trivial⟩ ?_
      refine W.cond_true rfl ?_
      refine sSeq ?_
      refine W.region ?_
      refine OpsW.det (det_assign rfl) rfl ?_
      refine sNext ?_
      refine W.keep (F' := [(2, _)]) ⟨rfl, trivial⟩ ?_
      refine sRet ?_
      exact done1 Tryd.results51 (rv_tmp rfl) (congrArg (Value.int .i64) (chk_no (fun h => absurd h.1 (by rw [hc10]; decide))))
  · skip
    refine W.region ?_
    refine OpsW.det (det_fieldAddr fl80_3 rfl) rfl ?_
    refine OpsW.det (det_loadC tc78 rfl (List.Mem.head _) rfl) rfl ?_
    refine OpsW.det (det_len u78 rfl) rfl ?_
    refine OpsW.det (Det.to (det_eql rfl rfl) (congrArg Value.bool ((by rw [beq_eq_false_iff_ne]; omega)))) rfl ?_
    refine OpsW.det (det_assign rfl) rfl ?_
    refine sNext ?_
    refine W.keep (F' := [(3, _), (1, _)]) ⟨rfl, rfl, trivial⟩ ?_
    refine sSeq ?_
    refine sSeq ?_
    refine W.region ?_
    refine OpsW.det (det_fieldAddr fl80_0 rfl) rfl ?_
    refine OpsW.det (det_loadC tc76 rfl (List.Mem.head _) rfl) rfl ?_
    refine OpsW.test (det_call en77 rfl (fun w hb ho => dset_ok (G' := G') (l := l1) h1 (by omega) ho.blocks)) rfl (fun hc10 => ?_) (fun hc10 => ?_)
    · skip
      refine OpsW.det (det_not rfl) rfl ?_
      refine OpsW.det (det_move rfl) rfl ?_
      refine OpsW.guard_yes rfl rfl ?_
      refine OpsW.det (det_fieldAddr fl80_1 rfl) rfl ?_
      refine OpsW.guard_yes rfl rfl ?_
      refine OpsW.det (det_loadC tc76 rfl (List.Mem.head _) rfl) rfl ?_
      refine OpsW.guard_yes rfl rfl ?_
      refine OpsW.test (det_call en77 rfl (fun w hb ho => dset_ok (G' := G') (l := l2) h2 (by omega) ho.blocks)) rfl (fun hc15 => ?_) (fun hc15 => ?_)
      · skip
        refine OpsW.guard_yes rfl rfl ?_
        refine OpsW.det (det_not rfl) rfl ?_
        refine OpsW.det (det_pick rfl rfl) rfl ?_
        refine OpsW.det (det_move rfl) rfl ?_
        refine OpsW.guard_yes rfl rfl ?_
        refine OpsW.det (det_fieldAddr fl80_2 rfl) rfl ?_
        refine OpsW.guard_yes rfl rfl ?_
        refine OpsW.det (det_loadC tc3 rfl (List.Mem.head _) rfl) rfl ?_
        refine OpsW.guard_yes rfl rfl ?_
        refine OpsW.test (det_lss rfl rfl) rfl (fun hc21 => ?_) (fun hc21 => ?_)
        · skip
          refine OpsW.det (det_pick rfl rfl) rfl ?_
          refine OpsW.det (det_move rfl) rfl ?_
          refine OpsW.guard_no rfl rfl rfl ?_
          refine OpsW.guard_no rfl rfl rfl ?_
          refine OpsW.guard_no rfl rfl rfl ?_
          refine OpsW.guard_no rfl rfl rfl ?_
          refine OpsW.guard_no rfl rfl rfl ?_
          refine OpsW.guard_no rfl rfl rfl ?_
          refine OpsW.det (det_pick rfl rfl) rfl ?_
          refine OpsW.det (det_move rfl) rfl ?_
          refine OpsW.guard_no rfl rfl rfl ?_
          refine OpsW.guard_no rfl rfl rfl ?_
          refine OpsW.guard_un rfl rfl rfl ?_
          refine OpsW.guard_un rfl rfl rfl ?_
          refine OpsW.guard_un rfl rfl rfl ?_
          refine OpsW.guard_un rfl rfl rfl ?_
          refine OpsW.guard_un rfl rfl rfl ?_
          refine OpsW.guard_un rfl rfl rfl ?_
          refine OpsW.guard_no rfl rfl rfl ?_
          refine OpsW.det (det_pick rfl rfl) rfl ?_
          refine OpsW.det (det_move rfl) rfl ?_
          refine OpsW.guard_no rfl rfl rfl ?_
          refine OpsW.guard_no rfl rfl rfl ?_
          refine OpsW.guard_no rfl rfl rfl ?_
          refine OpsW.guard_no rfl rfl rfl ?_
          refine OpsW.guard_no rfl rfl rfl ?_
          refine OpsW.guard_no rfl rfl rfl ?_
          refine OpsW.guard_no rfl rfl rfl ?_
          refine OpsW.det (det_pick rfl rfl) rfl ?_
          refine sNext ?_
          refine W.keep (F' := [(50, _)]) ⟨rfl, trivial⟩ ?_
          refine W.cond_true rfl ?_
          refine sSeq ?_
          refine W.region ?_
          refine OpsW.det (det_assign rfl) rfl ?_
          refine sNext ?_
          refine W.keep (F' := [(2, _)]) ⟨rfl, trivial⟩ ?_
          refine sRet ?_
          exact done1 Tryd.results51 (rv_tmp rfl) (congrArg (Value.int .i64) (chk_no (fun h => by have h2 := h.2.2.1; have h3 := of_decide_eq_true hc21; omega)))
        · skip
          refine OpsW.det (det_pick rfl rfl) rfl ?_
          refine OpsW.det (det_move rfl) rfl ?_
          refine OpsW.guard_yes rfl rfl ?_
          refine OpsW.det (det_fieldAddr fl80_2 rfl) rfl ?_
          refine OpsW.guard_yes rfl rfl ?_
          refine OpsW.det (det_loadC tc3 rfl (List.Mem.head _) rfl) rfl ?_
          refine OpsW.guard_yes rfl rfl ?_
          refine OpsW.det (det_fieldAddr fl80_1 rfl) rfl ?_
          refine OpsW.guard_yes rfl rfl ?_
          refine OpsW.det (det_loadC tc76 rfl (List.Mem.head _) rfl) rfl ?_
          refine OpsW.guard_yes rfl rfl ?_
          refine OpsW.det (det_len u76 rfl) rfl ?_
          refine OpsW.guard_yes rfl rfl ?_
          refine OpsW.test (det_gtr rfl rfl) rfl (fun hc29 => ?_) (fun hc29 => ?_)
          · skip
            refine OpsW.det (det_pick rfl rfl) rfl ?_
            refine OpsW.det (det_move rfl) rfl ?_
            refine OpsW.guard_no rfl rfl rfl ?_
            refine OpsW.guard_no rfl rfl rfl ?_
            refine OpsW.guard_un rfl rfl rfl ?_
            refine OpsW.guard_un rfl rfl rfl ?_
            refine OpsW.guard_un rfl rfl rfl ?_
            refine OpsW.guard_un rfl rfl rfl ?_
            refine OpsW.guard_un rfl rfl rfl ?_
            refine OpsW.guard_un rfl rfl rfl ?_
            refine OpsW.guard_no rfl rfl rfl ?_
            refine OpsW.det (det_pick rfl rfl) rfl ?_
            refine OpsW.det (det_move rfl) rfl ?_
            refine OpsW.guard_no rfl rfl rfl ?_
            refine OpsW.guard_no rfl rfl rfl ?_
            refine OpsW.guard_no rfl rfl rfl ?_
            refine OpsW.guard_no rfl rfl rfl ?_
            refine OpsW.guard_no rfl rfl rfl ?_
            refine OpsW.guard_no rfl rfl rfl ?_
            refine OpsW.guard_no rfl rfl rfl ?_
            refine OpsW.det (det_pick rfl rfl) rfl ?_
            refine sNext ?_
            refine W.keep (F' := [(50, _)]) ⟨rfl, trivial⟩ ?_
            refine W.cond_true rfl ?_
            refine sSeq ?_
            refine W.region ?_
            refine OpsW.det (det_assign rfl) rfl ?_
            refine sNext ?_
            refine W.keep (F' := [(2, _)]) ⟨rfl, trivial⟩ ?_
            refine sRet ?_
            exact done1 Tryd.results51 (rv_tmp rfl) (congrArg (Value.int .i64) (chk_no (fun h => by have h2 := h.2.2.2.1; have h3 := of_decide_eq_true hc29; omega)))
          · skip
            refine OpsW.det (det_pick rfl rfl) rfl ?_
            refine OpsW.det (det_move rfl) rfl ?_
            refine OpsW.guard_yes rfl rfl ?_
            refine OpsW.det (det_move rfl) rfl ?_
            refine OpsW.guard_yes rfl rfl ?_
            refine OpsW.det (det_move rfl) rfl ?_
            refine OpsW.guard_no rfl rfl rfl ?_
            refine OpsW.guard_no rfl rfl rfl ?_
            refine OpsW.guard_no rfl rfl rfl ?_
            refine OpsW.guard_no rfl rfl rfl ?_
            refine OpsW.guard_no rfl rfl rfl ?_
            refine OpsW.guard_no rfl rfl rfl ?_
            refine OpsW.guard_yes rfl rfl ?_
            refine OpsW.det (det_pick rfl rfl) rfl ?_
            refine OpsW.det (det_pick rfl rfl) rfl ?_
            refine OpsW.det (det_move rfl) rfl ?_
            refine OpsW.guard_yes rfl rfl ?_
            refine OpsW.det (det_fieldAddr fl80_3 rfl) rfl ?_
            refine OpsW.guard_yes rfl rfl ?_
            refine OpsW.det (det_loadC tc78 rfl (List.Mem.head _) rfl) rfl ?_
            refine OpsW.guard_yes rfl rfl ?_
            refine OpsW.det (det_len u78 rfl) rfl ?_
            refine OpsW.guard_yes rfl rfl ?_
            refine OpsW.det (det_fieldAddr fl80_0 rfl) rfl ?_
            refine OpsW.guard_yes rfl rfl ?_
            refine OpsW.det (det_loadC tc76 rfl (List.Mem.head _) rfl) rfl ?_
            refine OpsW.guard_yes rfl rfl ?_
            refine OpsW.det (det_len u76 rfl) rfl ?_
            refine OpsW.guard_yes rfl rfl ?_
            refine OpsW.det (det_gtr rfl rfl) rfl ?_
            refine OpsW.det (det_pick rfl rfl) rfl ?_
            refine sNext ?_
            refine W.keep (F' := [(50, _)]) ⟨rfl, trivial⟩ ?_
            refine W.cond rfl (fun hc50 => ?_) (fun hc50 => ?_)
            · skip
              refine sSeq ?_
              refine W.region ?_
              refine OpsW.det (det_assign rfl) rfl ?_
              refine sNext ?_
              refine W.keep (F' := [(2, _)]) ⟨rfl, trivial⟩ ?_
              refine sRet ?_
              exact done1 Tryd.results51 (rv_tmp rfl) (congrArg (Value.int .i64) (chk_no (fun h => by have h2 := h.2.2.2.2.2; have h3 := of_decide_eq_true hc50; omega)))
            · skip
              refine sSkip ?_
              refine sSeq ?_
              refine W.region ?_
              refine OpsW.det (det_assign rfl) rfl ?_
              refine sNext ?_
              refine W.keep (F' := [(2, _)]) ⟨rfl, trivial⟩ ?_
              refine sRet ?_
              exact done1 Tryd.results51 (rv_tmp rfl) (congrArg (Value.int .i64) (chk_yes ⟨hc10, hc15, by have h3 := of_decide_eq_false hc21; omega, by have h3 := of_decide_eq_false hc29; omega, fun h => absurd h (by omega), by have h3 := of_decide_eq_false hc50; omega⟩))
      · skip
        refine OpsW.guard_yes rfl rfl ?_
        refine OpsW.det (det_not rfl) rfl ?_
        refine OpsW.det (det_pick rfl rfl) rfl ?_
        refine OpsW.det (det_move rfl) rfl ?_
        refine OpsW.guard_no rfl rfl rfl ?_
        refine OpsW.guard_no rfl rfl rfl ?_
        refine OpsW.guard_no rfl rfl rfl ?_
        refine OpsW.det (det_pick rfl rfl) rfl ?_
        refine OpsW.det (det_move rfl) rfl ?_
        refine OpsW.guard_no rfl rfl rfl ?_
        refine OpsW.guard_no rfl rfl rfl ?_
        refine OpsW.guard_no rfl rfl rfl ?_
        refine OpsW.guard_no rfl rfl rfl ?_
        refine OpsW.guard_no rfl rfl rfl ?_
        refine OpsW.guard_no rfl rfl rfl ?_
        refine OpsW.det (det_pick rfl rfl) rfl ?_
        refine OpsW.det (det_move rfl) rfl ?_
        refine OpsW.guard_no rfl rfl rfl ?_
        refine OpsW.guard_no rfl rfl rfl ?_
        refine OpsW.guard_un rfl rfl rfl ?_
        refine OpsW.guard_un rfl rfl rfl ?_
        refine OpsW.guard_un rfl rfl rfl ?_
        refine OpsW.guard_un rfl rfl rfl ?_
        refine OpsW.guard_un rfl rfl rfl ?_
        refine OpsW.guard_un rfl rfl rfl ?_
        refine OpsW.guard_no rfl rfl rfl ?_
        refine OpsW.det (det_pick rfl rfl) rfl ?_
        refine OpsW.det (det_move rfl) rfl ?_
        refine OpsW.guard_no rfl rfl rfl ?_
        refine OpsW.guard_no rfl rfl rfl ?_
        refine OpsW.guard_no rfl rfl rfl ?_
        refine OpsW.guard_no rfl rfl rfl ?_
        refine OpsW.guard_no rfl rfl rfl ?_
        refine OpsW.guard_no rfl rfl rfl ?_
        refine OpsW.guard_no rfl rfl rfl ?_
        refine OpsW.det (det_pick rfl rfl) rfl ?_
        refine sNext ?_
        refine W.keep (F' := [(50, _)]) ⟨rfl, trivial⟩ ?_
        refine W.cond_true rfl ?_
        refine sSeq ?_
        refine W.region ?_
        refine OpsW.det (det_assign rfl) rfl ?_
        refine sNext ?_
        refine W.keep (F' := [(2, _)]) ⟨rfl, trivial⟩ ?_
        refine sRet ?_
        exact done1 Tryd.results51 (rv_tmp rfl) (congrArg (Value.int .i64) (chk_no (fun h => absurd h.2.1 (by rw [hc15]; decide))))
    · skip
      refine OpsW.det (det_not rfl) rfl ?_
      refine OpsW.det (det_move rfl) rfl ?_
      refine OpsW.guard_no rfl rfl rfl ?_
      refine OpsW.guard_no rfl rfl rfl ?_
      refine OpsW.guard_no rfl rfl rfl ?_
      refine OpsW.guard_no rfl rfl rfl ?_
      refine OpsW.det (det_pick rfl rfl) rfl ?_
      refine OpsW.det (det_move rfl) rfl ?_
      refine OpsW.guard_no rfl rfl rfl ?_
      refine OpsW.guard_no rfl rfl rfl ?_
      refine OpsW.guard_no rfl rfl rfl ?_
      refine OpsW.det (det_pick rfl rfl) rfl ?_
      refine OpsW.det (det_move rfl) rfl ?_
      refine OpsW.guard_no rfl rfl rfl ?_
      refine OpsW.guard_no rfl rfl rfl ?_
      refine OpsW.guard_no rfl rfl rfl ?_
      refine OpsW.guard_no rfl rfl rfl ?_
      refine OpsW.guard_no rfl rfl rfl ?_
      refine OpsW.guard_no rfl rfl rfl ?_
      refine OpsW.det (det_pick rfl rfl) rfl ?_
      refine OpsW.det (det_move rfl) rfl ?_
      refine OpsW.guard_no rfl rfl rfl ?_
      refine OpsW.guard_no rfl rfl rfl ?_
      refine OpsW.guard_un rfl rfl rfl ?_
      refine OpsW.guard_un rfl rfl rfl ?_
      refine OpsW.guard_un rfl rfl rfl ?_
      refine OpsW.guard_un rfl rfl rfl ?_
      refine OpsW.guard_un rfl rfl rfl ?_
      refine OpsW.guard_un rfl rfl rfl ?_
      refine OpsW.guard_no rfl rfl rfl ?_
      refine OpsW.det (det_pick rfl rfl) rfl ?_
      refine OpsW.det (det_move rfl) rfl ?_
      refine OpsW.guard_no rfl rfl rfl ?_
      refine OpsW.guard_no rfl rfl rfl ?_
      refine OpsW.guard_no rfl rfl rfl ?_
      refine OpsW.guard_no rfl rfl rfl ?_
      refine OpsW.guard_no rfl rfl rfl ?_
      refine OpsW.guard_no rfl rfl rfl ?_
      refine OpsW.guard_no rfl rfl rfl ?_
      refine OpsW.det (det_pick rfl rfl) rfl ?_
      refine sNext ?_
      refine W.keep (F' := [(50, _)]) ⟨rfl, trivial⟩ ?_
      refine W.cond_true rfl ?_
      refine sSeq ?_
      refine W.region ?_
      refine OpsW.det (det_assign rfl) rfl ?_
      refine sNext ?_
      refine W.keep (F' := [(2, _)]) ⟨rfl, trivial⟩ ?_
      refine sRet ?_
      exact done1 Tryd.results51 (rv_tmp rfl) (congrArg (Value.int .i64) (chk_no (fun h => absurd h.1 (by rw [hc10]; decide))))
theorem least_ok {a1 a2 a3 : Option Addr} {c1 c2 c3 k n n2 : Nat} {need : Int} {w : World} (hG : Blocks (GH T) w)  : Vm.Pure Tryd.prog 52 #[.agg #[.slice a1 n c1, .slice a2 n2 c2, .int .i64 need, .slice a3 k c3]] w (.int .i64 (leastI n k)) := by
  refine pure_of_W (n := 19) (args := [.agg #[.slice a1 n c1, .slice a2 n2 c2, .int .i64 need, .slice a3 k c3]]) Tryd.func52 rfl Tryd.ntmps52 (Nat.le_of_ble_eq_true rfl) hG ?_
  refine sStart ?_
  refine sSeq ?_
  refine W.region ?_
  refine OpsW.fresh (fr_box rfl rfl) rfl fun b1 => ?_
  refine OpsW.det (det_assign rfl) rfl ?_
  refine sNext ?_
  refine W.keep (F' := [(1, _)]) ⟨rfl, trivial⟩ ?_
  refine sSeq ?_
  refine sSeq ?_
  refine W.region ?_
  refine OpsW.det (det_fieldAddr fl80_3 rfl) rfl ?_
  refine OpsW.det (det_loadC tc78 rfl (List.Mem.head _) rfl) rfl ?_
  refine OpsW.det (det_len u78 rfl) rfl ?_
  refine OpsW.det (det_assign rfl) rfl ?_
  refine sNext ?_
  refine W.keep (F' := [(3, _), (1, _)]) ⟨rfl, rfl, trivial⟩ ?_
  refine sSeq ?_
  refine W.region ?_
  refine OpsW.det (det_move rfl) rfl ?_
  refine OpsW.det (det_gtr rfl rfl) rfl ?_
  refine sNext ?_
  refine W.keep (F' := [(8, _), (3, _), (1, _)]) ⟨rfl, rfl, rfl, trivial⟩ ?_
  refine W.cond rfl (fun hc8 => ?_) (fun hc8 => ?_)
  · skip
    refine sSeq ?_
    refine W.region ?_
    refine OpsW.det (det_move rfl) rfl ?_
    refine OpsW.det (det_assign rfl) rfl ?_
    refine sNext ?_
    refine W.keep (F' := [(2, _)]) ⟨rfl, trivial⟩ ?_
    refine sRet ?_
    exact done1 Tryd.results52 (rv_tmp rfl) (congrArg (Value.int .i64) (if_pos (by have h := hc8; simp only [decide_eq_true_eq] at h; omega)).symm)
  · skip
    refine sSkip ?_
    refine sSeq ?_
    refine W.region ?_
    refine OpsW.det (det_fieldAddr fl80_0 rfl) rfl ?_
    refine OpsW.det (det_loadC tc76 rfl (List.Mem.head _) rfl) rfl ?_
    refine OpsW.det (det_len u76 rfl) rfl ?_
    refine OpsW.det (det_fieldAddr fl80_0 rfl) rfl ?_
    refine OpsW.det (det_loadC tc76 rfl (List.Mem.head _) rfl) rfl ?_
    refine OpsW.det (det_len u76 rfl) rfl ?_
    refine OpsW.det (det_sub rfl rfl) rfl ?_
    refine OpsW.det (det_quo rfl rfl (by decide)) rfl ?_
    refine OpsW.det (det_sub rfl rfl) rfl ?_
    refine OpsW.det (det_assign rfl) rfl ?_
    refine sNext ?_
    refine W.keep (F' := [(2, _)]) ⟨rfl, trivial⟩ ?_
    refine sRet ?_
    exact done1 Tryd.results52 (rv_tmp rfl) (congrArg (Value.int .i64) (if_neg (by have h := hc8; simp only [decide_eq_false_iff_not] at h; omega)).symm)

end Go.Cu
