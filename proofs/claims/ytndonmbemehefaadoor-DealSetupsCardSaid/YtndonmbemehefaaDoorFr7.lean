/-
  Copies of bytes: the walk. Conditions: as many bytes as memory has.
-/
import Derived.Test.YtndonmbemehefaaDoorFr6
namespace Go.Cu
open Go Go.Vm Go.RowKit Go.Proofs 
attribute [local irreducible] W OpsW Det Fresh New Writes Vm.Pure Makes Changes ExternTo BuildTo ZeroTo FieldTo IndexTo BinTo SliceTo Vm.Enters
set_option linter.unusedVariables false
set_option linter.unusedSimpArgs false
variable {T : Nat → TypeId × Nat × Nat}

theorem cst_at {l : List Nat} {i k : Nat} (h : i < l.length) (hk : k = i) : splice k [u8 l[i]] (cst l i) = some (cst l (i + 1)) := by subst hk; exact cst_put h
theorem blk_congr {a b : List Value} {n t : Nat} {r : Hp} (h : a = b) : List.Sublist ((n, blk a t) :: r) ((n, blk b t) :: r) := by subst h; exact List.Sublist.refl _

theorem ty5 : TyC Tryd.prog 5 := ⟨by kernel_rfl, by kernel_rfl⟩
theorem u5 : Tryd.prog.underlying 5 = some (.int .u8) := by kernel_rfl
theorem Copy_ok {G' : Hp} {v : Value} {l : List Nat} (hB : Bs G' v l) (hl : l.length ≤ 281474976710656) {w : World} (hG : Blocks (G' ++ GH T) w)  : Makes Tryd.prog 11 #[v] w (fun p => .slice (some ⟨p.1, 0, none⟩) l.length l.length) (fun p => [(p.1, blk (bcells l ++ []) 5)]) (fun _ => True) := by
  obtain ⟨ad, cap, hvv⟩ := hB.shape
  refine makes_of_W (n := 22) (args := [v]) Tryd.func11 rfl Tryd.ntmps11 (Nat.le_of_ble_eq_true rfl) hG ?_
  refine sStart ?_
  refine sSeq ?_
  subst hvv
  refine W.region ?_
  refine OpsW.det (det_assign rfl) rfl ?_
  refine sNext ?_
  refine W.keep (F' := [(0, _)]) ⟨rfl, trivial⟩ ?_
  refine sSeq ?_
  refine W.region ?_
  refine OpsW.det (det_move rfl) rfl ?_
  refine OpsW.det (det_len u22 rfl) rfl ?_
  refine OpsW.fresh (fr_makeSlice ty22 rfl rfl (Nat.le_refl _) (by omega) (by omega)) rfl fun b7 => ?_
  refine OpsW.det (det_assign rfl) rfl ?_
  refine sNext ?_
  refine W.keep (F' := [(3, _), (0, _)]) ⟨rfl, rfl, trivial⟩ ?_
  refine sSeq ?_
  refine sSeq ?_
  refine W.region ?_
  refine OpsW.det (det_move rfl) rfl ?_
  refine OpsW.det (det_len u22 rfl) rfl ?_
  refine OpsW.det (det_move rfl) rfl ?_
  refine sNext ?_
  refine W.keep (F' := [(10, _), (9, _), (3, _), (0, _)]) ⟨rfl, rfl, rfl, rfl, trivial⟩ ?_
  refine sBlock ?_
  refine sLoop (σ := Nat) (fun i => [(10, .int .i64 (i : Nat)), (9, .int .i64 (l.length : Nat)), (3, .slice (some ⟨b7, 0, none⟩) l.length l.length), (0, .slice ad l.length cap)]) (fun i => [(b7, blk (cst l i) 5)]) (fun i => i ≤ l.length) (fun i => l.length - i) 0 (Nat.zero_le _) ⟨rfl, rfl, rfl, rfl, trivial⟩ (blk_congr (cst_0 l).symm) ?_
  intro i hi
  refine sSeq ?_
  refine W.region ?_
  refine OpsW.det (det_lss rfl rfl) rfl ?_
  refine sNext ?_
  refine sSeq ?_
  refine W.cond rfl (fun hc11 => ?_) (fun hc11 => ?_)
  · skip
    have hlt : i < l.length := by have h := hc11; simp only [decide_eq_true_eq] at h; omega
    obtain ⟨bk, o, cap', cs, e, fr, hv, hm, hcell⟩ := hB.at_ i hlt
    simp only [Value.slice.injEq] at hv
    obtain ⟨rfl, _, rfl⟩ := hv
    refine sSkip ?_
    refine sSeq ?_
    refine sBlock ?_
    refine sSeq ?_
    refine W.region ?_
    refine OpsW.det (det_move rfl) rfl ?_
    refine OpsW.det (det_assign rfl) rfl ?_
    refine sNext ?_
    refine W.keep (F' := [(4, _), (10, _), (9, _), (3, _), (0, _)]) ⟨rfl, rfl, rfl, rfl, rfl, trivial⟩ ?_
    refine W.region ?_
    refine OpsW.det (det_move rfl) rfl ?_
    refine OpsW.det (det_move rfl) rfl ?_
    refine OpsW.det (det_move rfl) rfl ?_
    refine OpsW.det (det_move rfl) rfl ?_
    refine OpsW.det (det_indexAddr_sl u22 sz5 rfl rfl ⟨by omega, by omega⟩) rfl ?_
    refine OpsW.det (det_loadC_ro ty5 rfl (List.mem_append_left _ hm) (show cs[o + ((i : Nat) : Int).toNat * 1]? = some (u8 l[i]) by simpa using hcell)) rfl ?_
    refine OpsW.det (det_indexAddr_sl u22 sz5 rfl rfl ⟨by omega, by omega⟩) rfl ?_
    refine OpsW.store sz5 rfl rfl rfl rfl rfl (Upd.here) (cst_at hlt (by omega)) ?_
    refine sLast ?_
    refine bNext ?_
    refine W.keep (F' := [(10, _), (9, _), (3, _), (0, _)]) ⟨rfl, rfl, rfl, rfl, trivial⟩ ?_
    refine W.region ?_
    refine OpsW.det (det_addN (b := 1) rfl rfl (by omega)) rfl ?_
    refine OpsW.det (det_move rfl) rfl ?_
    refine sLast ?_
    exact rEnd (i + 1) hlt ⟨rfl, rfl, rfl, rfl, trivial⟩ (List.Sublist.refl _) (step_lt hlt)
  · skip
    have hi4 : i = l.length := by have h := hc11; simp only [decide_eq_false_iff_not] at h; omega
    subst hi4
    refine sExit ?_
    refine xLoop ?_
    refine xHere ?_
    refine W.keep (F' := [(3, _)]) ⟨rfl, trivial⟩ ?_
    refine sSeq ?_
    refine W.region ?_
    refine OpsW.det (det_move rfl) rfl ?_
    refine OpsW.det (det_assign rfl) rfl ?_
    refine sNext ?_
    refine W.keep (F' := [(2, _)]) ⟨rfl, trivial⟩ ?_
    refine sRet ?_
    exact done1 Tryd.results11 (rv_tmp rfl) ⟨(b7, 0, []), trivial, rfl, blk_congr (cst_all l).symm⟩

end Go.Cu
