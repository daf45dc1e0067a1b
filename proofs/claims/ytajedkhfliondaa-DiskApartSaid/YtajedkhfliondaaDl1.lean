/-
  What the document fixes of disks: the walk. Conditions: none.
-/
import Derived.Test.YtajedkhfliondaaDr
namespace Go.Dk
open Go Go.Vm Go.RowKit Go.Proofs Go.Cu
attribute [local irreducible] W OpsW Det Fresh New Writes Vm.Pure Makes Changes ExternTo BuildTo ZeroTo FieldTo IndexTo BinTo SliceTo Vm.Enters
set_option linter.unusedVariables false
set_option linter.unusedSimpArgs false

def HA1 : AD := ⟨[⟨[97], [1, 2, 3], 0⟩], 4, 1, 0, false⟩
def HA2 : AD := ⟨[⟨[97], [1, 2, 3], 3⟩], 4, 2, 0, false⟩
def HA3 : AD := ⟨[⟨[97], [1, 2, 3, 4, 5], 3⟩], 4, 3, 0, false⟩
def HA4 : AD := ⟨[⟨[97], [1, 2, 3, 4], 4⟩], 4, 3, 0, false⟩
theorem he1 : append (fresh 4) [97] [1, 2, 3] = (HA1, 0) := by decide +kernel
theorem he2 : sync HA1 [97] = (HA2, 0) := by decide +kernel
theorem he3 : append HA2 [97] [4, 5] = (HA3, 0) := by decide +kernel
theorem he4 : sync HA3 [97] = (HA3, 42) := by decide +kernel
theorem he5 : crash HA3 [9] = HA4 := by
  unfold crash HA3
  rw [names_one]
  decide +kernel
theorem he6 : readA HA4 [97] = ([1, 2, 3, 4], 0) := by decide +kernel
theorem ho1 : HA1.ok := by have h := append_ok (s := [97]) (b := [1, 2, 3]) (fresh_ok 4) (by decide); rw [he1] at h; exact h.1
theorem ho2 : HA2.ok := by have h := sync_ok (s := [97]) ho1; rw [he2] at h; exact h.1
theorem ho3 : HA3.ok := by have h := append_ok (s := [97]) (b := [4, 5]) ho2 (by decide); rw [he3] at h; exact h.1
theorem ho4 : HA4.ok := by have h := crash_ok (keep := [9]) ho3; rw [he5] at h; exact h.1
theorem Ints.lit {b : Nat} {z : Int} {e : TypeId} : Ints [(b, blk [.int .i64 z] e)] (.slice (some ⟨b, 0, none⟩) [z].length 1) [z] :=
  ⟨⟨_, _, rfl⟩, fun _ => ⟨b, 0, 1, _, e, (0, 0), rfl, List.mem_singleton.2 rfl, fun i hi => by
    have : i = 0 := by simpa using hi
    subst this; rfl⟩⟩
theorem slice22c3 : SliceTo Try.prog 22 3 [(0, .int .u8 1), (1, .int .u8 2), (2, .int .u8 3)] [.int .u8 1, .int .u8 2, .int .u8 3] 5 := SliceTo.of fun _ => by kernel_rfl
theorem slice22c2 : SliceTo Try.prog 22 2 [(0, .int .u8 4), (1, .int .u8 5)] [.int .u8 4, .int .u8 5] 5 := SliceTo.of fun _ => by kernel_rfl
theorem slice22c4 : SliceTo Try.prog 22 4 [(0, .int .u8 1), (1, .int .u8 2), (2, .int .u8 3), (3, .int .u8 4)] [.int .u8 1, .int .u8 2, .int .u8 3, .int .u8 4] 5 := SliceTo.of fun _ => by kernel_rfl
theorem slice32 {z : Int} : SliceTo Try.prog 32 1 [(0, .int .i64 z)] [.int .i64 z] 3 := SliceTo.of fun _ => by kernel_rfl

theorem en10 : Vm.Enters Try.prog 10 := Vm.Enters.of fun _ _ => by kernel_rfl
theorem en12 : Vm.Enters Try.prog 12 := Vm.Enters.of fun _ _ => by kernel_rfl
theorem en14 : Vm.Enters Try.prog 14 := Vm.Enters.of fun _ _ => by kernel_rfl
theorem en15 : Vm.Enters Try.prog 15 := Vm.Enters.of fun _ _ => by kernel_rfl
theorem en16 : Vm.Enters Try.prog 16 := Vm.Enters.of fun _ _ => by kernel_rfl
theorem en17 : Vm.Enters Try.prog 17 := Vm.Enters.of fun _ _ => by kernel_rfl
theorem en23 : Vm.Enters Try.prog 23 := Vm.Enters.of fun _ _ => by kernel_rfl
theorem en8 : Vm.Enters Try.prog 8 := Vm.Enters.of fun _ _ => by kernel_rfl
theorem head17_ok  {w : World} (hG : Blocks [] w)  : Vm.Pure Try.prog 9 #[] w (.bool true) := by
  refine pure_of_W (n := 54) (args := []) Try.func9 rfl Try.ntmps9 (Nat.le_of_ble_eq_true rfl) hG ?_
  refine sStart ?_
  refine sSeq ?_
  refine W.region ?_
  refine OpsW.det (det_assign rfl) rfl ?_
  refine sNext ?_
  refine W.keep (F' := []) trivial ?_
  refine sSeq ?_
  refine W.region ?_
  refine OpsW.change (Hf := []) en8 rfl (fun w hb hbn ho hbm => New_ok nob) rfl (fun v4 H4 hS4 => ?_)
  obtain ⟨bD, rfl, hD0⟩ := hS4
  refine OpsW.det (det_assign rfl) rfl ?_
  refine sNext ?_
  refine W.keep (F' := [(1, _)]) ⟨rfl, trivial⟩ ?_
  refine sSeq ?_
  refine sSeq ?_
  refine W.region ?_
  refine OpsW.det (det_move rfl) rfl ?_
  refine OpsW.det (Det.to (det_nilPtr u23 rfl rfl) (congrArg Value.bool (rfl))) rfl ?_
  refine OpsW.det (det_move rfl) rfl ?_
  refine OpsW.guard_yes rfl rfl ?_
  refine OpsW.det (det_move rfl) rfl ?_
  refine OpsW.guard_yes rfl rfl ?_
  refine OpsW.fresh (fr_buildSlice rfl slice22c3) rfl fun b9 => ?_
  refine OpsW.guard_yes rfl rfl ?_
  refine OpsW.changeM (Hl := [(_, _)]) (Hd := H4) (Hr := []) en10 rfl (fun w hb hbn ho hbm => Append_ok hD0 (fresh_ok 4) (Nat.le_of_ble_eq_true rfl) (by decide) ((Bs.of (l := [1, 2, 3]) (spare := []) (e := 5) (fr := (0, 0)) (by decide) (Nat.le_refl _)).mono (fun p hp => by rw [List.mem_singleton.1 hp]; exact (List.Mem.head _))) (by decide) (bl_left (Hl := [(_, _)]) hb) (bl_mid (Hl := [(_, _)]) hb) (nd_mid (Hl := [(_, _)]) hbn) (nd_dis (Hl := [(_, _)]) hbn)) rfl (fun v10 H10 hS10 => ?_)
  obtain ⟨hv10, hD1⟩ := hS10
  rw [he1] at hv10 hD1
  subst hv10
  refine OpsW.norm (H' := ((_, _) :: (H10 ++ []))) rfl rfl ?_
  refine OpsW.guard_yes rfl rfl ?_
  refine OpsW.det (Det.to (det_neq rfl rfl) (congrArg Value.bool (rfl))) rfl ?_
  refine OpsW.det (det_pick rfl rfl) rfl ?_
  refine OpsW.det (det_move rfl) rfl ?_
  refine OpsW.guard_yes rfl rfl ?_
  refine OpsW.det (det_move rfl) rfl ?_
  refine OpsW.guard_yes rfl rfl ?_
  refine OpsW.changeM (Hl := [(_, _)]) (Hd := H10) (Hr := []) en12 rfl (fun w hb hbn ho hbm => Sync_ok hD1 ho1 (Nat.le_of_ble_eq_true rfl) (by decide) nob (bl_mid (Hl := [(_, _)]) hb) (nd_mid (Hl := [(_, _)]) hbn)) rfl (fun v15 H15 hS15 => ?_)
  obtain ⟨hv15, hD2⟩ := hS15
  rw [he2] at hv15 hD2
  subst hv15
  refine OpsW.norm (H' := ((_, _) :: (H15 ++ []))) rfl rfl ?_
  refine OpsW.guard_yes rfl rfl ?_
  refine OpsW.det (Det.to (det_neq rfl rfl) (congrArg Value.bool (rfl))) rfl ?_
  refine OpsW.det (det_pick rfl rfl) rfl ?_
  refine OpsW.det (det_move rfl) rfl ?_
  refine OpsW.guard_yes rfl rfl ?_
  refine OpsW.det (det_move rfl) rfl ?_
  refine OpsW.guard_yes rfl rfl ?_
  refine OpsW.fresh (fr_buildSlice rfl slice22c2) rfl fun b20 => ?_
  refine OpsW.guard_yes rfl rfl ?_
  refine OpsW.changeM (Hl := [(_, _), (_, _)]) (Hd := H15) (Hr := []) en10 rfl (fun w hb hbn ho hbm => Append_ok hD2 ho2 (Nat.le_of_ble_eq_true rfl) (by decide) ((Bs.of (l := [4, 5]) (spare := []) (e := 5) (fr := (0, 0)) (by decide) (Nat.le_refl _)).mono (fun p hp => by rw [List.mem_singleton.1 hp]; exact (List.Mem.head _))) (by decide) (bl_left (Hl := [(_, _), (_, _)]) hb) (bl_mid (Hl := [(_, _), (_, _)]) hb) (nd_mid (Hl := [(_, _), (_, _)]) hbn) (nd_dis (Hl := [(_, _), (_, _)]) hbn)) rfl (fun v21 H21 hS21 => ?_)
  obtain ⟨hv21, hD3⟩ := hS21
  rw [he3] at hv21 hD3
  subst hv21
  refine OpsW.norm (H' := ((_, _) :: (_, _) :: (H21 ++ []))) rfl rfl ?_
  refine OpsW.guard_yes rfl rfl ?_
  refine OpsW.det (Det.to (det_neq rfl rfl) (congrArg Value.bool (rfl))) rfl ?_
  refine OpsW.det (det_pick rfl rfl) rfl ?_
  refine OpsW.det (det_move rfl) rfl ?_
  refine OpsW.guard_yes rfl rfl ?_
  refine OpsW.det (det_move rfl) rfl ?_
  refine OpsW.guard_yes rfl rfl ?_
  refine OpsW.changeM (Hl := [(_, _), (_, _)]) (Hd := H21) (Hr := []) en12 rfl (fun w hb hbn ho hbm => Sync_ok hD3 ho3 (Nat.le_of_ble_eq_true rfl) (by decide) nob (bl_mid (Hl := [(_, _), (_, _)]) hb) (nd_mid (Hl := [(_, _), (_, _)]) hbn)) rfl (fun v26 H26 hS26 => ?_)
  obtain ⟨hv26, hD4⟩ := hS26
  rw [he4] at hv26 hD4
  subst hv26
  refine OpsW.norm (H' := ((_, _) :: (_, _) :: (H26 ++ []))) rfl rfl ?_
  refine OpsW.guard_yes rfl rfl ?_
  refine OpsW.det (Det.to (det_neq rfl rfl) (congrArg Value.bool (rfl))) rfl ?_
  refine OpsW.det (det_pick rfl rfl) rfl ?_
  refine sNext ?_
  refine W.keep (F' := [(28, _), (1, _)]) ⟨rfl, rfl, trivial⟩ ?_
  refine W.cond_false rfl ?_
  refine sSkip ?_
  refine sSeq ?_
  refine W.region ?_
  refine OpsW.det (det_move rfl) rfl ?_
  refine OpsW.fresh (fr_buildSlice rfl slice32) rfl fun b30 => ?_
  refine OpsW.changeM (Hl := [(_, _), (_, _), (_, _)]) (Hd := H26) (Hr := []) en14 rfl (fun w hb hbn ho hbm => Crash_ok hD4 ho3 (Nat.le_of_ble_eq_true rfl) (Ints.lit.mono (fun p hp => by rw [List.mem_singleton.1 hp]; exact (List.Mem.head _))) (Nat.le_of_ble_eq_true rfl) (by decide) (bl_left (Hl := [(_, _), (_, _), (_, _)]) hb) (bl_mid (Hl := [(_, _), (_, _), (_, _)]) hb) (nd_mid (Hl := [(_, _), (_, _), (_, _)]) hbn) (nd_dis (Hl := [(_, _), (_, _), (_, _)]) hbn)) rfl (fun v31 H31 hS31 => ?_)
  obtain ⟨hv31, hD5⟩ := hS31
  rw [he5] at hD5
  subst hv31
  refine OpsW.norm (H' := ((_, _) :: (_, _) :: (_, _) :: (H31 ++ []))) rfl rfl ?_
  refine sNext ?_
  refine W.keep (F' := [(1, _)]) ⟨rfl, trivial⟩ ?_
  refine sSeq ?_
  refine W.region ?_
  refine OpsW.det (det_move rfl) rfl ?_
  refine OpsW.change (Hf := []) en15 rfl (fun w hb hbn ho hbm => Read_d hD5 ho4 (by decide) (bl_mid (Hl := [(_, _), (_, _), (_, _)]) hb)) rfl (fun v34 H34 hS34 => ?_)
  obtain ⟨adr, capr, hpr, nr, hvr, hnr, hownr, hsubr⟩ := hS34
  rw [he6] at hvr hnr hownr
  dsimp only at hvr hnr hownr
  subst hvr
  subst hnr
  refine OpsW.tuck (Hl := [(_, _), (_, _), (_, _)]) (Hd := H31) (Hr := []) (hp := hpr) hsubr ?_
  refine OpsW.norm (H' := ((_, _) :: (_, _) :: (_, _) :: (H31 ++ (hpr ++ [])))) rfl rfl ?_
  refine OpsW.det (det_move rfl) rfl ?_
  refine OpsW.det (det_extract rfl rfl) rfl ?_
  refine OpsW.det (det_extract rfl rfl) rfl ?_
  refine OpsW.det (det_assign rfl) rfl ?_
  refine OpsW.det (det_assign rfl) rfl ?_
  refine sNext ?_
  refine W.keep (F' := [(3, _), (2, _), (1, _)]) ⟨rfl, rfl, rfl, trivial⟩ ?_
  refine sSeq ?_
  refine W.region ?_
  refine OpsW.det (det_move rfl) rfl ?_
  refine OpsW.det (Det.to (det_eql rfl rfl) (congrArg Value.bool (rfl))) rfl ?_
  refine OpsW.det (det_move rfl) rfl ?_
  refine OpsW.guard_yes rfl rfl ?_
  refine OpsW.det (det_move rfl) rfl ?_
  refine OpsW.guard_yes rfl rfl ?_
  refine OpsW.fresh (fr_buildSlice rfl slice22c4) rfl fun b41 => ?_
  refine OpsW.guard_yes rfl rfl ?_
  refine OpsW.det (Det.to (det_call en16 rfl (fun w hb ho => same_ok (l := [1, 2, 3, 4]) (l2 := [1, 2, 3, 4]) ((Bs.own (by decide) hownr).mono (fun p hp => List.mem_append_right [(_, _), (_, _), (_, _), (_, _)] (List.mem_append_right _ (List.mem_append_left _ hp)))) ((Bs.of (l := [1, 2, 3, 4]) (spare := []) (e := 5) (fr := (0, 0)) (by decide) (Nat.le_refl _)).mono (fun p hp => by rw [List.mem_singleton.1 hp]; exact (List.Mem.head _))) (by decide) hb)) (congrArg Value.bool (decide_eq_true rfl))) rfl ?_
  refine OpsW.det (det_pick rfl rfl) rfl ?_
  refine OpsW.det (det_move rfl) rfl ?_
  refine OpsW.guard_yes rfl rfl ?_
  refine OpsW.det (det_move rfl) rfl ?_
  refine OpsW.guard_yes rfl rfl ?_
  refine OpsW.det (det_call en17 rfl (fun w hb ho => Free_d hD5 ho4 (bl_mid (Hl := [(_, _), (_, _), (_, _), (_, _)]) hb))) rfl ?_
  refine OpsW.guard_yes rfl rfl ?_
  refine OpsW.det (Det.to (det_eql rfl rfl) (congrArg Value.bool (rfl))) rfl ?_
  refine OpsW.det (det_pick rfl rfl) rfl ?_
  refine OpsW.det (det_move rfl) rfl ?_
  refine OpsW.guard_yes rfl rfl ?_
  refine OpsW.det (det_move rfl) rfl ?_
  refine OpsW.guard_yes rfl rfl ?_
  refine OpsW.det (det_call en23 rfl (fun w hb ho => Steps_d hD5 (bl_mid (Hl := [(_, _), (_, _), (_, _), (_, _)]) hb))) rfl ?_
  refine OpsW.guard_yes rfl rfl ?_
  refine OpsW.det (Det.to (det_eql rfl rfl) (congrArg Value.bool (rfl))) rfl ?_
  refine OpsW.det (det_pick rfl rfl) rfl ?_
  refine OpsW.det (det_assign rfl) rfl ?_
  refine sNext ?_
  refine W.keep (F' := [(0, _)]) ⟨rfl, trivial⟩ ?_
  refine sRet ?_
  exact done1 Try.results9 (rv_tmp rfl) rfl

end Go.Dk
