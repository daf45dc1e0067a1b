/-
  The short form of a point of the first group: the walk. Conditions: none.
-/
import Derived.Test.YtndonmbemehefaaDoorCf1
namespace Go.Cu
open Go Go.Vm Go.RowKit Go.Proofs 
attribute [local irreducible] W OpsW Det Fresh New Writes Vm.Pure Makes Changes ExternTo BuildTo ZeroTo FieldTo IndexTo BinTo SliceTo Vm.Enters
set_option linter.unusedVariables false
set_option linter.unusedSimpArgs false
variable {T : Nat → TypeId × Nat × Nat}

/-- The short form of a point of the first group. -/
def form1 (p : Pt) : List Value := .int .u8 (bitsOf .or .u8 ((byt p.1.val 47 : Nat) : Int) (flg true (decide (p = (0, 0))) (largeF p.2))) :: (fbytes p.1).tail
theorem form1_len (p : Pt) : (form1 p).length = 48 := by
  have h := fbytes_len p.1
  rw [fbytes_cons] at h
  exact h
theorem form1_one (p : Pt) : (form1 p).all (·.oneCell') = true := by
  have h := fbytes_one p.1
  rw [fbytes_cons] at h
  exact h
theorem fbytes_at (x : Fq) : (fbytes x)[0 + (0 : Int).toNat * 1]? = some (.int .u8 ((byt x.val 47 : Nat) : Int)) := by rw [fbytes_cons]; rfl
theorem fbytes_set (x : Fq) (v : Value) : splice (0 + (0 : Int).toNat * 1) [v] (fbytes x) = some (v :: (fbytes x).tail) := by
  rw [fbytes_cons]
  show splice 0 [v] (u8 (byt x.val 47) :: (fbytes x).tail) = _
  exact splice_app (a := []) (new := [v]) (c := u8 (byt x.val 47) :: (fbytes x).tail) (Nat.succ_le_succ (Nat.zero_le _))

theorem en22 : Vm.Enters Tryd.prog 22 := Vm.Enters.of fun _ _ => by kernel_rfl
theorem en68 : Vm.Enters Tryd.prog 68 := Vm.Enters.of fun _ _ => by kernel_rfl
theorem en69 : Vm.Enters Tryd.prog 69 := Vm.Enters.of fun _ _ => by kernel_rfl
theorem CG1_ok {p : Pt} {w : World} (hG : Blocks (GH T) w)  : Vm.Pure Tryd.prog 34 #[encP p] w (.agg (form1 p).toArray) := by
  refine pure_of_W (n := 19) (args := [encP p]) Tryd.func34 rfl Tryd.ntmps34 (Nat.le_of_ble_eq_true rfl) hG ?_
  refine sStart ?_
  refine sSeq ?_
  refine W.region ?_
  refine OpsW.fresh (fr_box rfl rfl) rfl fun b1 => ?_
  refine OpsW.fresh (fr_alloc z58) rfl fun b2 => ?_
  refine sNext ?_
  refine W.keep (F' := [(2, _), (1, _)]) ⟨rfl, rfl, trivial⟩ ?_
  refine sSeq ?_
  refine W.region ?_
  refine OpsW.det (det_fieldAddr fl31_0 rfl) rfl ?_
  refine OpsW.det (det_loadA ty29 rfl (List.Mem.tail _ (List.Mem.head _)) rfl) rfl ?_
  refine OpsW.det (det_call en68 rfl (fun w hb ho => FBytes_ok ho.blocks)) rfl ?_
  refine OpsW.fresh (fr_alloc z58) rfl fun b3 => ?_
  refine OpsW.store sz58 rfl rfl rfl (fbytes_len p.1) (fbytes_one p.1) (Upd.here) (splice_all (by rw [fbytes_len, fst6_len (Nat.zero_le _)])) ?_
  refine sNext ?_
  refine W.keep (F' := [(3, _), (2, _), (1, _)]) ⟨rfl, rfl, rfl, trivial⟩ ?_
  refine sSeq ?_
  refine W.draw mixed 11 [[], [0], [], [], [2, 3], [], [5], [5, 6], [2, 3, 4, 5, 6, 7], [0, 1, 2, 3, 4, 5, 6, 7, 8], [0, 1, 2, 3, 4, 5, 6, 7, 8, 9], [0, 1, 2, 3, 4, 5, 6, 7, 8, 9, 10]] (cl_lt (by decide)) ?_
  refine HeadR.start (cl_lt (by decide)) ?_
  refine HeadR.det rfl (fun β hβ => (det_indexAddr_arr u58 sz5 rfl rfl ⟨by decide, by decide⟩)) ?_
  refine HeadR.det rfl (fun β hβ => (det_loadC ty5 rfl (List.Mem.head _) (fbytes_at p.1))) ?_
  refine HeadR.det rfl (fun β hβ => (det_loadA ty31 rfl (List.Mem.tail _ (List.Mem.tail _ (List.Mem.head _))) rfl)) ?_
  refine HeadR.det rfl (fun β hβ => (det_zero bz31)) ?_
  refine HeadR.det rfl (fun β hβ => (det_eql31 rfl rfl)) ?_
  refine HeadR.det rfl (fun β hβ => (det_fieldAddr fl31_1 rfl)) ?_
  refine HeadR.det rfl (fun β hβ => (det_loadA ty29 rfl (List.Mem.tail _ (List.Mem.tail _ (List.Mem.head _))) rfl)) ?_
  refine HeadR.det rfl (fun β hβ => (det_call en22 rfl (fun w hb ho => Large_ok ho.blocks))) ?_
  refine HeadR.det rfl (fun β hβ => (det_call en69 rfl (fun w hb ho => flags_ok (s := true) (n := decide (p = (0, 0))) (l := largeF p.2) ho.blocks))) ?_
  refine HeadR.det rfl (fun β hβ => (det_or rfl rfl)) ?_
  refine HeadR.det rfl (fun β hβ => (det_indexAddr_arr u58 sz5 rfl rfl ⟨by decide, by decide⟩)) ?_
  refine HeadR.done ⟨by kernel_rfl, fun β hβ => ?_⟩
  refine OpsW.norm (F' := [(7, _), (8, _), (9, _), (10, _), (11, _), (12, _), (13, _), (14, _), (15, _), (16, _), (17, _), (3, _), (2, _), (1, _)]) (H' := [(_, _), (_, _), (_, _)]) rfl rfl ?_
  refine OpsW.store sz5 rfl rfl rfl rfl rfl (Upd.here) (fbytes_set p.1 _) ?_
  refine sNext ?_
  refine W.keep (F' := [(3, _), (2, _)]) ⟨rfl, rfl, trivial⟩ ?_
  refine sSeq ?_
  refine W.region ?_
  refine OpsW.det (det_loadA ty58 rfl (List.Mem.head _) (show cut 0 48 (form1 p) = some (form1 p) from cut_all (form1_len p))) rfl ?_
  refine OpsW.store sz58 rfl rfl rfl (form1_len p) (form1_one p) (Upd.there (Upd.here)) (splice_all (by rw [form1_len, fst6_len (Nat.zero_le _)])) ?_
  refine sNext ?_
  refine W.keep (F' := [(2, _)]) ⟨rfl, trivial⟩ ?_
  refine sRet ?_
  exact done1 Tryd.results34 (rv_cellA ty58 rfl (List.Mem.tail _ (List.Mem.head _)) (show cut 0 48 (form1 p) = some (form1 p) from cut_all (form1_len p))) rfl

end Go.Cu
