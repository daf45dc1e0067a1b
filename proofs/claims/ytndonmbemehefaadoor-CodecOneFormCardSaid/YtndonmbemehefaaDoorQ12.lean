/-
  Part 12 of the joined texts of the curves' laws: The long forms of points: the walks. Conditions: none.
  Conditions: those that each theorem states.
-/
import Derived.Test.YtndonmbemehefaaDoorQ8
import Derived.Test.YtndonmbemehefaaDoorQ9
import Derived.Test.YtndonmbemehefaaDoorQ6
import Derived.Test.YtndonmbemehefaaDoorQ11
import Derived.Test.YtndonmbemehefaaDoorQ10
/- The long forms of points: the walks. Conditions: none. -/
namespace Go.Cw
open Go Go.Vm Go.RowKit Go.Proofs Go.Cu
attribute [local irreducible] W OpsW Det Fresh New Writes Vm.Pure Makes Changes ExternTo BuildTo ZeroTo FieldTo IndexTo BinTo SliceTo Vm.Enters
set_option linter.unusedVariables false
set_option linter.unusedSimpArgs false
variable {T : Nat → TypeId × Nat × Nat}

theorem u63 : Tryd.prog.underlying 63 = some (.array 192 5) := by kernel_rfl
def zer192 : List Value := List.replicate 192 (u8 0)
theorem zer192_len : zer192.length = 192 := List.length_replicate ..
theorem z63 : TyZ Tryd.prog 63 (.agg zer192.toArray) zer192 := ⟨fun _ => by kernel_rfl, by kernel_rfl⟩
/-- The coordinates' bytes, one behind the other. -/
def two1 (p : Cu.Pt) : List Value := Cu.fbytes p.1 ++ Cu.fbytes p.2
theorem two1_cons (p : Cu.Pt) : two1 p = u8 (byt p.1.val 47) :: (two1 p).tail := by unfold two1; rw [Cu.fbytes_cons p.1, List.cons_append, List.tail_cons]
theorem two1_len (p : Cu.Pt) : (two1 p).length = 96 := by unfold two1; rw [List.length_append, Cu.fbytes_len, Cu.fbytes_len]
theorem two1_one (p : Cu.Pt) : (two1 p).all (·.oneCell') = true := by unfold two1; rw [List.all_append, Cu.fbytes_one, Cu.fbytes_one]; rfl
/-- The long form of a point of the first group. -/
def full1 (p : Cu.Pt) : List Value := .int .u8 (bitsOf .or .u8 ((byt p.1.val 47 : Nat) : Int) (Cu.flg false (decide (p = (0, 0))) false)) :: (two1 p).tail
theorem full1_len (p : Cu.Pt) : (full1 p).length = 96 := by have h := two1_len p; rw [two1_cons] at h; exact h
theorem full1_one (p : Cu.Pt) : (full1 p).all (·.oneCell') = true := by have h := two1_one p; rw [two1_cons] at h; exact h
theorem two1_at (p : Cu.Pt) : (two1 p)[0 + (0 : Int).toNat * 1]? = some (.int .u8 ((byt p.1.val 47 : Nat) : Int)) := by rw [two1_cons]; rfl
theorem two1_set (p : Cu.Pt) (v : Value) : splice (0 + (0 : Int).toNat * 1) [v] (two1 p) = some (v :: (two1 p).tail) := by
  rw [two1_cons]
  show splice 0 [v] (u8 (byt p.1.val 47) :: (two1 p).tail) = _
  exact splice_app (a := []) (new := [v]) (c := u8 (byt p.1.val 47) :: (two1 p).tail) (Nat.succ_le_succ (Nat.zero_le _))
def two2 (p : Pt) : List Value := f2bytes p.1 ++ f2bytes p.2
theorem two2_cons (p : Pt) : two2 p = u8 (byt p.1.b.val 47) :: (two2 p).tail := by unfold two2; rw [f2bytes_cons p.1, List.cons_append, List.tail_cons]
theorem two2_len (p : Pt) : (two2 p).length = 192 := by unfold two2; rw [List.length_append, f2bytes_len, f2bytes_len]
theorem two2_one (p : Pt) : (two2 p).all (·.oneCell') = true := by unfold two2; rw [List.all_append, f2bytes_one, f2bytes_one]; rfl
/-- The long form of a point of the second group. -/
def full2 (p : Pt) : List Value := .int .u8 (bitsOf .or .u8 ((byt p.1.b.val 47 : Nat) : Int) (Cu.flg false (decide (p = (0, 0))) false)) :: (two2 p).tail
theorem full2_len (p : Pt) : (full2 p).length = 192 := by have h := two2_len p; rw [two2_cons] at h; exact h
theorem full2_one (p : Pt) : (full2 p).all (·.oneCell') = true := by have h := two2_one p; rw [two2_cons] at h; exact h
theorem two2_at (p : Pt) : (two2 p)[0 + (0 : Int).toNat * 1]? = some (.int .u8 ((byt p.1.b.val 47 : Nat) : Int)) := by rw [two2_cons]; rfl
theorem two2_set (p : Pt) (v : Value) : splice (0 + (0 : Int).toNat * 1) [v] (two2 p) = some (v :: (two2 p).tail) := by
  rw [two2_cons]
  show splice 0 [v] (u8 (byt p.1.b.val 47) :: (two2 p).tail) = _
  exact splice_app (a := []) (new := [v]) (c := u8 (byt p.1.b.val 47) :: (two2 p).tail) (Nat.succ_le_succ (Nat.zero_le _))
theorem f2_put1' (x : Fq2) : splice 0 (f2bytes x) zer192 = some (f2bytes x ++ List.replicate 96 (u8 0)) := by
  have := splice_app (a := []) (new := f2bytes x) (c := zer192) (by rw [f2bytes_len, zer192_len]; decide)
  have h2 : zer192.drop 96 = List.replicate 96 (u8 0) := by unfold zer192; rw [List.drop_replicate]
  rw [f2bytes_len, List.nil_append, List.nil_append, h2] at this
  exact this
theorem f2_put2' (x y : Fq2) : splice 96 (f2bytes y) (f2bytes x ++ List.replicate 96 (u8 0)) = some (f2bytes x ++ f2bytes y) := by
  have := splice_app (a := f2bytes x) (new := f2bytes y) (c := List.replicate 96 (u8 0)) (by rw [f2bytes_len, List.length_replicate]; decide)
  rw [f2bytes_len, f2bytes_len, show (List.replicate 96 (u8 0)).drop 96 = [] from rfl, List.append_nil] at this
  exact this

theorem sz63 : sizeIn Tryd.prog 63 = some 192 := by kernel_rfl
theorem ty63 : TyA Tryd.prog 63 192 := ⟨by kernel_rfl, by kernel_rfl⟩
set_option maxRecDepth 100000 in
theorem CFull1_ok {p : Cu.Pt} {w : World} (hG : Blocks (GH T) w)  : Vm.Pure Tryd.prog 35 #[Cu.encP p] w (.agg (full1 p).toArray) := by
  refine pure_of_W (n := 27) (args := [Cu.encP p]) Tryd.func35 rfl Tryd.ntmps35 (Nat.le_of_ble_eq_true rfl) hG ?_
  refine sStart ?_
  refine sSeq ?_
  refine W.region ?_
  refine OpsW.fresh (fr_box rfl rfl) rfl fun b1 => ?_
  refine OpsW.fresh (fr_alloc z60) rfl fun b2 => ?_
  refine sNext ?_
  refine W.keep (F' := [(2, _), (1, _)]) ⟨rfl, rfl, trivial⟩ ?_
  refine sSeq ?_
  refine W.region ?_
  refine OpsW.fresh (fr_alloc z60) rfl fun b3 => ?_
  refine sNext ?_
  refine sSeq ?_
  refine W.draw mixed 8 [[], [0], [0, 1], [], [3], [0, 1, 2, 3, 4], [], [], [0, 1, 2, 3, 4, 5, 6, 7], [0, 1, 2, 3, 4, 5, 6, 7, 8]] (cl_lt (by decide)) ?_
  refine HeadR.start (cl_lt (by decide)) ?_
  refine HeadR.det rfl (fun β hβ => (det_fieldAddr fl31_0 rfl)) ?_
  refine HeadR.det rfl (fun β hβ => (det_loadA ty29 rfl (List.Mem.tail _ (List.Mem.tail _ (List.Mem.head _))) rfl)) ?_
  refine HeadR.det rfl (fun β hβ => (det_call en68 rfl (fun w hb ho => Cu.FBytes_ok ho.blocks))) ?_
  refine HeadR.det rfl (fun β hβ => (det_fieldAddr fl31_1 rfl)) ?_
  refine HeadR.det rfl (fun β hβ => (det_loadA ty29 rfl (List.Mem.tail _ (List.Mem.tail _ (List.Mem.head _))) rfl)) ?_
  refine HeadR.det rfl (fun β hβ => (det_call en68 rfl (fun w hb ho => Cu.FBytes_ok ho.blocks))) ?_
  refine HeadR.fresh rfl (fun β hβ => (fr_alloc z58).new) ?_
  refine HeadR.fresh rfl (fun β hβ => (fr_alloc z58).new) ?_
  refine HeadR.done ⟨by kernel_rfl, fun β hβ => ?_⟩
  refine OpsW.norm (F' := [(6, _), (7, _), (8, _), (9, _), (10, _), (11, _), (4, .pointer (some ⟨(β 4).1, 0, none⟩)), (5, .pointer (some ⟨(β 5).1, 0, none⟩)), (3, _), (2, _), (1, _)]) (H' := [(_, _), (_, _), (_, _), (_, _), (_, _)]) rfl rfl ?_
  generalize (β 4).1 = b4
  generalize (β 5).1 = b5
  refine OpsW.store sz58 rfl rfl rfl (Cu.fbytes_len _) (Cu.fbytes_one _) (Upd.here) (splice_all (by rw [Cu.fbytes_len, fst6_len (Nat.zero_le _)])) ?_
  refine OpsW.store sz58 rfl rfl rfl (Cu.fbytes_len _) (Cu.fbytes_one _) (Upd.there (Upd.here)) (splice_all (by rw [Cu.fbytes_len, fst6_len (Nat.zero_le _)])) ?_
  refine sNext ?_
  refine W.keep (F' := [(4, _), (5, _), (3, _), (2, _), (1, _)]) ⟨rfl, rfl, rfl, rfl, rfl, trivial⟩ ?_
  refine sSeq ?_
  refine W.draw mixed 2 [[], [], [0, 1]] (cl_lt (by decide)) ?_
  refine HeadR.start (cl_lt (by decide)) ?_
  refine HeadR.det rfl (fun β hβ => ((det_sliceArr (lo := none) (hi := none) (l := 0) (h := 96) u60 sz5 rfl rfl rfl (by decide) (by decide)).to (v := .slice (some ⟨b3, 0, none⟩) 96 96) rfl)) ?_
  refine HeadR.det rfl (fun β hβ => ((det_sliceArr (lo := none) (hi := none) (l := 0) (h := 48) u58 sz5 rfl rfl rfl (by decide) (by decide)).to (v := .slice (some ⟨b4, 0, none⟩) 48 48) rfl)) ?_
  refine HeadR.done ⟨by kernel_rfl, fun β hβ => ?_⟩
  refine OpsW.norm (F' := [(12, _), (13, _), (4, _), (5, _), (3, _), (2, _), (1, _)]) (H' := [(_, _), (_, _), (_, _), (_, _), (_, _)]) rfl rfl ?_
  refine OpsW.copy (cs := Cu.fbytes p.1) u22 sz5 rfl rfl (.inl (List.Mem.head _)) (by rw [Cu.fbytes_len]; rfl) (fun j u h => by rw [Nat.zero_add]; exact h) (Cu.fbytes_one _) (Upd.there (Upd.there Upd.here)) (f2_put1 p.1) rfl ?_
  refine sNext ?_
  refine W.keep (F' := [(5, _), (3, _), (2, _), (1, _)]) ⟨rfl, rfl, rfl, rfl, trivial⟩ ?_
  refine sSeq ?_
  refine W.draw mixed 2 [[], [], [0, 1]] (cl_lt (by decide)) ?_
  refine HeadR.start (cl_lt (by decide)) ?_
  refine HeadR.det rfl (fun β hβ => ((det_sliceArr (lo := some (.const (.int .i64 48))) (hi := none) (l := 48) (h := 96) u60 sz5 rfl ⟨_, rfl⟩ rfl (by decide) (by decide)).to (v := .slice (some ⟨b3, 48, none⟩) 48 48) rfl)) ?_
  refine HeadR.det rfl (fun β hβ => ((det_sliceArr (lo := none) (hi := none) (l := 0) (h := 48) u58 sz5 rfl rfl rfl (by decide) (by decide)).to (v := .slice (some ⟨b5, 0, none⟩) 48 48) rfl)) ?_
  refine HeadR.done ⟨by kernel_rfl, fun β hβ => ?_⟩
  refine OpsW.norm (F' := [(15, _), (16, _), (5, _), (3, _), (2, _), (1, _)]) (H' := [(_, _), (_, _), (_, _), (_, _), (_, _)]) rfl rfl ?_
  refine OpsW.copy (cs := Cu.fbytes p.2) u22 sz5 rfl rfl (.inl (List.Mem.tail _ (List.Mem.head _))) (by rw [Cu.fbytes_len]; rfl) (fun j u h => by rw [Nat.zero_add]; exact h) (Cu.fbytes_one _) (Upd.there (Upd.there Upd.here)) (f2_put2 p.1 p.2) rfl ?_
  refine sNext ?_
  refine W.keep (F' := [(3, _), (2, _), (1, _)]) ⟨rfl, rfl, rfl, trivial⟩ ?_
  refine sSeq ?_
  refine W.draw mixed 8 [[], [0], [], [], [2, 3], [2, 3, 4], [0, 1, 2, 3, 4, 5], [0, 1, 2, 3, 4, 5, 6], [0, 1, 2, 3, 4, 5, 6, 7]] (cl_lt (by decide)) ?_
  refine HeadR.start (cl_lt (by decide)) ?_
  refine HeadR.det rfl (fun β hβ => (det_indexAddr_arr u60 sz5 rfl rfl ⟨by decide, by decide⟩)) ?_
  refine HeadR.det rfl (fun β hβ => (det_loadC ty5 rfl (List.Mem.tail _ (List.Mem.tail _ (List.Mem.head _))) (two1_at p))) ?_
  refine HeadR.det rfl (fun β hβ => (det_loadA ty31 rfl (List.Mem.tail _ (List.Mem.tail _ (List.Mem.tail _ (List.Mem.tail _ (List.Mem.head _))))) rfl)) ?_
  refine HeadR.det rfl (fun β hβ => (det_zero bz31)) ?_
  refine HeadR.det rfl (fun β hβ => (det_eql31 rfl rfl)) ?_
  refine HeadR.det rfl (fun β hβ => (det_call en69 rfl (fun w hb ho => Cu.flags_ok (s := false) (n := decide (p = (0, 0))) (l := false) ho.blocks))) ?_
  refine HeadR.det rfl (fun β hβ => (det_or rfl rfl)) ?_
  refine HeadR.det rfl (fun β hβ => (det_indexAddr_arr u60 sz5 rfl rfl ⟨by decide, by decide⟩)) ?_
  refine HeadR.done ⟨by kernel_rfl, fun β hβ => ?_⟩
  refine OpsW.norm (F' := [(18, _), (19, _), (20, _), (21, _), (22, _), (23, _), (24, _), (25, _), (3, _), (2, _), (1, _)]) (H' := [(_, _), (_, _), (_, _), (_, _), (_, _)]) rfl rfl ?_
  refine OpsW.store sz5 rfl rfl rfl rfl rfl (Upd.there (Upd.there (Upd.here))) (two1_set p _) ?_
  refine sNext ?_
  refine W.keep (F' := [(3, _), (2, _)]) ⟨rfl, rfl, trivial⟩ ?_
  refine sSeq ?_
  refine W.region ?_
  refine OpsW.det (det_loadA ty60 rfl (List.Mem.tail _ (List.Mem.tail _ (List.Mem.head _))) (show cut 0 96 (full1 p) = some (full1 p) from cut_all (full1_len p))) rfl ?_
  refine OpsW.store sz60 rfl rfl rfl (full1_len p) (full1_one p) (Upd.there (Upd.there (Upd.there (Upd.here)))) (splice_all (by rw [full1_len, zer96_len])) ?_
  refine sNext ?_
  refine W.keep (F' := [(2, _)]) ⟨rfl, trivial⟩ ?_
  refine sRet ?_
  exact done1 Tryd.results35 (rv_cellA ty60 rfl (List.Mem.tail _ (List.Mem.tail _ (List.Mem.tail _ (List.Mem.head _)))) (show cut 0 96 (full1 p) = some (full1 p) from cut_all (full1_len p))) rfl
set_option maxRecDepth 100000 in
theorem CFull2_ok {p : Pt} {w : World} (hG : Blocks (GH T) w)  : Vm.Pure Tryd.prog 38 #[encP p] w (.agg (full2 p).toArray) := by
  refine pure_of_W (n := 27) (args := [encP p]) Tryd.func38 rfl Tryd.ntmps38 (Nat.le_of_ble_eq_true rfl) hG ?_
  refine sStart ?_
  refine sSeq ?_
  refine W.region ?_
  refine OpsW.fresh (fr_boxW48 rfl) rfl fun b1 => ?_
  refine OpsW.fresh (fr_alloc z63) rfl fun b2 => ?_
  refine sNext ?_
  refine W.keep (F' := [(2, _), (1, _)]) ⟨rfl, rfl, trivial⟩ ?_
  refine sSeq ?_
  refine W.region ?_
  refine OpsW.fresh (fr_alloc z63) rfl fun b3 => ?_
  refine sNext ?_
  refine sSeq ?_
  refine W.draw mixed 8 [[], [0], [0, 1], [], [3], [0, 1, 2, 3, 4], [], [], [0, 1, 2, 3, 4, 5, 6, 7], [0, 1, 2, 3, 4, 5, 6, 7, 8]] (cl_lt (by decide)) ?_
  refine HeadR.start (cl_lt (by decide)) ?_
  refine HeadR.det rfl (fun β hβ => (det_fieldAddr fl48_0 rfl)) ?_
  refine HeadR.det rfl (fun β hβ => (det_loadA ty46 rfl (List.Mem.tail _ (List.Mem.tail _ (List.Mem.head _))) rfl)) ?_
  refine HeadR.det rfl (fun β hβ => (det_call en71 rfl (fun w hb ho => FBytes2_ok ho.blocks))) ?_
  refine HeadR.det rfl (fun β hβ => (det_fieldAddr fl48_1 rfl)) ?_
  refine HeadR.det rfl (fun β hβ => (det_loadA ty46 rfl (List.Mem.tail _ (List.Mem.tail _ (List.Mem.head _))) rfl)) ?_
  refine HeadR.det rfl (fun β hβ => (det_call en71 rfl (fun w hb ho => FBytes2_ok ho.blocks))) ?_
  refine HeadR.fresh rfl (fun β hβ => (fr_alloc z60).new) ?_
  refine HeadR.fresh rfl (fun β hβ => (fr_alloc z60).new) ?_
  refine HeadR.done ⟨by kernel_rfl, fun β hβ => ?_⟩
  refine OpsW.norm (F' := [(6, _), (7, _), (8, _), (9, _), (10, _), (11, _), (4, .pointer (some ⟨(β 4).1, 0, none⟩)), (5, .pointer (some ⟨(β 5).1, 0, none⟩)), (3, _), (2, _), (1, _)]) (H' := [(_, _), (_, _), (_, _), (_, _), (_, _)]) rfl rfl ?_
  generalize (β 4).1 = b4
  generalize (β 5).1 = b5
  refine OpsW.store sz60 rfl rfl rfl (f2bytes_len _) (f2bytes_one _) (Upd.here) (splice_all (by rw [f2bytes_len, zer96_len])) ?_
  refine OpsW.store sz60 rfl rfl rfl (f2bytes_len _) (f2bytes_one _) (Upd.there (Upd.here)) (splice_all (by rw [f2bytes_len, zer96_len])) ?_
  refine sNext ?_
  refine W.keep (F' := [(4, _), (5, _), (3, _), (2, _), (1, _)]) ⟨rfl, rfl, rfl, rfl, rfl, trivial⟩ ?_
  refine sSeq ?_
  refine W.draw mixed 2 [[], [], [0, 1]] (cl_lt (by decide)) ?_
  refine HeadR.start (cl_lt (by decide)) ?_
  refine HeadR.det rfl (fun β hβ => ((det_sliceArr (lo := none) (hi := none) (l := 0) (h := 192) u63 sz5 rfl rfl rfl (by decide) (by decide)).to (v := .slice (some ⟨b3, 0, none⟩) 192 192) rfl)) ?_
  refine HeadR.det rfl (fun β hβ => ((det_sliceArr (lo := none) (hi := none) (l := 0) (h := 96) u60 sz5 rfl rfl rfl (by decide) (by decide)).to (v := .slice (some ⟨b4, 0, none⟩) 96 96) rfl)) ?_
  refine HeadR.done ⟨by kernel_rfl, fun β hβ => ?_⟩
  refine OpsW.norm (F' := [(12, _), (13, _), (4, _), (5, _), (3, _), (2, _), (1, _)]) (H' := [(_, _), (_, _), (_, _), (_, _), (_, _)]) rfl rfl ?_
  refine OpsW.copy (cs := f2bytes p.1) u22 sz5 rfl rfl (.inl (List.Mem.head _)) (by rw [f2bytes_len]; rfl) (fun j u h => by rw [Nat.zero_add]; exact h) (f2bytes_one _) (Upd.there (Upd.there Upd.here)) (f2_put1' p.1) rfl ?_
  refine sNext ?_
  refine W.keep (F' := [(5, _), (3, _), (2, _), (1, _)]) ⟨rfl, rfl, rfl, rfl, trivial⟩ ?_
  refine sSeq ?_
  refine W.draw mixed 2 [[], [], [0, 1]] (cl_lt (by decide)) ?_
  refine HeadR.start (cl_lt (by decide)) ?_
  refine HeadR.det rfl (fun β hβ => ((det_sliceArr (lo := some (.const (.int .i64 96))) (hi := none) (l := 96) (h := 192) u63 sz5 rfl ⟨_, rfl⟩ rfl (by decide) (by decide)).to (v := .slice (some ⟨b3, 96, none⟩) 96 96) rfl)) ?_
  refine HeadR.det rfl (fun β hβ => ((det_sliceArr (lo := none) (hi := none) (l := 0) (h := 96) u60 sz5 rfl rfl rfl (by decide) (by decide)).to (v := .slice (some ⟨b5, 0, none⟩) 96 96) rfl)) ?_
  refine HeadR.done ⟨by kernel_rfl, fun β hβ => ?_⟩
  refine OpsW.norm (F' := [(15, _), (16, _), (5, _), (3, _), (2, _), (1, _)]) (H' := [(_, _), (_, _), (_, _), (_, _), (_, _)]) rfl rfl ?_
  refine OpsW.copy (cs := f2bytes p.2) u22 sz5 rfl rfl (.inl (List.Mem.tail _ (List.Mem.head _))) (by rw [f2bytes_len]; rfl) (fun j u h => by rw [Nat.zero_add]; exact h) (f2bytes_one _) (Upd.there (Upd.there Upd.here)) (f2_put2' p.1 p.2) rfl ?_
  refine sNext ?_
  refine W.keep (F' := [(3, _), (2, _), (1, _)]) ⟨rfl, rfl, rfl, trivial⟩ ?_
  refine sSeq ?_
  refine W.draw mixed 8 [[], [0], [], [], [2, 3], [2, 3, 4], [0, 1, 2, 3, 4, 5], [0, 1, 2, 3, 4, 5, 6], [0, 1, 2, 3, 4, 5, 6, 7]] (cl_lt (by decide)) ?_
  refine HeadR.start (cl_lt (by decide)) ?_
  refine HeadR.det rfl (fun β hβ => (det_indexAddr_arr u63 sz5 rfl rfl ⟨by decide, by decide⟩)) ?_
  refine HeadR.det rfl (fun β hβ => (det_loadC ty5 rfl (List.Mem.tail _ (List.Mem.tail _ (List.Mem.head _))) (two2_at p))) ?_
  refine HeadR.det rfl (fun β hβ => (det_loadW48 rfl (List.Mem.tail _ (List.Mem.tail _ (List.Mem.tail _ (List.Mem.tail _ (List.Mem.head _))))))) ?_
  refine HeadR.det rfl (fun β hβ => (det_zero bz48)) ?_
  refine HeadR.det rfl (fun β hβ => (det_eql48 rfl rfl)) ?_
  refine HeadR.det rfl (fun β hβ => (det_call en69 rfl (fun w hb ho => Cu.flags_ok (s := false) (n := decide (p = (0, 0))) (l := false) ho.blocks))) ?_
  refine HeadR.det rfl (fun β hβ => (det_or rfl rfl)) ?_
  refine HeadR.det rfl (fun β hβ => (det_indexAddr_arr u63 sz5 rfl rfl ⟨by decide, by decide⟩)) ?_
  refine HeadR.done ⟨by kernel_rfl, fun β hβ => ?_⟩
  refine OpsW.norm (F' := [(18, _), (19, _), (20, _), (21, _), (22, _), (23, _), (24, _), (25, _), (3, _), (2, _), (1, _)]) (H' := [(_, _), (_, _), (_, _), (_, _), (_, _)]) rfl rfl ?_
  refine OpsW.store sz5 rfl rfl rfl rfl rfl (Upd.there (Upd.there (Upd.here))) (two2_set p _) ?_
  refine sNext ?_
  refine W.keep (F' := [(3, _), (2, _)]) ⟨rfl, rfl, trivial⟩ ?_
  refine sSeq ?_
  refine W.region ?_
  refine OpsW.det (det_loadA ty63 rfl (List.Mem.tail _ (List.Mem.tail _ (List.Mem.head _))) (show cut 0 192 (full2 p) = some (full2 p) from cut_all (full2_len p))) rfl ?_
  refine OpsW.store sz63 rfl rfl rfl (full2_len p) (full2_one p) (Upd.there (Upd.there (Upd.there (Upd.here)))) (splice_all (by rw [full2_len, zer192_len])) ?_
  refine sNext ?_
  refine W.keep (F' := [(2, _)]) ⟨rfl, trivial⟩ ?_
  refine sRet ?_
  exact done1 Tryd.results38 (rv_cellA ty63 rfl (List.Mem.tail _ (List.Mem.tail _ (List.Mem.tail _ (List.Mem.head _)))) (show cut 0 192 (full2 p) = some (full2 p) from cut_all (full2_len p))) rfl

end Go.Cw

/- No other bytes are a point of the first group: what is read is what would be written. -/
namespace Go.Cu
open Go Go.Vm Go.Ec
set_option linter.unusedVariables false
set_option linter.unusedSimpArgs false
set_option linter.unusedSectionVars false
open CR
/-! ### Bytes there and back -/
def fN (x : Fq) : List Nat := (List.range 48).map fun i => byt x.val (47 - i)
theorem fbytes_N (x : Fq) : fbytes x = bcells (fN x) := by
  unfold fbytes fN bcells
  rw [bytes_all, List.map_map]; rfl
theorem fN_len (x : Fq) : (fN x).length = 48 := by unfold fN; rw [List.length_map, List.length_range]
theorem fN_small (x : Fq) : ∀ c ∈ fN x, c < 256 := by
  intro c hc
  unfold fN at hc
  obtain ⟨i, _, rfl⟩ := List.mem_map.1 hc
  exact Nat.mod_lt _ (by decide)
theorem beN_cat (l : List Nat) (c : Nat) : beN (l ++ [c]) = beN l * 256 + c := by unfold beN; rw [List.foldl_append]; rfl
theorem beN_dig : ∀ (n : Nat) (l : List Nat), l.length = n → (∀ c ∈ l, c < 256) → ∀ j, j < n → beN l / 256 ^ j % 256 = l.getD (n - 1 - j) 0
  | 0, l, _, _, j, hj => by omega
  | n + 1, l, hl, hs, j, hj => by
    have hne : l ≠ [] := by intro e; rw [e] at hl; simp at hl
    have hd := List.dropLast_concat_getLast hne
    have h1 : l.dropLast.length = n := by rw [List.length_dropLast]; omega
    have h2 : ∀ c ∈ l.dropLast, c < 256 := fun c hc => hs c (List.dropLast_subset l hc)
    have hc := hs _ (List.getLast_mem hne)
    generalize l.getLast hne = c at hd hc
    rw [← hd, beN_cat]
    cases j with
    | zero =>
      rw [Nat.pow_zero, Nat.div_one]
      rw [List.getD_eq_getElem?_getD, List.getElem?_append_right (by omega), h1, show n + 1 - 1 - 0 - n = 0 by omega]
      show _ = c
      omega
    | succ j =>
      have ih := beN_dig n l.dropLast h1 h2 j (by omega)
      rw [Nat.pow_succ, Nat.mul_comm (256 ^ j), ← Nat.div_div_eq_div_mul, show (beN l.dropLast * 256 + c) / 256 = beN l.dropLast by omega, ih, List.getD_eq_getElem?_getD, List.getD_eq_getElem?_getD, List.getElem?_append_left (by omega), show n + 1 - 1 - (j + 1) = n - 1 - j by omega]
theorem fN_back {l : List Nat} (h : l.length = 48) (hs : ∀ c ∈ l, c < 256) (hp : beN l < pp) : fN (Zp.of (beN l)) = l := by
  refine List.ext_getElem? fun i => ?_
  by_cases hi : i < 48
  · unfold fN
    rw [List.getElem?_map, List.getElem?_range hi]
    show some (byt (Zp.of (beN l) : Fq).val (47 - i)) = _
    rw [Zp.of_val, Nat.mod_eq_of_lt hp]
    unfold byt
    rw [beN_dig 48 l h hs (47 - i) (by omega), List.getD_eq_getElem?_getD, show 48 - 1 - (47 - i) = i by omega, List.getElem?_eq_getElem (by omega)]; rfl
  · rw [List.getElem?_eq_none (by rw [fN_len]; omega), List.getElem?_eq_none (by omega)]
/-! ### The forms as numbers -/
def mN (b : Nat) (s n g : Bool) : Nat := (bitsOf .or .u8 ((b : Nat) : Int) (flg s n g)).toNat
theorem mN_ok (b : Nat) (s n g : Bool) : bitsOf .or .u8 ((b : Nat) : Int) (flg s n g) = ((mN b s n g : Nat) : Int) ∧ mN b s n g < 256 := by
  have h : bitsOf .or .u8 ((b : Nat) : Int) (flg s n g) = (((BitVec.ofInt IntKind.u8.bits ((b : Nat) : Int) ||| BitVec.ofInt IntKind.u8.bits (flg s n g)).toNat % 256 : Nat) : Int) := by
    unfold bitsOf
    exact wrap_u8
  unfold mN
  rw [h]
  omega
def formN1 (p : Pt) : List Nat := mN (byt p.1.val 47) true (decide (p = (0, 0))) (largeF p.2) :: (fN p.1).tail
theorem bcells_tail (l : List Nat) : (bcells l).tail = bcells l.tail := by cases l <;> rfl
theorem form1_N (p : Pt) : form1 p = bcells (formN1 p) := by
  unfold form1 formN1
  rw [(mN_ok _ _ _ _).1, fbytes_N, bcells_tail]; rfl
theorem formN1_len (p : Pt) : (formN1 p).length = 48 := by unfold formN1; rw [List.length_cons, List.length_tail, fN_len]
theorem formN1_small (p : Pt) : ∀ c ∈ formN1 p, c < 256 := by
  intro c hc
  unfold formN1 at hc
  rcases List.mem_cons.1 hc with rfl | h
  · exact (mN_ok _ _ _ _).2
  · exact fN_small _ _ (List.mem_of_mem_tail h)
def fullN1 (p : Pt) : List Nat := mN (byt p.1.val 47) false (decide (p = (0, 0))) false :: (fN p.1 ++ fN p.2).tail
theorem full1_N (p : Pt) : Cw.full1 p = bcells (fullN1 p) := by
  unfold Cw.full1 fullN1 Cw.two1
  rw [(mN_ok _ _ _ _).1, fbytes_N, fbytes_N, show bcells (fN p.1) ++ bcells (fN p.2) = bcells (fN p.1 ++ fN p.2) by unfold bcells; rw [List.map_append], bcells_tail]; rfl
theorem fullN1_len (p : Pt) : (fullN1 p).length = 96 := by unfold fullN1; rw [List.length_cons, List.length_tail, List.length_append, fN_len, fN_len]
theorem fullN1_small (p : Pt) : ∀ c ∈ fullN1 p, c < 256 := by
  intro c hc
  unfold fullN1 at hc
  rcases List.mem_cons.1 hc with rfl | h
  · exact (mN_ok _ _ _ _).2
  · rcases List.mem_append.1 (List.mem_of_mem_tail h) with h | h
    · exact fN_small _ _ h
    · exact fN_small _ _ h
/-! ### Marks -/
def OneB (b : Nat) : Prop :=
    (sB b = true → fB b = false → mN (b % 32) true false (lB b) = b) ∧ (sB b = false → fB b = false → lB b = false → b % 32 = b ∧ mN (b % 32) false false false = b) ∧
    (sB b = true → fB b = true → lB b = false → zB b = false → b = 192) ∧ (sB b = false → fB b = true → lB b = false → zB b = false → b = 64)
def oneB (b : Nat) : Bool := (!sB b || fB b || Nat.beq (mN (b % 32) true false (lB b)) b) && (sB b || fB b || lB b || (Nat.beq (b % 32) b && Nat.beq (mN (b % 32) false false false) b)) && (!sB b || !fB b || lB b || zB b || Nat.beq b 192) && (sB b || !fB b || lB b || zB b || Nat.beq b 64)
theorem fin_one : ∀ b : Fin 256, oneB b.val = true := by decide +kernel
theorem one_at {b : Nat} (h : b < 256) : OneB b := by
  have h := fin_one ⟨b, h⟩
  unfold oneB at h
  rw [Bool.and_eq_true, Bool.and_eq_true, Bool.and_eq_true] at h
  obtain ⟨⟨⟨h1, h2⟩, h3⟩, h4⟩ := h
  simp only at h1 h2 h3 h4
  refine ⟨fun a c => ?_, fun a c d => ?_, fun a c d e => ?_, fun a c d e => ?_⟩
  · rw [a, c] at h1; exact Nat.eq_of_beq_eq_true (by simpa using h1)
  · rw [a, c, d] at h2
    have h2 : (Nat.beq (b % 32) b && Nat.beq (mN (b % 32) false false false) b) = true := h2
    rw [Bool.and_eq_true] at h2
    exact ⟨Nat.eq_of_beq_eq_true h2.1, Nat.eq_of_beq_eq_true h2.2⟩
  · rw [a, c, d, e] at h3; exact Nat.eq_of_beq_eq_true h3
  · rw [a, c, d, e] at h4; exact Nat.eq_of_beq_eq_true h4
/-! ### Greater and less -/
theorem pp_odd : pp % 2 = 1 := by decide +kernel
theorem large_neg {s : Fq} (h : s ≠ 0) : largeF (0 - s) = !largeF s := by
  unfold largeF
  rw [show (0 - (0 - s) : Fq) = s from (show (0 - (0 - s)) = s from ring_id (fun vi_ => vget vi_ [s]) (.sub .zero (.sub .zero (.var 0))) (.var 0) (by kernel_rfl))]
  have h0 : s.val ≠ 0 := fun e => h (Zp.ext (by rw [e, Zp.zero_val]))
  have h1 : (0 - s).val = pp - s.val := by
    rw [Zp.sub_val, Zp.zero_val, Nat.zero_add, Nat.mod_eq_of_lt]
    have := s.lt; omega
  have h2 := s.lt
  have h3 := pp_odd
  rw [h1, Bool.eq_iff_iff, decide_eq_true_iff, Bool.not_eq_true', decide_eq_false_iff_not]
  exact (fun (a m : Nat) (h2 : a < m) (h3 : m % 2 = 1) => (by omega : a < m - a ↔ ¬ m - a < a)) _ _ h2 h3
theorem cube_pw (x : Fq) (e : Nat) : pw (x * x * x) e = pw x (3 * e) := by
  rw [pw_mul]
  congr 1
  show x * x * x = 1 * x * x * x
  rw [one_mul]
/-- Minus four is no cube. -/
theorem no_cube (x : Fq) : x * x * x + Zp.of 4 ≠ 0 := by
  intro h
  have hx : x ≠ 0 := by
    rintro rfl
    exact (by decide +kernel : (0 : Fq) * 0 * 0 + Zp.of 4 ≠ 0) h
  have h1 : x * x * x = Zp.of (pp - 4) := by
    have h4 : (Zp.of (pp - 4) : Fq) + Zp.of 4 = 0 := by decide +kernel
    exact (eq_of_sub (Eq.trans (show (((x * x) * x) - ((Zp.of (pp - 4) : Fq))) = ((1 * ((((x * x) * x) + ((Zp.of 4 : Fq))) - 0)) + ((0 - 1) * ((((Zp.of (pp - 4) : Fq)) + ((Zp.of 4 : Fq))) - 0))) from ring_id (fun vi_ => vget vi_ [x, (Zp.of (pp - 4) : Fq), (Zp.of 4 : Fq)]) (.sub (.mul (.mul (.var 0) (.var 0)) (.var 0)) (.var 1)) (.add (.mul .one (.sub (.add (.mul (.mul (.var 0) (.var 0)) (.var 0)) (.var 2)) .zero)) (.mul (.sub .zero .one) (.sub (.add (.var 1) (.var 2)) .zero))) (by kernel_rfl)) (lz2 (lz h) (lz h4))))
  have h2 := fermat prime_pp hx
  rw [show pp - 1 = 3 * ((pp - 1) / 3) by decide +kernel, ← cube_pw, h1] at h2
  have h3 := congrArg Zp.val h2
  rw [pw_val, ← pmod_ok pp 400 (pp - 4) ((pp - 1) / 3) (by decide +kernel)] at h3
  exact (by decide +kernel : pmod pp 400 (pp - 4) ((pp - 1) / 3) ≠ (1 : Fq).val) h3
end Go.Cu

/- No other bytes are a point of the first group: the law's mathematics. -/
namespace Go.Cu
open Go Go.Vm Go.Ec
set_option linter.unusedVariables false
set_option linter.unusedSimpArgs false
set_option linter.unusedSectionVars false
open CR
theorem fin_good {p : Pt} {ok : Bool} (h : (fin1 p ok).2 = 0) : ok = true ∧ p ≠ (0, 0) ∧ inB p = true ∧ (fin1 p ok).1 = p := by
  unfold fin1 at h ⊢
  split at h
  · cases h
  · rename_i h1
    split at h
    · cases h
    · rename_i h2
      rw [if_neg h1, if_neg h2]
      refine ⟨?_, fun e => h1 (.inr e), ?_, rfl⟩
      · cases ok
        · exact absurd (.inl rfl) h1
        · rfl
      · cases hb : inB p
        · exact absurd hb h2
        · rfl
theorem mark_good {l : List Nat} {n : Nat} (h : (markE l n).1 = 0) : badM l n = false ∧ ¬ (fB (b0 l) = true ∧ dirty l = true) := by
  unfold markE at h
  split at h
  · cases h
  · split at h
    · cases h
    · rename_i h2
      split at h
      · cases h
      · rename_i h3; exact ⟨by simpa using h2, h3⟩
theorem bad_parts {l : List Nat} {n : Nat} (h : badM l n = false) : sB (b0 l) = decide (l.length = n) ∧ (sB (b0 l) = false → lB (b0 l) = false) ∧ (fB (b0 l) = true → lB (b0 l) = false) := by
  unfold badM at h
  generalize sB (b0 l) = s at h ⊢
  generalize lB (b0 l) = g at h ⊢
  generalize fB (b0 l) = f at h ⊢
  generalize decide (l.length = n) = d at h ⊢
  revert h
  cases s <;> cases g <;> cases f <;> cases d <;> simp
theorem head_tail {l : List Nat} (h : 0 < l.length) : l = b0 l :: l.tail := by
  cases l with
  | nil => simp at h
  | cons c r => rfl
theorem tail_zero {l : List Nat} (h : dirty l = false) : ∀ c ∈ l.tail, c = 0 := by
  unfold dirty at h
  rw [Bool.or_eq_false_iff] at h
  have h2 := h.2
  rw [List.any_eq_false] at h2
  intro c hc
  have := h2 c (by rw [List.drop_one]; exact hc)
  simpa using this
theorem byt_top (x : Fq) : (fN x).head? = some (byt x.val 47) := rfl
theorem fN_cons (x : Fq) : fN x = byt x.val 47 :: (fN x).tail := rfl
theorem formN1_of {q : Pt} {l : List Nat} (hq : q ≠ (0, 0)) (hx : fN q.1 = (b0 l % 32) :: l.tail) (h0 : 0 < l.length) (hb : b0 l < 256) (hs : sB (b0 l) = true) (hf : fB (b0 l) = false) (hg : lB (b0 l) = largeF q.2) : formN1 q = l := by
  have h1 := fN_cons q.1
  rw [hx] at h1
  have h2 : byt q.1.val 47 = b0 l % 32 := (List.cons.inj h1).1.symm
  have h3 : l.tail = (fN q.1).tail := by rw [hx]; rfl
  unfold formN1
  rw [h2, ← h3, decide_eq_false hq, ← hg, (one_at hb).1 hs hf]
  exact (head_tail h0).symm
theorem fullN1_of {q : Pt} {l : List Nat} (hq : q ≠ (0, 0)) (hx : fN q.1 ++ fN q.2 = (b0 l % 32) :: l.tail) (h0 : 0 < l.length) (hb : b0 l < 256) (hs : sB (b0 l) = false) (hf : fB (b0 l) = false) (hg : lB (b0 l) = false) : fullN1 q = l := by
  have h1 := fN_cons q.1
  have h2 : byt q.1.val 47 = b0 l % 32 := by
    rw [h1, List.cons_append] at hx
    exact (List.cons.inj hx).1
  have h3 : (fN q.1 ++ fN q.2).tail = l.tail := by rw [hx]; rfl
  unfold fullN1
  rw [h2, h3, decide_eq_false hq, ((one_at hb).2.1 hs hf hg).2]
  exact (head_tail h0).symm
theorem form_zero {l : List Nat} (hl : l.length = 48) (hb : b0 l < 256) (hs : sB (b0 l) = true) (hf : fB (b0 l) = true) (hg : lB (b0 l) = false) (hd : dirty l = false) : formN1 (0, 0) = l := by
  have hz : zB (b0 l) = false := by unfold dirty at hd; rw [Bool.or_eq_false_iff] at hd; exact hd.1
  have ht : l.tail = List.replicate 47 0 := List.eq_replicate_iff.2 ⟨by rw [List.length_tail]; omega, tail_zero hd⟩
  rw [head_tail (l := l) (by omega), (one_at hb).2.2.1 hs hf hg hz, ht]
  decide +kernel
theorem full_zero {l : List Nat} (hl : l.length = 96) (hb : b0 l < 256) (hs : sB (b0 l) = false) (hf : fB (b0 l) = true) (hg : lB (b0 l) = false) (hd : dirty l = false) : fullN1 (0, 0) = l := by
  have hz : zB (b0 l) = false := by unfold dirty at hd; rw [Bool.or_eq_false_iff] at hd; exact hd.1
  have ht : l.tail = List.replicate 95 0 := List.eq_replicate_iff.2 ⟨by rw [List.length_tail]; omega, tail_zero hd⟩
  rw [head_tail (l := l) (by omega), (one_at hb).2.2.2 hs hf hg hz, ht]
  decide +kernel
theorem readF_good {l : List Nat} {X : Fq × Int} (hX : X = readF l) (h : l.length = 48) (hs : ∀ c ∈ l, c < 256) (h2 : X.2 = 0) : fN X.1 = l := by
  subst hX
  by_cases h3 : beN l < pp
  · rw [readF_yes h h3]; exact fN_back h hs h3
  · rw [readF_no h h3] at h2; cases h2
structure OneOk (l : List Nat) (p : Pt) : Prop where
  o1 : inB p = true
  o2 : onB p = true
  o3 : l.length = 48 → formN1 p = l
  o4 : l.length = 96 → fullN1 p = l
theorem one1 {l : List Nat} {R : Pt × Int} (hsm : ∀ c ∈ l, c < 256) (hR : R = rd1 l) (h0 : R.2 = 0) : OneOk l R.1 := by
  by_cases hE : (markE l 48).1 = 0
  · obtain ⟨hbad, hnd⟩ := mark_good hE
    obtain ⟨hb1, hb2, hb3⟩ := bad_parts hbad
    have hlens := mark_lens hE
    have hpos : 0 < l.length := by omega
    have hb := b0_lt hsm hpos
    have hcs := cl_small hsm
    have hcl := cl_len hpos
    rcases hf : fB (b0 l) with _ | _
    · obtain ⟨X, hX⟩ : ∃ X, X = rx l := ⟨_, rfl⟩
      have hX0 : X.2 = 0 := by
        refine Classical.byContradiction fun h => ?_
        rw [rd1_x hX hE hf h] at hR
        rw [hR] at h0; exact h h0
      have hfX := readF_good (hX.trans (rx_eq l)) (rx_len (by omega)) (fun c hc => hcs c (List.mem_of_mem_take hc)) hX0
      by_cases h48 : 48 < l.length
      · have h96 : l.length = 96 := by omega
        have hs : sB (b0 l) = false := by rw [hb1]; exact decide_eq_false (by omega)
        obtain ⟨Y, hY⟩ : ∃ Y, Y = ry l := ⟨_, rfl⟩
        have hY0 : Y.2 = 0 := by
          refine Classical.byContradiction fun h => ?_
          rw [rd1_y hX hY hE hf hX0 h48 h] at hR
          rw [hR] at h0; exact h h0
        have hfY := readF_good (hY.trans (ry_eq l)) (ry_len h96) (fun c hc => hcs c (List.mem_of_mem_drop hc)) hY0
        rw [rd1_long hX hY hE hf hX0 h48 hY0] at hR
        rw [hR] at h0
        obtain ⟨g1, g2, g3, g4⟩ := fin_good h0
        rw [hR, g4]
        refine ⟨g3, g1, fun h => by omega, fun _ => fullN1_of g2 ?_ hpos hb hs hf (hb2 hs)⟩
        show fN X.1 ++ fN Y.1 = _
        rw [hfX, hfY, List.take_append_drop]; rfl
      · have h48' : l.length = 48 := by omega
        have hs : sB (b0 l) = true := by rw [hb1]; exact decide_eq_true h48'
        have hfX' : fN X.1 = (b0 l % 32) :: l.tail := by rw [hfX, List.take_of_length_le (by omega)]; rfl
        obtain ⟨sq, hsq⟩ : ∃ s, s = sqrtF (X.1 * X.1 * X.1 + Zp.of 4) := ⟨_, rfl⟩
        by_cases h5 : largeF sq.1 = lB (b0 l)
        · rw [rd1_pos hX hsq hE hf hX0 h48 h5] at hR
          rw [hR] at h0
          obtain ⟨g1, g2, g3, g4⟩ := fin_good h0
          rw [hR, g4]
          exact ⟨g3, (fin_of (q := (X.1, sq.1)) (sqrtF_sq hsq g1)).1, fun _ => formN1_of g2 hfX' hpos hb hs hf h5.symm, fun h => by omega⟩
        · rw [rd1_neg hX hsq hE hf hX0 h48 h5] at hR
          rw [hR] at h0
          obtain ⟨g1, g2, g3, g4⟩ := fin_good h0
          rw [hR, g4]
          have hroot := sqrtF_sq hsq g1
          have hne : sq.1 ≠ 0 := fun e => by
            rw [e] at hroot
            exact no_cube X.1 (by rw [← hroot]; exact (show (0 * 0) = 0 from ring_id (fun vi_ => vget vi_ []) (.mul .zero .zero) .zero (by kernel_rfl)))
          have hlg := large_neg hne
          refine ⟨g3, (fin_of (q := (X.1, 0 - sq.1)) (neg_sq hroot)).1, fun _ => formN1_of g2 hfX' hpos hb hs hf ?_, fun h => by omega⟩
          show lB (b0 l) = largeF (0 - sq.1)
          rw [hlg]
          revert h5
          cases largeF sq.1 <;> cases lB (b0 l) <;> simp
    · rw [rd1_far hE hf] at hR
      rw [hR]
      have hd : dirty l = false := by
        cases h : dirty l
        · rfl
        · exact absurd ⟨hf, h⟩ hnd
      exact ⟨(by decide +kernel : inB ((0, 0) : Pt) = true), (by decide +kernel : onB ((0, 0) : Pt) = true), fun h => form_zero h hb (by rw [hb1]; exact decide_eq_true h) hf (hb3 hf) hd, fun h => full_zero h hb (by rw [hb1]; exact decide_eq_false (by omega)) hf (hb3 hf) hd⟩
  · rw [rd1_mark hE] at hR
    rw [hR] at h0; exact absurd h0 hE
end Go.Cu

/- No other bytes are a point of the second group: what is read is what would be written. -/
namespace Go.Cw
open Go.Cu Go Go.Vm Go.Ec
set_option linter.unusedVariables false
set_option linter.unusedSimpArgs false
set_option linter.unusedSectionVars false
open CR
/-! ### The forms as numbers -/
def f2N (x : Fq2) : List Nat := fN x.b ++ fN x.a
theorem f2bytes_N (x : Fq2) : f2bytes x = bcells (f2N x) := by
  unfold f2bytes f2N
  rw [fbytes_N, fbytes_N]; unfold bcells; rw [List.map_append]
theorem f2N_len (x : Fq2) : (f2N x).length = 96 := by unfold f2N; rw [List.length_append, fN_len, fN_len]
theorem f2N_small (x : Fq2) : ∀ c ∈ f2N x, c < 256 := by
  intro c hc
  rcases List.mem_append.1 hc with h | h
  · exact fN_small _ _ h
  · exact fN_small _ _ h
theorem f2N_cons (x : Fq2) : f2N x = byt x.b.val 47 :: (f2N x).tail := rfl
theorem bcells_cat (l m : List Nat) : bcells l ++ bcells m = bcells (l ++ m) := by unfold bcells; rw [List.map_append]
def formN2 (p : Pt) : List Nat := mN (byt p.1.b.val 47) true (decide (p = (0, 0))) (large2 p.2) :: (f2N p.1).tail
theorem form2_N (p : Pt) : form2 p = bcells (formN2 p) := by
  unfold form2 formN2
  rw [(mN_ok _ _ _ _).1, f2bytes_N, bcells_tail]; rfl
theorem formN2_len (p : Pt) : (formN2 p).length = 96 := by unfold formN2; rw [List.length_cons, List.length_tail, f2N_len]
theorem formN2_small (p : Pt) : ∀ c ∈ formN2 p, c < 256 := by
  intro c hc
  unfold formN2 at hc
  rcases List.mem_cons.1 hc with rfl | h
  · exact (mN_ok _ _ _ _).2
  · exact f2N_small _ _ (List.mem_of_mem_tail h)
def fullN2 (p : Pt) : List Nat := mN (byt p.1.b.val 47) false (decide (p = (0, 0))) false :: (f2N p.1 ++ f2N p.2).tail
theorem full2_N (p : Pt) : full2 p = bcells (fullN2 p) := by
  unfold full2 fullN2 two2
  rw [(mN_ok _ _ _ _).1, f2bytes_N, f2bytes_N, bcells_cat, bcells_tail]; rfl
theorem fullN2_len (p : Pt) : (fullN2 p).length = 192 := by unfold fullN2; rw [List.length_cons, List.length_tail, List.length_append, f2N_len, f2N_len]
theorem fullN2_small (p : Pt) : ∀ c ∈ fullN2 p, c < 256 := by
  intro c hc
  unfold fullN2 at hc
  rcases List.mem_cons.1 hc with rfl | h
  · exact (mN_ok _ _ _ _).2
  · rcases List.mem_append.1 (List.mem_of_mem_tail h) with h | h
    · exact f2N_small _ _ h
    · exact f2N_small _ _ h
/-! ### Greater and less -/
theorem large2_neg {s : Fq2} (h : s ≠ 0) : large2 (0 - s) = !large2 s := by
  obtain ⟨a, b⟩ := s
  have e : (0 - ⟨a, b⟩ : Fq2) = ⟨0 - a, 0 - b⟩ := rfl
  rw [e]
  unfold large2
  by_cases hb : b = 0
  · have hb' : (0 - b : Fq) = 0 := by rw [hb]; exact (show (0 - 0) = 0 from ring_id (fun vi_ => vget vi_ []) (.sub .zero .zero) .zero (by kernel_rfl))
    rw [if_pos hb, if_pos hb']
    exact large_neg fun ha => h (by rw [ha, hb]; rfl)
  · have hb' : (0 - b : Fq) ≠ 0 := fun e => hb (eq_of_sub (Eq.trans (show (b - 0) = ((0 - 1) * ((0 - b) - 0)) from ring_id (fun vi_ => vget vi_ [b]) (.sub (.var 0) .zero) (.mul (.sub .zero .one) (.sub (.sub .zero (.var 0)) .zero)) (by kernel_rfl)) (lz e)))
    rw [if_neg hb, if_neg hb']
    exact large_neg hb
/-- Minus four and minus four i are no cube. -/
theorem norm2_mul (x y : Fq2) : norm2 (x * y) = norm2 x * norm2 y :=
  show (x.a * y.a - x.b * y.b) * (x.a * y.a - x.b * y.b) + ((x.a + x.b) * (y.a + y.b) - x.a * y.a - x.b * y.b) * ((x.a + x.b) * (y.a + y.b) - x.a * y.a - x.b * y.b) = (x.a * x.a + x.b * x.b) * (y.a * y.a + y.b * y.b) from
  (show ((((x.a * y.a) - (x.b * y.b)) * ((x.a * y.a) - (x.b * y.b))) + (((((x.a + x.b) * (y.a + y.b)) - (x.a * y.a)) - (x.b * y.b)) * ((((x.a + x.b) * (y.a + y.b)) - (x.a * y.a)) - (x.b * y.b)))) = (((x.a * x.a) + (x.b * x.b)) * ((y.a * y.a) + (y.b * y.b))) from ring_id (fun vi_ => vget vi_ [x.a, x.b, y.a, y.b]) (.add (.mul (.sub (.mul (.var 0) (.var 2)) (.mul (.var 1) (.var 3))) (.sub (.mul (.var 0) (.var 2)) (.mul (.var 1) (.var 3)))) (.mul (.sub (.sub (.mul (.add (.var 0) (.var 1)) (.add (.var 2) (.var 3))) (.mul (.var 0) (.var 2))) (.mul (.var 1) (.var 3))) (.sub (.sub (.mul (.add (.var 0) (.var 1)) (.add (.var 2) (.var 3))) (.mul (.var 0) (.var 2))) (.mul (.var 1) (.var 3))))) (.mul (.add (.mul (.var 0) (.var 0)) (.mul (.var 1) (.var 1))) (.add (.mul (.var 2) (.var 2)) (.mul (.var 3) (.var 3)))) (by kernel_rfl))
theorem no_cube32 (x : Fq) : x * x * x ≠ Zp.of 32 := by
  intro h1
  have hx : x ≠ 0 := by
    rintro rfl
    exact (by decide +kernel : (0 : Fq) * 0 * 0 ≠ Zp.of 32) h1
  have h2 := fermat prime_pp hx
  rw [show pp - 1 = 3 * ((pp - 1) / 3) by decide +kernel, ← cube_pw, h1] at h2
  have h3 := congrArg Zp.val h2
  rw [pw_val, ← pmod_ok pp 400 32 ((pp - 1) / 3) (by decide +kernel)] at h3
  exact (by decide +kernel : pmod pp 400 32 ((pp - 1) / 3) ≠ (1 : Fq).val) h3
theorem no_cube2 (x : Fq2) : x * x * x + small 4 4 ≠ 0 := by
  intro h
  have h1 : x * x * x = 0 - small 4 4 := by
    obtain ⟨c, hc⟩ : ∃ c, c = small 4 4 := ⟨_, rfl⟩
    rw [← hc] at h ⊢
    exact (eq_of_sub (Eq.trans (show (((x * x) * x) - (0 - c)) = (1 * ((((x * x) * x) + c) - 0)) from ring_id (fun vi_ => vget vi_ [x, c]) (.sub (.mul (.mul (.var 0) (.var 0)) (.var 0)) (.sub .zero (.var 1))) (.mul .one (.sub (.add (.mul (.mul (.var 0) (.var 0)) (.var 0)) (.var 1)) .zero)) (by kernel_rfl)) (lz h)))
  have h2 := congrArg norm2 h1
  rw [norm2_mul, norm2_mul, show norm2 (0 - small 4 4) = Zp.of 32 from by decide +kernel] at h2
  exact no_cube32 _ h2
/-! ### The law -/
theorem fin_good {p : Pt} {ok : Bool} (h : (fin1 p ok).2 = 0) : ok = true ∧ p ≠ (0, 0) ∧ inB p = true ∧ (fin1 p ok).1 = p := by
  unfold fin1 at h ⊢
  split at h
  · cases h
  · rename_i h1
    split at h
    · cases h
    · rename_i h2
      rw [if_neg h1, if_neg h2]
      refine ⟨?_, fun e => h1 (.inr e), ?_, rfl⟩
      · cases ok
        · exact absurd (.inl rfl) h1
        · rfl
      · cases hb : inB p
        · exact absurd hb h2
        · rfl
theorem formN2_of {q : Pt} {l : List Nat} (hq : q ≠ (0, 0)) (hx : f2N q.1 = (b0 l % 32) :: l.tail) (h0 : 0 < l.length) (hb : b0 l < 256) (hs : sB (b0 l) = true) (hf : fB (b0 l) = false) (hg : lB (b0 l) = large2 q.2) : formN2 q = l := by
  have h1 := f2N_cons q.1
  rw [hx] at h1
  have h2 : byt q.1.b.val 47 = b0 l % 32 := (List.cons.inj h1).1.symm
  have h3 : l.tail = (f2N q.1).tail := by rw [hx]; rfl
  unfold formN2
  rw [h2, ← h3, decide_eq_false hq, ← hg, (one_at hb).1 hs hf]
  exact (head_tail h0).symm
theorem fullN2_of {q : Pt} {l : List Nat} (hq : q ≠ (0, 0)) (hx : f2N q.1 ++ f2N q.2 = (b0 l % 32) :: l.tail) (h0 : 0 < l.length) (hb : b0 l < 256) (hs : sB (b0 l) = false) (hf : fB (b0 l) = false) (hg : lB (b0 l) = false) : fullN2 q = l := by
  have h1 := f2N_cons q.1
  have h2 : byt q.1.b.val 47 = b0 l % 32 := by
    rw [h1, List.cons_append] at hx
    exact (List.cons.inj hx).1
  have h3 : (f2N q.1 ++ f2N q.2).tail = l.tail := by rw [hx]; rfl
  unfold fullN2
  rw [h2, h3, decide_eq_false hq, ((one_at hb).2.1 hs hf hg).2]
  exact (head_tail h0).symm
theorem form_zero2 {l : List Nat} (hl : l.length = 96) (hb : b0 l < 256) (hs : sB (b0 l) = true) (hf : fB (b0 l) = true) (hg : lB (b0 l) = false) (hd : dirty l = false) : formN2 (0, 0) = l := by
  have hz : zB (b0 l) = false := by unfold dirty at hd; rw [Bool.or_eq_false_iff] at hd; exact hd.1
  have ht : l.tail = List.replicate 95 0 := List.eq_replicate_iff.2 ⟨by rw [List.length_tail]; omega, tail_zero hd⟩
  rw [head_tail (l := l) (by omega), (one_at hb).2.2.1 hs hf hg hz, ht]
  decide +kernel
theorem full_zero2 {l : List Nat} (hl : l.length = 192) (hb : b0 l < 256) (hs : sB (b0 l) = false) (hf : fB (b0 l) = true) (hg : lB (b0 l) = false) (hd : dirty l = false) : fullN2 (0, 0) = l := by
  have hz : zB (b0 l) = false := by unfold dirty at hd; rw [Bool.or_eq_false_iff] at hd; exact hd.1
  have ht : l.tail = List.replicate 191 0 := List.eq_replicate_iff.2 ⟨by rw [List.length_tail]; omega, tail_zero hd⟩
  rw [head_tail (l := l) (by omega), (one_at hb).2.2.2 hs hf hg hz, ht]
  decide +kernel
theorem read2_good {l : List Nat} {X : Fq2 × Int} (hX : X = read2 l) (h : l.length = 96) (hs : ∀ c ∈ l, c < 256) (h2 : X.2 = 0) : f2N X.1 = l := by
  subst hX
  by_cases h1 : (readF (l.take 48)).2 = 0
  · by_cases h3 : (readF (l.drop 48)).2 = 0
    · rw [read2_yes h h1 h3]
      show fN (readF (l.take 48)).1 ++ fN (readF (l.drop 48)).1 = l
      rw [readF_good rfl (by rw [List.length_take]; omega) (fun c hc => hs c (List.mem_of_mem_take hc)) h1, readF_good rfl (by rw [List.length_drop]; omega) (fun c hc => hs c (List.mem_of_mem_drop hc)) h3, List.take_append_drop]
    · rw [read2_no h (.inr h3)] at h2; cases h2
  · rw [read2_no h (.inl h1)] at h2; cases h2
structure OneOk (l : List Nat) (p : Pt) : Prop where
  o1 : inB p = true
  o2 : onB p = true
  o3 : l.length = 96 → formN2 p = l
  o4 : l.length = 192 → fullN2 p = l
theorem one2 {l : List Nat} {R : Pt × Int} (hsm : ∀ c ∈ l, c < 256) (hR : R = rd1 l) (h0 : R.2 = 0) : OneOk l R.1 := by
  by_cases hE : (markE l 96).1 = 0
  · obtain ⟨hbad, hnd⟩ := mark_good hE
    obtain ⟨hb1, hb2, hb3⟩ := bad_parts hbad
    have hlens := mark_lens hE
    have hpos : 0 < l.length := by omega
    have hb := b0_lt hsm hpos
    have hcs := cl_small hsm
    have hcl := cl_len hpos
    rcases hf : fB (b0 l) with _ | _
    · obtain ⟨X, hX⟩ : ∃ X, X = rx l := ⟨_, rfl⟩
      have hX0 : X.2 = 0 := by
        refine Classical.byContradiction fun h => ?_
        rw [rd1_x hX hE hf h] at hR
        rw [hR] at h0; exact h h0
      have hfX := read2_good (hX.trans (rx_eq l)) (rx_len (by omega)) (fun c hc => hcs c (List.mem_of_mem_take hc)) hX0
      by_cases h48 : 96 < l.length
      · have h96 : l.length = 192 := by omega
        have hs : sB (b0 l) = false := by rw [hb1]; exact decide_eq_false (by omega)
        obtain ⟨Y, hY⟩ : ∃ Y, Y = ry l := ⟨_, rfl⟩
        have hY0 : Y.2 = 0 := by
          refine Classical.byContradiction fun h => ?_
          rw [rd1_y hX hY hE hf hX0 h48 h] at hR
          rw [hR] at h0; exact h h0
        have hfY := read2_good (hY.trans (ry_eq l)) (ry_len h96) (fun c hc => hcs c (List.mem_of_mem_drop hc)) hY0
        rw [rd1_long hX hY hE hf hX0 h48 hY0] at hR
        rw [hR] at h0
        obtain ⟨g1, g2, g3, g4⟩ := fin_good h0
        rw [hR, g4]
        refine ⟨g3, g1, fun h => by omega, fun _ => fullN2_of g2 ?_ hpos hb hs hf (hb2 hs)⟩
        show f2N X.1 ++ f2N Y.1 = _
        rw [hfX, hfY, List.take_append_drop]; rfl
      · have h48' : l.length = 96 := by omega
        have hs : sB (b0 l) = true := by rw [hb1]; exact decide_eq_true h48'
        have hfX' : f2N X.1 = (b0 l % 32) :: l.tail := by rw [hfX, List.take_of_length_le (by omega)]; rfl
        obtain ⟨sq, hsq⟩ : ∃ s, s = sqrt2 (X.1 * X.1 * X.1 + small 4 4) := ⟨_, rfl⟩
        by_cases h5 : large2 sq.1 = lB (b0 l)
        · rw [rd1_pos hX hsq hE hf hX0 h48 h5] at hR
          rw [hR] at h0
          obtain ⟨g1, g2, g3, g4⟩ := fin_good h0
          rw [hR, g4]
          exact ⟨g3, (fin_of (q := (X.1, sq.1)) (sqrt2_sq hsq g1)).1, fun _ => formN2_of g2 hfX' hpos hb hs hf h5.symm, fun h => by omega⟩
        · rw [rd1_neg hX hsq hE hf hX0 h48 h5] at hR
          rw [hR] at h0
          obtain ⟨g1, g2, g3, g4⟩ := fin_good h0
          rw [hR, g4]
          have hroot := sqrt2_sq hsq g1
          have hne : sq.1 ≠ 0 := fun e => by
            rw [e] at hroot
            exact no_cube2 X.1 (by rw [← hroot]; exact (show (0 * 0) = 0 from ring_id (fun vi_ => vget vi_ []) (.mul .zero .zero) .zero (by kernel_rfl)))
          have hlg := large2_neg hne
          refine ⟨g3, (fin_of (q := (X.1, 0 - sq.1)) (neg_sq hroot)).1, fun _ => formN2_of g2 hfX' hpos hb hs hf ?_, fun h => by omega⟩
          show lB (b0 l) = large2 (0 - sq.1)
          rw [hlg]
          revert h5
          cases large2 sq.1 <;> cases lB (b0 l) <;> simp
    · rw [rd1_far hE hf] at hR
      rw [hR]
      have hd : dirty l = false := by
        cases h : dirty l
        · rfl
        · exact absurd ⟨hf, h⟩ hnd
      exact ⟨(by decide +kernel : inB ((0, 0) : Pt) = true), (by decide +kernel : onB ((0, 0) : Pt) = true), fun h => form_zero2 h hb (by rw [hb1]; exact decide_eq_true h) hf (hb3 hf) hd, fun h => full_zero2 h hb (by rw [hb1]; exact decide_eq_false (by omega)) hf (hb3 hf) hd⟩
  · rw [rd1_mark hE] at hR
    rw [hR] at h0; exact absurd h0 hE
end Go.Cw

/- CodecOneForm: the walk. Conditions: what the document fixes of forms. -/
namespace Go.Cw
open Go Go.Vm Go.RowKit Go.Proofs Go.Cu
attribute [local irreducible] W OpsW Det Fresh New Writes Vm.Pure Makes Changes ExternTo BuildTo ZeroTo FieldTo IndexTo BinTo SliceTo Vm.Enters
set_option linter.unusedVariables false
set_option linter.unusedSimpArgs false
variable {T : Nat → TypeId × Nat × Nat}

theorem rd_name1 {l : List Nat} {R : Cu.Pt × Int} (h : R = Cu.rd1 l) : Value.tuple #[Cu.encP (Cu.rd1 l).1, .int .i64 (Cu.rd1 l).2] = .tuple #[Cu.encP R.1, .int .i64 R.2] := by rw [h]
theorem rd_name2 {l : List Nat} {R : Pt × Int} (h : R = rd1 l) : Value.tuple #[encP (rd1 l).1, .int .i64 (rd1 l).2] = .tuple #[encP R.1, .int .i64 R.2] := by rw [h]
/-- A whole array of bytes as a slice. -/
theorem Bs_arr {b n : Nat} {t : TypeId} {l : List Nat} {cs : List Value} (h : cs = bcells l) (hn : l.length = n) (hs : ∀ c ∈ l, c < 256) : Bs [(b, blk cs t)] (.slice (some ⟨b, 0, none⟩) n n) l := by
  subst h; subst hn
  have := Bs.of (l := l) (b := b) (cap := l.length) (spare := []) (e := t) (fr := (0, 0)) hs (Nat.le_refl _)
  rw [List.append_nil] at this
  exact this
theorem en34o : Vm.Enters Tryd.prog 34 := Vm.Enters.of fun _ _ => by kernel_rfl
theorem en37o : Vm.Enters Tryd.prog 37 := Vm.Enters.of fun _ _ => by kernel_rfl
theorem en24o : Vm.Enters Tryd.prog 24 := Vm.Enters.of fun _ _ => by kernel_rfl
theorem eq_of_beq0 {a : Int} (h : (a == 0) = true) : a = 0 := by simpa using h
attribute [local irreducible] sqrtF readF sqrt2 read2 inB Cu.inB rd1 Cu.rd1 markE onB Cu.onB form2 form1 full2 Cw.full1 formN1 fullN1 formN2 fullN2

theorem en35 : Vm.Enters Tryd.prog 35 := Vm.Enters.of fun _ _ => by kernel_rfl
theorem en38 : Vm.Enters Tryd.prog 38 := Vm.Enters.of fun _ _ => by kernel_rfl
set_option maxHeartbeats 8000000 in
set_option maxRecDepth 100000 in
theorem CodecOneForm_ok {G' : Hp} {v v2 : Value} {l m : List Nat} (hB : Bs G' v l) (hB2 : Bs G' v2 m) (h09 : ∀ {w : World}, Blocks (GH T) w → Vm.Pure Tryd.prog 9 #[] w (.bool true)) {w : World} (hG : Blocks (G' ++ GH T) w)  : Vm.Pure Tryd.prog 5 #[v, v2] w (.bool true) := by
  obtain ⟨ad, cap, hvv⟩ := hB.shape
  obtain ⟨ad2, cap2, hvv2⟩ := hB2.shape
  refine pure_of_W (n := 105) (args := [v, v2]) Tryd.func5 rfl Tryd.ntmps5 (Nat.le_of_ble_eq_true rfl) hG ?_
  refine sStart ?_
  refine sSeq ?_
  subst hvv
  subst hvv2
  refine W.region ?_
  refine OpsW.det (det_assign rfl) rfl ?_
  refine sNext ?_
  refine W.keep (F' := [(0, _), (1, _)]) ⟨rfl, rfl, trivial⟩ ?_
  refine sSeq ?_
  refine sSeq ?_
  refine W.region ?_
  refine OpsW.det (det_call en9 rfl (fun w hb ho => h09 (fun p hp => ho.look (List.mem_append_right _ hp)))) rfl ?_
  refine OpsW.det (det_not rfl) rfl ?_
  refine sNext ?_
  refine W.keep (F' := [(14, _), (0, _), (1, _)]) ⟨rfl, rfl, rfl, trivial⟩ ?_
  refine W.cond_false rfl ?_
  refine sSkip ?_
  refine sSeq ?_
  refine sSeq ?_
  refine W.region ?_
  refine OpsW.det (det_move rfl) rfl ?_
  refine OpsW.test (det_call en10 rfl (fun w hb ho => long09_ok (fun p hp => ho.look (List.mem_append_right _ hp)))) rfl (fun hc16 => ?_) (fun hc16 => ?_)
  · skip
    refine OpsW.det (det_move rfl) rfl ?_
    refine OpsW.guard_no rfl rfl rfl ?_
    refine OpsW.guard_no rfl rfl rfl ?_
    refine OpsW.det (det_pick rfl rfl) rfl ?_
    refine sNext ?_
    refine W.keep (F' := [(20, _), (0, _), (1, _)]) ⟨rfl, rfl, rfl, trivial⟩ ?_
    refine W.cond_true rfl ?_
    refine sSeq ?_
    refine W.region ?_
    refine OpsW.det (det_assign rfl) rfl ?_
    refine sNext ?_
    refine W.keep (F' := [(4, _)]) ⟨rfl, trivial⟩ ?_
    refine sRet ?_
    exact done1 Tryd.results5 (rv_tmp rfl) rfl
  · skip
    have hl : l.length ≤ 400 := by have h := hc16; simp only [decide_eq_false_iff_not] at h; omega
    refine OpsW.det (det_move rfl) rfl ?_
    refine OpsW.guard_yes rfl rfl ?_
    refine OpsW.det (det_move rfl) rfl ?_
    refine OpsW.guard_yes rfl rfl ?_
    refine OpsW.det (det_call en10 rfl (fun w hb ho => long09_ok (fun p hp => ho.look (List.mem_append_right _ hp)))) rfl ?_
    refine OpsW.det (det_pick rfl rfl) rfl ?_
    refine sNext ?_
    refine W.keep (F' := [(20, _), (0, _), (1, _)]) ⟨rfl, rfl, rfl, trivial⟩ ?_
    refine W.cond rfl (fun hc20 => ?_) (fun hc20 => ?_)
    · skip
      refine sSeq ?_
      refine W.region ?_
      refine OpsW.det (det_assign rfl) rfl ?_
      refine sNext ?_
      refine W.keep (F' := [(4, _)]) ⟨rfl, trivial⟩ ?_
      refine sRet ?_
      exact done1 Tryd.results5 (rv_tmp rfl) rfl
    · skip
      have hm : m.length ≤ 400 := by have h := hc20; simp only [decide_eq_false_iff_not] at h; omega
      refine sSkip ?_
      refine sSeq ?_
      obtain ⟨R, hR⟩ : ∃ R, R = Cu.rd1 l := ⟨_, rfl⟩
      refine W.region ?_
      refine OpsW.det (det_move rfl) rfl ?_
      refine OpsW.new (new_call en11 rfl (fun w hb ho => Copy_ok (G' := G') (l := l) hB (by omega) ho.blocks)) rfl fun p23 hp23 => ?_
      refine OpsW.norm (F' := [(23, .slice (some ⟨p23.1, 0, none⟩) l.length l.length), (22, _), (20, _), (0, _), (1, _)]) (H' := [(p23.1, blk (bcells l ++ []) 5)]) rfl rfl ?_
      refine OpsW.det ((det_call en12 rfl (fun w hb ho => ReadG1_ok (G' := [(p23.1, blk (bcells l ++ []) 5)]) (l := l) (Bs.of hB.small (Nat.le_refl _)) (by omega) (blocks_cons (hb _ (by repeat (first | exact List.Mem.head _ | apply List.Mem.tail))) (fun p hp => ho.look (List.mem_append_right _ hp))))).to (v := .tuple #[Cu.encP R.1, .int .i64 R.2]) (rd_name1 hR)) rfl ?_
      refine OpsW.det (det_move rfl) rfl ?_
      refine OpsW.det (det_extract rfl rfl) rfl ?_
      refine OpsW.det (det_extract rfl rfl) rfl ?_
      refine OpsW.fresh (fr_alloc z31r) rfl fun b5 => ?_
      refine OpsW.store sz31 rfl rfl rfl rfl rfl (Upd.here) rfl ?_
      refine OpsW.det (det_assign rfl) rfl ?_
      refine sNext ?_
      refine W.keep (F' := [(6, _), (5, _), (0, _), (1, _)]) ⟨rfl, rfl, rfl, rfl, trivial⟩ ?_
      refine sSeq ?_
      refine sSeq ?_
      refine W.region ?_
      refine OpsW.det (det_move rfl) rfl ?_
      refine OpsW.det (det_eql rfl rfl) rfl ?_
      refine sNext ?_
      refine W.keep (F' := [(28, _), (5, _), (0, _), (1, _)]) ⟨rfl, rfl, rfl, rfl, trivial⟩ ?_
      refine sCut (σ := Unit) (fun _s => [(1, .slice ad2 m.length cap2)]) (fun _s => []) (fun _s => True) ?_ ?_
      · skip
        refine W.cond rfl (fun hc28 => ?_) (fun hc28 => ?_)
        · skip
          have hOk := one1 hB.small hR (eq_of_beq0 hc28)
          refine sSeq ?_
          refine W.region ?_
          refine OpsW.det (det_loadA ty31 rfl (List.Mem.head _) rfl) rfl ?_
          refine OpsW.det (det_call en34o rfl (fun w hb ho => Cu.CG1_ok (fun p hp => ho.look (List.mem_append_right _ hp)))) rfl ?_
          refine OpsW.fresh (fr_alloc z58) rfl fun b7 => ?_
          refine OpsW.store sz58 rfl rfl rfl (form1_len _) (form1_one _) (Upd.here) (splice_all (by rw [form1_len, fst6_len (Nat.zero_le _)])) ?_
          refine sNext ?_
          refine W.keep (F' := [(7, _), (5, _), (0, _), (1, _)]) ⟨rfl, rfl, rfl, rfl, trivial⟩ ?_
          refine sSeq ?_
          refine W.region ?_
          refine OpsW.det (det_loadA ty31 rfl (List.Mem.tail _ (List.Mem.head _)) rfl) rfl ?_
          refine OpsW.det (det_call en35 rfl (fun w hb ho => CFull1_ok (fun p hp => ho.look (List.mem_append_right _ hp)))) rfl ?_
          refine OpsW.fresh (fr_alloc z60) rfl fun b8 => ?_
          refine OpsW.store sz60 rfl rfl rfl (full1_len _) (full1_one _) (Upd.here) (splice_all (by rw [full1_len, zer96_len])) ?_
          refine sNext ?_
          refine W.keep (F' := [(8, _), (7, _), (5, _), (0, _), (1, _)]) ⟨rfl, rfl, rfl, rfl, rfl, trivial⟩ ?_
          refine sSeq ?_
          refine W.region ?_
          refine OpsW.det (det_loadA ty31 rfl (List.Mem.tail _ (List.Mem.tail _ (List.Mem.head _))) rfl) rfl ?_
          refine OpsW.det (Det.to (det_call en20 rfl (fun w hb ho => Cu.PIn_ok (fun p hp => ho.look (List.mem_append_right _ hp)))) (congrArg Value.bool (hOk.o1))) rfl ?_
          refine OpsW.det (det_not rfl) rfl ?_
          refine OpsW.det (det_move rfl) rfl ?_
          refine OpsW.guard_yes rfl rfl ?_
          refine OpsW.det (det_loadA ty31 rfl (List.Mem.tail _ (List.Mem.tail _ (List.Mem.head _))) rfl) rfl ?_
          refine OpsW.guard_yes rfl rfl ?_
          refine OpsW.det (Det.to (det_call en36 rfl (fun w hb ho => Cu.POn_ok (fun p hp => ho.look (List.mem_append_right _ hp)))) (congrArg Value.bool (hOk.o2))) rfl ?_
          refine OpsW.guard_yes rfl rfl ?_
          refine OpsW.det (det_not rfl) rfl ?_
          refine OpsW.det (det_pick rfl rfl) rfl ?_
          refine OpsW.det (det_move rfl) rfl ?_
          refine OpsW.guard_yes rfl rfl ?_
          refine OpsW.det (det_move rfl) rfl ?_
          refine OpsW.guard_yes rfl rfl ?_
          refine OpsW.det (det_len u22 rfl) rfl ?_
          refine OpsW.guard_yes rfl rfl ?_
          refine OpsW.test (det_eql rfl rfl) rfl (fun hc44 => ?_) (fun hc44 => ?_)
          · skip
            refine OpsW.guard_yes rfl rfl ?_
            refine OpsW.det (det_move rfl) rfl ?_
            refine OpsW.guard_yes rfl rfl ?_
            refine OpsW.det ((det_sliceArr (lo := none) (hi := none) (l := 0) (h := 48) u58 sz5 rfl rfl rfl (by decide) (by decide)).to (v := .slice (some ⟨b7, 0, none⟩) 48 48) rfl) rfl ?_
            refine OpsW.guard_yes rfl rfl ?_
            refine OpsW.det (det_move rfl) rfl ?_
            refine OpsW.guard_yes rfl rfl ?_
            refine OpsW.det (Det.to (det_call en13 rfl (fun w hb ho => same_ok (G' := (b7, blk (form1 R.1) 58) :: G') (l := formN1 R.1) (l2 := l) ((Bs_arr (b := b7) (t := 58) (form1_N _) (formN1_len _) (formN1_small _)).mono fun p hp => by rw [List.mem_singleton.1 hp]; exact List.Mem.head _) (hB.mono fun p hp => List.mem_cons_of_mem _ hp) (by rw [formN1_len]; decide) (blocks_cons (hb _ (by repeat (first | exact List.Mem.head _ | apply List.Mem.tail))) ho.blocks))) (congrArg Value.bool (decide_eq_true (hOk.o3 (by have h := hc44; simp at h; omega))))) rfl ?_
            refine OpsW.guard_yes rfl rfl ?_
            refine OpsW.det (det_not rfl) rfl ?_
            refine OpsW.guard_yes rfl rfl ?_
            refine OpsW.det (det_pick rfl rfl) rfl ?_
            refine OpsW.det (det_pick rfl rfl) rfl ?_
            refine OpsW.det (det_move rfl) rfl ?_
            refine OpsW.guard_yes rfl rfl ?_
            refine OpsW.det (det_move rfl) rfl ?_
            refine OpsW.guard_yes rfl rfl ?_
            refine OpsW.det (det_len u22 rfl) rfl ?_
            refine OpsW.guard_yes rfl rfl ?_
            refine OpsW.test (det_eql rfl rfl) rfl (fun hc55 => ?_) (fun hc55 => ?_)
            · skip
              refine OpsW.guard_yes rfl rfl ?_
              refine OpsW.det (det_move rfl) rfl ?_
              refine OpsW.guard_yes rfl rfl ?_
              refine OpsW.det ((det_sliceArr (lo := none) (hi := none) (l := 0) (h := 96) u60 sz5 rfl rfl rfl (by decide) (by decide)).to (v := .slice (some ⟨b8, 0, none⟩) 96 96) rfl) rfl ?_
              refine OpsW.guard_yes rfl rfl ?_
              refine OpsW.det (det_move rfl) rfl ?_
              refine OpsW.guard_yes rfl rfl ?_
              refine OpsW.det (Det.to (det_call en13 rfl (fun w hb ho => same_ok (G' := (b8, blk (full1 R.1) 60) :: G') (l := fullN1 R.1) (l2 := l) ((Bs_arr (b := b8) (t := 60) (full1_N _) (fullN1_len _) (fullN1_small _)).mono fun p hp => by rw [List.mem_singleton.1 hp]; exact List.Mem.head _) (hB.mono fun p hp => List.mem_cons_of_mem _ hp) (by rw [fullN1_len]; decide) (blocks_cons (hb _ (by repeat (first | exact List.Mem.head _ | apply List.Mem.tail))) ho.blocks))) (congrArg Value.bool (decide_eq_true (hOk.o4 (by have h := hc55; simp at h; omega))))) rfl ?_
              refine OpsW.guard_yes rfl rfl ?_
              refine OpsW.det (det_not rfl) rfl ?_
              refine OpsW.guard_yes rfl rfl ?_
              refine OpsW.det (det_pick rfl rfl) rfl ?_
              refine OpsW.det (det_pick rfl rfl) rfl ?_
              refine sNext ?_
              refine W.keep (F' := [(62, _), (1, _)]) ⟨rfl, rfl, trivial⟩ ?_
              refine W.cond_false rfl ?_
              refine sSkip0 ?_
              refine cutOk () trivial ⟨rfl, trivial⟩ ?_
              repeat (first | exact List.Sublist.refl _ | exact List.nil_sublist _ | refine List.Sublist.cons_cons _ ?_ | refine List.Sublist.cons _ ?_)
            · skip
              refine OpsW.guard_yes rfl rfl ?_
              refine OpsW.det (det_move rfl) rfl ?_
              refine OpsW.guard_no rfl rfl rfl ?_
              refine OpsW.guard_no rfl rfl rfl ?_
              refine OpsW.guard_no rfl rfl rfl ?_
              refine OpsW.guard_no rfl rfl rfl ?_
              refine OpsW.guard_yes rfl rfl ?_
              refine OpsW.det (det_pick rfl rfl) rfl ?_
              refine OpsW.det (det_pick rfl rfl) rfl ?_
              refine sNext ?_
              refine W.keep (F' := [(62, _), (1, _)]) ⟨rfl, rfl, trivial⟩ ?_
              refine W.cond_false rfl ?_
              refine sSkip0 ?_
              refine cutOk () trivial ⟨rfl, trivial⟩ ?_
              repeat (first | exact List.Sublist.refl _ | exact List.nil_sublist _ | refine List.Sublist.cons_cons _ ?_ | refine List.Sublist.cons _ ?_)
          · skip
            refine OpsW.guard_yes rfl rfl ?_
            refine OpsW.det (det_move rfl) rfl ?_
            refine OpsW.guard_no rfl rfl rfl ?_
            refine OpsW.guard_no rfl rfl rfl ?_
            refine OpsW.guard_no rfl rfl rfl ?_
            refine OpsW.guard_no rfl rfl rfl ?_
            refine OpsW.guard_yes rfl rfl ?_
            refine OpsW.det (det_pick rfl rfl) rfl ?_
            refine OpsW.det (det_pick rfl rfl) rfl ?_
            refine OpsW.det (det_move rfl) rfl ?_
            refine OpsW.guard_yes rfl rfl ?_
            refine OpsW.det (det_move rfl) rfl ?_
            refine OpsW.guard_yes rfl rfl ?_
            refine OpsW.det (det_len u22 rfl) rfl ?_
            refine OpsW.guard_yes rfl rfl ?_
            refine OpsW.test (det_eql rfl rfl) rfl (fun hc55 => ?_) (fun hc55 => ?_)
            · skip
              refine OpsW.guard_yes rfl rfl ?_
              refine OpsW.det (det_move rfl) rfl ?_
              refine OpsW.guard_yes rfl rfl ?_
              refine OpsW.det ((det_sliceArr (lo := none) (hi := none) (l := 0) (h := 96) u60 sz5 rfl rfl rfl (by decide) (by decide)).to (v := .slice (some ⟨b8, 0, none⟩) 96 96) rfl) rfl ?_
              refine OpsW.guard_yes rfl rfl ?_
              refine OpsW.det (det_move rfl) rfl ?_
              refine OpsW.guard_yes rfl rfl ?_
              refine OpsW.det (Det.to (det_call en13 rfl (fun w hb ho => same_ok (G' := (b8, blk (full1 R.1) 60) :: G') (l := fullN1 R.1) (l2 := l) ((Bs_arr (b := b8) (t := 60) (full1_N _) (fullN1_len _) (fullN1_small _)).mono fun p hp => by rw [List.mem_singleton.1 hp]; exact List.Mem.head _) (hB.mono fun p hp => List.mem_cons_of_mem _ hp) (by rw [fullN1_len]; decide) (blocks_cons (hb _ (by repeat (first | exact List.Mem.head _ | apply List.Mem.tail))) ho.blocks))) (congrArg Value.bool (decide_eq_true (hOk.o4 (by have h := hc55; simp at h; omega))))) rfl ?_
              refine OpsW.guard_yes rfl rfl ?_
              refine OpsW.det (det_not rfl) rfl ?_
              refine OpsW.guard_yes rfl rfl ?_
              refine OpsW.det (det_pick rfl rfl) rfl ?_
              refine OpsW.det (det_pick rfl rfl) rfl ?_
              refine sNext ?_
              refine W.keep (F' := [(62, _), (1, _)]) ⟨rfl, rfl, trivial⟩ ?_
              refine W.cond_false rfl ?_
              refine sSkip0 ?_
              refine cutOk () trivial ⟨rfl, trivial⟩ ?_
              repeat (first | exact List.Sublist.refl _ | exact List.nil_sublist _ | refine List.Sublist.cons_cons _ ?_ | refine List.Sublist.cons _ ?_)
            · skip
              refine OpsW.guard_yes rfl rfl ?_
              refine OpsW.det (det_move rfl) rfl ?_
              refine OpsW.guard_no rfl rfl rfl ?_
              refine OpsW.guard_no rfl rfl rfl ?_
              refine OpsW.guard_no rfl rfl rfl ?_
              refine OpsW.guard_no rfl rfl rfl ?_
              refine OpsW.guard_yes rfl rfl ?_
              refine OpsW.det (det_pick rfl rfl) rfl ?_
              refine OpsW.det (det_pick rfl rfl) rfl ?_
              refine sNext ?_
              refine W.keep (F' := [(62, _), (1, _)]) ⟨rfl, rfl, trivial⟩ ?_
              refine W.cond_false rfl ?_
              refine sSkip0 ?_
              refine cutOk () trivial ⟨rfl, trivial⟩ ?_
              repeat (first | exact List.Sublist.refl _ | exact List.nil_sublist _ | refine List.Sublist.cons_cons _ ?_ | refine List.Sublist.cons _ ?_)
        · skip
          refine sSkip0 ?_
          refine cutOk () trivial ⟨rfl, trivial⟩ ?_
          repeat (first | exact List.Sublist.refl _ | exact List.nil_sublist _ | refine List.Sublist.cons_cons _ ?_ | refine List.Sublist.cons _ ?_)
      · skip
        rintro - -
        refine sSeq ?_
        obtain ⟨Q, hQ⟩ : ∃ Q, Q = rd1 m := ⟨_, rfl⟩
        refine W.region ?_
        refine OpsW.det (det_move rfl) rfl ?_
        refine OpsW.new (new_call en11 rfl (fun w hb ho => Copy_ok (G' := G') (l := m) hB2 (by omega) ho.blocks)) rfl fun p65 hp65 => ?_
        refine OpsW.norm (F' := [(65, .slice (some ⟨p65.1, 0, none⟩) m.length m.length), (64, _), (1, _)]) (H' := [(p65.1, blk (bcells m ++ []) 5)]) rfl rfl ?_
        refine OpsW.det ((det_call en24o rfl (fun w hb ho => ReadG2_ok (G' := [(p65.1, blk (bcells m ++ []) 5)]) (l := m) (Bs.of hB2.small (Nat.le_refl _)) (by omega) (blocks_cons (hb _ (by repeat (first | exact List.Mem.head _ | apply List.Mem.tail))) (fun p hp => ho.look (List.mem_append_right _ hp))))).to (v := .tuple #[encP Q.1, .int .i64 Q.2]) (rd_name2 hQ)) rfl ?_
        refine OpsW.det (det_move rfl) rfl ?_
        refine OpsW.det (det_extract rfl rfl) rfl ?_
        refine OpsW.det (det_extract rfl rfl) rfl ?_
        refine OpsW.fresh (fr_alloc z48r) rfl fun b9 => ?_
        refine OpsW.storeW48 rfl rfl (Upd.here) ?_
        refine OpsW.det (det_assign rfl) rfl ?_
        refine sNext ?_
        refine W.keep (F' := [(10, _), (9, _), (1, _)]) ⟨rfl, rfl, rfl, trivial⟩ ?_
        refine sSeq ?_
        refine sSeq ?_
        refine W.region ?_
        refine OpsW.det (det_move rfl) rfl ?_
        refine OpsW.det (det_eql rfl rfl) rfl ?_
        refine sNext ?_
        refine W.keep (F' := [(70, _), (9, _), (1, _)]) ⟨rfl, rfl, rfl, trivial⟩ ?_
        refine sCut (σ := Unit) (fun _s => []) (fun _s => []) (fun _s => True) ?_ ?_
        · skip
          refine W.cond rfl (fun hc70 => ?_) (fun hc70 => ?_)
          · skip
            have hOk := one2 hB2.small hQ (eq_of_beq0 hc70)
            refine sSeq ?_
            refine W.region ?_
            refine OpsW.det (det_loadW48 rfl (List.Mem.head _)) rfl ?_
            refine OpsW.det (det_call en37o rfl (fun w hb ho => CG2_ok (fun p hp => ho.look (List.mem_append_right _ hp)))) rfl ?_
            refine OpsW.fresh (fr_alloc z60) rfl fun b11 => ?_
            refine OpsW.store sz60 rfl rfl rfl (form2_len _) (form2_one _) (Upd.here) (splice_all (by rw [form2_len, zer96_len])) ?_
            refine sNext ?_
            refine W.keep (F' := [(11, _), (9, _), (1, _)]) ⟨rfl, rfl, rfl, trivial⟩ ?_
            refine sSeq ?_
            refine W.region ?_
            refine OpsW.det (det_loadW48 rfl (List.Mem.tail _ (List.Mem.head _))) rfl ?_
            refine OpsW.det (det_call en38 rfl (fun w hb ho => CFull2_ok (fun p hp => ho.look (List.mem_append_right _ hp)))) rfl ?_
            refine OpsW.fresh (fr_alloc z63) rfl fun b12 => ?_
            refine OpsW.store sz63 rfl rfl rfl (full2_len _) (full2_one _) (Upd.here) (splice_all (by rw [full2_len, zer192_len])) ?_
            refine sNext ?_
            refine W.keep (F' := [(12, _), (11, _), (9, _), (1, _)]) ⟨rfl, rfl, rfl, rfl, trivial⟩ ?_
            refine sSeq ?_
            refine W.region ?_
            refine OpsW.det (det_loadW48 rfl (List.Mem.tail _ (List.Mem.tail _ (List.Mem.head _)))) rfl ?_
            refine OpsW.det (Det.to (det_call en30 rfl (fun w hb ho => PIn_ok (fun p hp => ho.look (List.mem_append_right _ hp)))) (congrArg Value.bool (hOk.o1))) rfl ?_
            refine OpsW.det (det_not rfl) rfl ?_
            refine OpsW.det (det_move rfl) rfl ?_
            refine OpsW.guard_yes rfl rfl ?_
            refine OpsW.det (det_loadW48 rfl (List.Mem.tail _ (List.Mem.tail _ (List.Mem.head _)))) rfl ?_
            refine OpsW.guard_yes rfl rfl ?_
            refine OpsW.det (Det.to (det_call en39 rfl (fun w hb ho => POn_ok (fun p hp => ho.look (List.mem_append_right _ hp)))) (congrArg Value.bool (hOk.o2))) rfl ?_
            refine OpsW.guard_yes rfl rfl ?_
            refine OpsW.det (det_not rfl) rfl ?_
            refine OpsW.det (det_pick rfl rfl) rfl ?_
            refine OpsW.det (det_move rfl) rfl ?_
            refine OpsW.guard_yes rfl rfl ?_
            refine OpsW.det (det_move rfl) rfl ?_
            refine OpsW.guard_yes rfl rfl ?_
            refine OpsW.det (det_len u22 rfl) rfl ?_
            refine OpsW.guard_yes rfl rfl ?_
            refine OpsW.test (det_eql rfl rfl) rfl (fun hc86 => ?_) (fun hc86 => ?_)
            · skip
              refine OpsW.guard_yes rfl rfl ?_
              refine OpsW.det (det_move rfl) rfl ?_
              refine OpsW.guard_yes rfl rfl ?_
              refine OpsW.det ((det_sliceArr (lo := none) (hi := none) (l := 0) (h := 96) u60 sz5 rfl rfl rfl (by decide) (by decide)).to (v := .slice (some ⟨b11, 0, none⟩) 96 96) rfl) rfl ?_
              refine OpsW.guard_yes rfl rfl ?_
              refine OpsW.det (det_move rfl) rfl ?_
              refine OpsW.guard_yes rfl rfl ?_
              refine OpsW.det (Det.to (det_call en13 rfl (fun w hb ho => same_ok (G' := (b11, blk (form2 Q.1) 60) :: G') (l := formN2 Q.1) (l2 := m) ((Bs_arr (b := b11) (t := 60) (form2_N _) (formN2_len _) (formN2_small _)).mono fun p hp => by rw [List.mem_singleton.1 hp]; exact List.Mem.head _) (hB2.mono fun p hp => List.mem_cons_of_mem _ hp) (by rw [formN2_len]; decide) (blocks_cons (hb _ (by repeat (first | exact List.Mem.head _ | apply List.Mem.tail))) ho.blocks))) (congrArg Value.bool (decide_eq_true (hOk.o3 (by have h := hc86; simp at h; omega))))) rfl ?_
              refine OpsW.guard_yes rfl rfl ?_
              refine OpsW.det (det_not rfl) rfl ?_
              refine OpsW.guard_yes rfl rfl ?_
              refine OpsW.det (det_pick rfl rfl) rfl ?_
              refine OpsW.det (det_pick rfl rfl) rfl ?_
              refine OpsW.det (det_move rfl) rfl ?_
              refine OpsW.guard_yes rfl rfl ?_
              refine OpsW.det (det_move rfl) rfl ?_
              refine OpsW.guard_yes rfl rfl ?_
              refine OpsW.det (det_len u22 rfl) rfl ?_
              refine OpsW.guard_yes rfl rfl ?_
              refine OpsW.test (det_eql rfl rfl) rfl (fun hc97 => ?_) (fun hc97 => ?_)
              · skip
                refine OpsW.guard_yes rfl rfl ?_
                refine OpsW.det (det_move rfl) rfl ?_
                refine OpsW.guard_yes rfl rfl ?_
                refine OpsW.det ((det_sliceArr (lo := none) (hi := none) (l := 0) (h := 192) u63 sz5 rfl rfl rfl (by decide) (by decide)).to (v := .slice (some ⟨b12, 0, none⟩) 192 192) rfl) rfl ?_
                refine OpsW.guard_yes rfl rfl ?_
                refine OpsW.det (det_move rfl) rfl ?_
                refine OpsW.guard_yes rfl rfl ?_
                refine OpsW.det (Det.to (det_call en13 rfl (fun w hb ho => same_ok (G' := (b12, blk (full2 Q.1) 63) :: G') (l := fullN2 Q.1) (l2 := m) ((Bs_arr (b := b12) (t := 63) (full2_N _) (fullN2_len _) (fullN2_small _)).mono fun p hp => by rw [List.mem_singleton.1 hp]; exact List.Mem.head _) (hB2.mono fun p hp => List.mem_cons_of_mem _ hp) (by rw [fullN2_len]; decide) (blocks_cons (hb _ (by repeat (first | exact List.Mem.head _ | apply List.Mem.tail))) ho.blocks))) (congrArg Value.bool (decide_eq_true (hOk.o4 (by have h := hc97; simp at h; omega))))) rfl ?_
                refine OpsW.guard_yes rfl rfl ?_
                refine OpsW.det (det_not rfl) rfl ?_
                refine OpsW.guard_yes rfl rfl ?_
                refine OpsW.det (det_pick rfl rfl) rfl ?_
                refine OpsW.det (det_pick rfl rfl) rfl ?_
                refine sNext ?_
                refine W.keep (F' := [(104, _)]) ⟨rfl, trivial⟩ ?_
                refine W.cond_false rfl ?_
                refine sSkip0 ?_
                refine cutOk () trivial trivial ?_
                repeat (first | exact List.Sublist.refl _ | exact List.nil_sublist _ | refine List.Sublist.cons_cons _ ?_ | refine List.Sublist.cons _ ?_)
              · skip
                refine OpsW.guard_yes rfl rfl ?_
                refine OpsW.det (det_move rfl) rfl ?_
                refine OpsW.guard_no rfl rfl rfl ?_
                refine OpsW.guard_no rfl rfl rfl ?_
                refine OpsW.guard_no rfl rfl rfl ?_
                refine OpsW.guard_no rfl rfl rfl ?_
                refine OpsW.guard_yes rfl rfl ?_
                refine OpsW.det (det_pick rfl rfl) rfl ?_
                refine OpsW.det (det_pick rfl rfl) rfl ?_
                refine sNext ?_
                refine W.keep (F' := [(104, _)]) ⟨rfl, trivial⟩ ?_
                refine W.cond_false rfl ?_
                refine sSkip0 ?_
                refine cutOk () trivial trivial ?_
                repeat (first | exact List.Sublist.refl _ | exact List.nil_sublist _ | refine List.Sublist.cons_cons _ ?_ | refine List.Sublist.cons _ ?_)
            · skip
              refine OpsW.guard_yes rfl rfl ?_
              refine OpsW.det (det_move rfl) rfl ?_
              refine OpsW.guard_no rfl rfl rfl ?_
              refine OpsW.guard_no rfl rfl rfl ?_
              refine OpsW.guard_no rfl rfl rfl ?_
              refine OpsW.guard_no rfl rfl rfl ?_
              refine OpsW.guard_yes rfl rfl ?_
              refine OpsW.det (det_pick rfl rfl) rfl ?_
              refine OpsW.det (det_pick rfl rfl) rfl ?_
              refine OpsW.det (det_move rfl) rfl ?_
              refine OpsW.guard_yes rfl rfl ?_
              refine OpsW.det (det_move rfl) rfl ?_
              refine OpsW.guard_yes rfl rfl ?_
              refine OpsW.det (det_len u22 rfl) rfl ?_
              refine OpsW.guard_yes rfl rfl ?_
              refine OpsW.test (det_eql rfl rfl) rfl (fun hc97 => ?_) (fun hc97 => ?_)
              · skip
                refine OpsW.guard_yes rfl rfl ?_
                refine OpsW.det (det_move rfl) rfl ?_
                refine OpsW.guard_yes rfl rfl ?_
                refine OpsW.det ((det_sliceArr (lo := none) (hi := none) (l := 0) (h := 192) u63 sz5 rfl rfl rfl (by decide) (by decide)).to (v := .slice (some ⟨b12, 0, none⟩) 192 192) rfl) rfl ?_
                refine OpsW.guard_yes rfl rfl ?_
                refine OpsW.det (det_move rfl) rfl ?_
                refine OpsW.guard_yes rfl rfl ?_
                refine OpsW.det (Det.to (det_call en13 rfl (fun w hb ho => same_ok (G' := (b12, blk (full2 Q.1) 63) :: G') (l := fullN2 Q.1) (l2 := m) ((Bs_arr (b := b12) (t := 63) (full2_N _) (fullN2_len _) (fullN2_small _)).mono fun p hp => by rw [List.mem_singleton.1 hp]; exact List.Mem.head _) (hB2.mono fun p hp => List.mem_cons_of_mem _ hp) (by rw [fullN2_len]; decide) (blocks_cons (hb _ (by repeat (first | exact List.Mem.head _ | apply List.Mem.tail))) ho.blocks))) (congrArg Value.bool (decide_eq_true (hOk.o4 (by have h := hc97; simp at h; omega))))) rfl ?_
                refine OpsW.guard_yes rfl rfl ?_
                refine OpsW.det (det_not rfl) rfl ?_
                refine OpsW.guard_yes rfl rfl ?_
                refine OpsW.det (det_pick rfl rfl) rfl ?_
                refine OpsW.det (det_pick rfl rfl) rfl ?_
                refine sNext ?_
                refine W.keep (F' := [(104, _)]) ⟨rfl, trivial⟩ ?_
                refine W.cond_false rfl ?_
                refine sSkip0 ?_
                refine cutOk () trivial trivial ?_
                repeat (first | exact List.Sublist.refl _ | exact List.nil_sublist _ | refine List.Sublist.cons_cons _ ?_ | refine List.Sublist.cons _ ?_)
              · skip
                refine OpsW.guard_yes rfl rfl ?_
                refine OpsW.det (det_move rfl) rfl ?_
                refine OpsW.guard_no rfl rfl rfl ?_
                refine OpsW.guard_no rfl rfl rfl ?_
                refine OpsW.guard_no rfl rfl rfl ?_
                refine OpsW.guard_no rfl rfl rfl ?_
                refine OpsW.guard_yes rfl rfl ?_
                refine OpsW.det (det_pick rfl rfl) rfl ?_
                refine OpsW.det (det_pick rfl rfl) rfl ?_
                refine sNext ?_
                refine W.keep (F' := [(104, _)]) ⟨rfl, trivial⟩ ?_
                refine W.cond_false rfl ?_
                refine sSkip0 ?_
                refine cutOk () trivial trivial ?_
                repeat (first | exact List.Sublist.refl _ | exact List.nil_sublist _ | refine List.Sublist.cons_cons _ ?_ | refine List.Sublist.cons _ ?_)
          · skip
            refine sSkip0 ?_
            refine cutOk () trivial trivial ?_
            repeat (first | exact List.Sublist.refl _ | exact List.nil_sublist _ | refine List.Sublist.cons_cons _ ?_ | refine List.Sublist.cons _ ?_)
        · skip
          rintro - -
          refine sSeq ?_
          refine W.region ?_
          refine OpsW.det (det_assign rfl) rfl ?_
          refine sNext ?_
          refine sRet ?_
          exact done1 Tryd.results5 (rv_tmp rfl) rfl

end Go.Cw
