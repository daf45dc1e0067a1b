/-
  What the document fixes of setups: the walk. Conditions: none.
-/
import Derived.Test.YtndonmbemehefaaDoorSt3
namespace Go.Cu
open Go Go.Vm Go.RowKit Go.Proofs 
attribute [local irreducible] W OpsW Det Fresh New Writes Vm.Pure Makes Changes ExternTo BuildTo ZeroTo FieldTo IndexTo BinTo SliceTo Vm.Enters
set_option linter.unusedVariables false
set_option linter.unusedSimpArgs false
variable {T : Nat → TypeId × Nat × Nat}

theorem nb' {p : Prop} [Decidable p] (h : p) : (!decide p) = false := by rw [decide_eq_true h]; rfl
def icells (l : List Int) : List Value := l.map fun z => Value.int .i64 z
theorem icells_len (l : List Int) : (icells l).length = l.length := List.length_map ..
theorem icells_one (l : List Int) : (icells l).all (·.oneCell') = true := by
  unfold icells; rw [List.all_map, List.all_eq_true]; intro z _; rfl
theorem ints_own {l : List Int} {sp : List Value} {b cap n : Nat} (hn : n = l.length) : Ints [(b, blk (icells l ++ sp) 3)] (.slice (some ⟨b, 0, none⟩) n cap) l := by
  subst hn
  exact ⟨⟨_, _, rfl⟩, fun h => ⟨b, 0, cap, _, 3, (0, 0), rfl, List.mem_singleton.2 rfl, fun i hi => by
    rw [Nat.zero_add, List.getElem?_append_left (by rw [icells_len]; exact hi)]
    unfold icells; rw [List.getElem?_map, List.getElem?_eq_getElem hi]; rfl⟩⟩
theorem ints_own0 {l : List Int} {b n : Nat} (hn : n = l.length) : Ints [(b, blk (icells l) 3)] (.slice (some ⟨b, 0, none⟩) n n) l := by
  have := ints_own (l := l) (sp := []) (b := b) (cap := n) hn
  rwa [List.append_nil] at this
theorem ints_zero {G' : Hp} {l : List Int} {ad : Option Addr} {cap : Nat} (h : l.length = 0) : Ints G' (.slice ad l.length cap) l := ⟨⟨_, _, rfl⟩, fun h2 => by omega⟩
theorem slice3 : SliceTo Tryd.prog 76 3 [(0, .int .i64 1), (1, .int .i64 2), (2, .int .i64 3)] (icells [1, 2, 3]) 3 := SliceTo.of fun _ => by kernel_rfl
theorem slice4 : SliceTo Tryd.prog 76 4 [(0, .int .i64 1), (1, .int .i64 2), (2, .int .i64 3), (3, .int .i64 4)] (icells [1, 2, 3, 4]) 3 := SliceTo.of fun _ => by kernel_rfl
theorem slice0i : SliceTo Tryd.prog 76 0 [] [] 3 := SliceTo.of fun _ => by kernel_rfl
theorem bldS3 {a1 a2 : Option Addr} {n1 c1 n2 c2 : Nat} {need : Int} : BuildTo Tryd.prog 80 [(0, .slice a1 n1 c1), (1, .slice a2 n2 c2), (2, .int .i64 need)] (.agg #[.slice a1 n1 c1, .slice a2 n2 c2, .int .i64 need, .slice none 0 0]) := BuildTo.of fun _ => by kernel_rfl
theorem bldS4 {a1 a2 a3 : Option Addr} {n1 c1 n2 c2 n3 c3 : Nat} {need : Int} : BuildTo Tryd.prog 80 [(0, .slice a1 n1 c1), (1, .slice a2 n2 c2), (2, .int .i64 need), (3, .slice a3 n3 c3)] (.agg #[.slice a1 n1 c1, .slice a2 n2 c2, .int .i64 need, .slice a3 n3 c3]) := BuildTo.of fun _ => by kernel_rfl
theorem hd1 : (chkE [1, 2, 3] [1, 2, 3] 2 0 == 0) = true := by decide +kernel
theorem hd2 : (leastI 3 0 == 3) = true := by decide +kernel
theorem hd3 : (leastI 4 0 == 3) = true := by decide +kernel
theorem hd4 : (chkE [] [] 0 0 == 1) = true := by decide +kernel

theorem bz80 : ZeroTo Tryd.prog 80 (.agg #[.slice none 0 0, .slice none 0 0, .int .i64 0, .slice none 0 0]) := ZeroTo.of fun _ => by kernel_rfl
theorem en41 : Vm.Enters Tryd.prog 41 := Vm.Enters.of fun _ _ => by kernel_rfl
theorem en51 : Vm.Enters Tryd.prog 51 := Vm.Enters.of fun _ _ => by kernel_rfl
theorem en52 : Vm.Enters Tryd.prog 52 := Vm.Enters.of fun _ _ => by kernel_rfl
theorem en76 : Vm.Enters Tryd.prog 76 := Vm.Enters.of fun _ _ => by kernel_rfl
theorem sz80 : sizeIn Tryd.prog 80 = some 4 := by kernel_rfl
theorem ty80 : TyA Tryd.prog 80 4 := ⟨by kernel_rfl, by kernel_rfl⟩
theorem z80 : TyZ Tryd.prog 80 (.agg #[.slice none 0 0, .slice none 0 0, .int .i64 0, .slice none 0 0]) [.slice none 0 0, .slice none 0 0, .int .i64 0, .slice none 0 0] := ⟨fun _ => by kernel_rfl, by kernel_rfl⟩
set_option maxHeartbeats 2000000 in
set_option maxRecDepth 100000 in
theorem head22_ok  {w : World} (hG : Blocks (GH T) w)  : Vm.Pure Tryd.prog 49 #[] w (.bool true) := by
  refine pure_of_W (n := 34) (args := []) Tryd.func49 rfl Tryd.ntmps49 (Nat.le_of_ble_eq_true rfl) hG ?_
  refine sStart ?_
  refine sSeq ?_
  refine W.region ?_
  refine OpsW.det (det_assign rfl) rfl ?_
  refine sNext ?_
  refine W.keep (F' := []) trivial ?_
  refine sSeq ?_
  refine W.region ?_
  refine OpsW.fresh (fr_buildSlice rfl slice3) rfl fun b3 => ?_
  refine OpsW.fresh (fr_buildSlice rfl slice3) rfl fun b4 => ?_
  refine OpsW.det (det_build rfl bldS3) rfl ?_
  refine OpsW.fresh (fr_alloc z80) rfl fun b1 => ?_
  refine OpsW.store sz80 rfl rfl rfl rfl rfl (Upd.here) rfl ?_
  refine sNext ?_
  refine W.keep (F' := [(1, _)]) ⟨rfl, trivial⟩ ?_
  refine sSeq ?_
  refine W.region ?_
  refine OpsW.fresh (fr_buildSlice rfl slice4) rfl fun b6 => ?_
  refine OpsW.fresh (fr_buildSlice rfl slice4) rfl fun b7 => ?_
  refine OpsW.det (det_build rfl bldS3) rfl ?_
  refine OpsW.fresh (fr_alloc z80) rfl fun b2 => ?_
  refine OpsW.store sz80 rfl rfl rfl rfl rfl (Upd.here) rfl ?_
  refine sNext ?_
  refine W.keep (F' := [(2, _), (1, _)]) ⟨rfl, rfl, trivial⟩ ?_
  refine sSeq ?_
  refine W.region ?_
  refine OpsW.det (det_loadA ty80 rfl (List.Mem.tail _ (List.Mem.tail _ (List.Mem.tail _ (List.Mem.head _)))) rfl) rfl ?_
  refine OpsW.det (det_call en51 rfl (fun w hb ho => check_ok (G' := [(b3, blk (icells [1, 2, 3]) 3), (b4, blk (icells [1, 2, 3]) 3)]) (l1 := [1, 2, 3]) (l2 := [1, 2, 3]) ((ints_own0 rfl).mono fun p hp => List.mem_cons.2 (.inl (List.mem_singleton.1 hp))) ((ints_own0 rfl).mono fun p hp => List.mem_cons_of_mem _ hp) (by decide) (by decide) (blocks_cons (hb _ (by repeat (first | exact List.Mem.head _ | apply List.Mem.tail))) (blocks_cons (hb _ (by repeat (first | exact List.Mem.head _ | apply List.Mem.tail))) ho.blocks)))) rfl ?_
  refine OpsW.det (Det.to (det_eql rfl rfl) (congrArg Value.bool (hd1))) rfl ?_
  refine OpsW.det (det_move rfl) rfl ?_
  refine OpsW.guard_yes rfl rfl ?_
  refine OpsW.det (det_loadA ty80 rfl (List.Mem.tail _ (List.Mem.tail _ (List.Mem.tail _ (List.Mem.head _)))) rfl) rfl ?_
  refine OpsW.guard_yes rfl rfl ?_
  refine OpsW.det (det_call en52 rfl (fun w hb ho => least_ok ho.blocks)) rfl ?_
  refine OpsW.guard_yes rfl rfl ?_
  refine OpsW.det (Det.to (det_eql rfl rfl) (congrArg Value.bool (hd2))) rfl ?_
  refine OpsW.det (det_pick rfl rfl) rfl ?_
  refine OpsW.det (det_move rfl) rfl ?_
  refine OpsW.guard_yes rfl rfl ?_
  refine OpsW.det (det_loadA ty80 rfl (List.Mem.head _) rfl) rfl ?_
  refine OpsW.guard_yes rfl rfl ?_
  refine OpsW.det (det_call en52 rfl (fun w hb ho => least_ok ho.blocks)) rfl ?_
  refine OpsW.guard_yes rfl rfl ?_
  refine OpsW.det (Det.to (det_eql rfl rfl) (congrArg Value.bool (hd3))) rfl ?_
  refine OpsW.det (det_pick rfl rfl) rfl ?_
  refine OpsW.det (det_move rfl) rfl ?_
  refine OpsW.guard_yes rfl rfl ?_
  refine OpsW.det (det_zero bz80) rfl ?_
  refine OpsW.guard_yes rfl rfl ?_
  refine OpsW.det (det_call en51 rfl (fun w hb ho => check_ok (G' := []) (l1 := []) (l2 := []) (ints_zero rfl) (ints_zero rfl) (by decide) (by decide) ho.blocks)) rfl ?_
  refine OpsW.guard_yes rfl rfl ?_
  refine OpsW.det (Det.to (det_eql rfl rfl) (congrArg Value.bool (hd4))) rfl ?_
  refine OpsW.det (det_pick rfl rfl) rfl ?_
  refine OpsW.det (det_move rfl) rfl ?_
  refine OpsW.guard_yes rfl rfl ?_
  refine OpsW.det (det_call en41 rfl (fun w hb ho => Gen_ok ho.blocks)) rfl ?_
  refine OpsW.guard_yes rfl rfl ?_
  refine OpsW.fresh (fr_buildSlice rfl (sliceGen (p := gen))) rfl fun b29 => ?_
  refine OpsW.guard_yes rfl rfl ?_
  refine OpsW.new (new_call en76 rfl (fun w hb ho => Write_ok (G' := [(b29, blk (cellsP gen) 31)]) (l := [gen]) ptsOne (by decide) (by decide) (blocks_cons (hb _ (by repeat (first | exact List.Mem.head _ | apply List.Mem.tail))) ho.blocks))) rfl fun p30 hp30 => ?_
  refine OpsW.guard_yes rfl rfl ?_
  refine OpsW.det (det_len u22 rfl) rfl ?_
  refine OpsW.guard_yes rfl rfl ?_
  refine OpsW.det (Det.to (det_eql rfl rfl) (congrArg Value.bool (rfl))) rfl ?_
  refine OpsW.det (det_pick rfl rfl) rfl ?_
  refine OpsW.det (det_assign rfl) rfl ?_
  refine sNext ?_
  refine W.keep (F' := [(0, _)]) ⟨rfl, trivial⟩ ?_
  refine sRet ?_
  exact done1 Tryd.results49 (rv_tmp rfl) rfl

end Go.Cu
