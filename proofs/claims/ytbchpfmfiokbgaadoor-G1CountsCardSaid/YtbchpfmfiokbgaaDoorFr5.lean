/-
  The scalars: how they are written: the walk. Conditions: none.
-/
import Derived.Test.YtbchpfmfiokbgaaDoorFr4
import Derived.Test.YtbchpfmfiokbgaaDoorVmCopy
namespace Go.Cu
open Go Go.Vm Go.RowKit Go.Proofs 
attribute [local irreducible] W OpsW Det Fresh New Writes Vm.Pure Makes Changes ExternTo BuildTo ZeroTo FieldTo IndexTo BinTo SliceTo Vm.Enters
set_option linter.unusedVariables false
set_option linter.unusedSimpArgs false
variable {T : Nat → TypeId × Nat × Nat}

theorem over_app : ∀ {new c : List Value}, new.length ≤ c.length → over new c = some (new ++ c.drop new.length)
  | [], c, _ => by simp [over]
  | v :: new, [], h => by simp at h
  | v :: new, x :: c, h => by
    have := over_app (new := new) (c := c) (by simpa using h)
    simp [over, this]
theorem splice_app {new c : List Value} (h : new.length ≤ c.length) : ∀ {a : List Value}, splice a.length new (a ++ c) = some (a ++ new ++ c.drop new.length)
  | [] => by simpa [splice] using over_app h
  | x :: a => by
    have := splice_app h (a := a)
    simp [splice, this]
theorem byt_lim {V w j : Nat} (hj : j < 8) : byt (lim V w) j = byt V (8 * w + j) := by
  unfold byt lim
  have h1 : 18446744073709551616 ^ w = 256 ^ (8 * w) := by rw [Nat.pow_mul]
  have h2 : (18446744073709551616 : Nat) = 256 ^ j * 256 ^ (8 - j) := by rw [← Nat.pow_add, show j + (8 - j) = 8 by omega]
  rw [h1, h2, Nat.mod_mul_right_div_self, Nat.div_div_eq_div_mul, ← Nat.pow_add]
  exact Nat.mod_mod_of_dvd _ (by rw [show 8 - j = (7 - j) + 1 by omega, Nat.pow_succ]; exact Nat.dvd_mul_left _ _)
theorem bytes_more (x n k : Nat) : ∀ j, bytes x n (k + j) = bytes x n k ++ (List.range j).map fun i => u8 (byt x (n - 1 - (k + i)))
  | 0 => by simp
  | j + 1 => by rw [← Nat.add_assoc, bytes, bytes_more x n k j, List.range_succ]; simp
theorem bytes_all (x n : Nat) : bytes x n n = (List.range n).map fun i => u8 (byt x (n - 1 - i)) := by
  have := bytes_more x n 0 n
  simpa [bytes] using this
theorem bytes_word {V i : Nat} (h : i < 4) : bytes V 32 (8 * i) ++ bytes (lim V (3 - i)) 8 8 = bytes V 32 (8 * (i + 1)) := by
  rw [Nat.mul_succ, bytes_more V 32 (8 * i) 8, bytes_all]
  congr 1
  refine List.map_congr_left fun j hj => ?_
  have hj : j < 8 := by simpa using hj
  rw [byt_lim (by omega)]
  congr 2
  omega
/-- The first i words' bytes, and noughts. -/
def bst (V i : Nat) : List Value := bytes V 32 (8 * i) ++ List.replicate (32 - 8 * i) (u8 0)
theorem bst_put {V i : Nat} (h : i < 4) : splice (8 * i) (bytes (lim V (3 - i)) 8 8) (bst V i) = some (bst V (i + 1)) := by
  have := splice_app (a := bytes V 32 (8 * i)) (new := bytes (lim V (3 - i)) 8 8) (c := List.replicate (32 - 8 * i) (u8 0)) (by rw [bytes_len, List.length_replicate]; omega)
  rw [bytes_len] at this
  unfold bst
  rw [this, bytes_word h, bytes_len, List.drop_replicate]
  congr 3
theorem bytes_one (x n k : Nat) : (bytes x n k).all (·.oneCell') = true := by
  induction k with
  | zero => rfl
  | succ k ih => rw [bytes, List.all_append, ih]; rfl
theorem u52 : Tryd.prog.underlying 52 = some (.array 32 5) := by kernel_rfl
theorem u22 : Tryd.prog.underlying 22 = some (.slice 5) := by kernel_rfl
theorem sz5 : sizeIn Tryd.prog 5 = some 1 := by kernel_rfl
theorem z52 : TyZ Tryd.prog 52 (.agg (bst 0 0).toArray) (bst 0 0) := ⟨fun _ => by kernel_rfl, by kernel_rfl⟩
theorem bst_4 {V : Nat} : bst V 4 = bytes V 32 32 := by unfold bst; simp
/-- How a scalar is written. -/
def rbytes (x : Fs) : List Value := bytes x.val 32 32
theorem rbytes_len (x : Fs) : (rbytes x).length = 32 := bytes_len _ _ _
theorem bst_len {V i : Nat} (h : i ≤ 4) : (bst V i).length = 32 := by unfold bst; rw [List.length_append, bytes_len, List.length_replicate]; omega
theorem cut_all : ∀ {n : Nat} {l : List Value}, l.length = n → takeN n l = some l
  | 0, l, h => by simp [takeN, List.eq_nil_of_length_eq_zero h]
  | n + 1, [], h => by simp at h
  | n + 1, c :: l, h => by simp [takeN, cut_all (n := n) (l := l) (by simpa using h)]
theorem splice_all {new c : List Value} (h : new.length = c.length) : splice 0 new c = some new := by
  have := splice_app (a := []) (new := new) (c := c) (by omega)
  simpa [h] using this
theorem bst_one {V i : Nat} : (bst V i).all (·.oneCell') = true := by
  unfold bst; rw [List.all_append, bytes_one, List.all_replicate]; simp; exact .inr rfl

theorem en71 : Vm.Enters Tryd.prog 71 := Vm.Enters.of fun _ _ => by kernel_rfl
theorem en72 : Vm.Enters Tryd.prog 72 := Vm.Enters.of fun _ _ => by kernel_rfl
theorem sz52 : sizeIn Tryd.prog 52 = some 32 := by kernel_rfl
theorem ty52 : TyA Tryd.prog 52 32 := ⟨by kernel_rfl, by kernel_rfl⟩
theorem RBytes_ok {x : Fs} {w : World} (hG : Blocks (GH T) w)  : Vm.Pure Tryd.prog 32 #[encR x] w (.agg (rbytes x).toArray) := by
  refine pure_of_W (n := 22) (args := [encR x]) Tryd.func32 rfl Tryd.ntmps32 (Nat.le_of_ble_eq_true rfl) hG ?_
  refine sStart ?_
  refine sSeq ?_
  refine W.region ?_
  refine OpsW.fresh (fr_box rfl rfl) rfl fun b1 => ?_
  refine OpsW.fresh (fr_alloc z52) rfl fun b2 => ?_
  refine sNext ?_
  refine W.keep (F' := [(2, _), (1, _)]) ⟨rfl, rfl, trivial⟩ ?_
  refine sSeq ?_
  refine W.region ?_
  refine OpsW.fresh (fr_alloc z52) rfl fun b3 => ?_
  refine sNext ?_
  refine sSeq ?_
  refine W.region ?_
  refine OpsW.det (det_loadA ty35 rfl (List.Mem.tail _ (List.Mem.tail _ (List.Mem.head _))) rfl) rfl ?_
  refine OpsW.det (det_call en71 rfl (fun w hb ho => RPlain_ok ho.blocks)) rfl ?_
  refine OpsW.fresh (fr_alloc z33) rfl fun b4 => ?_
  refine OpsW.store sz33 rfl rfl rfl rfl rfl (Upd.here) rfl ?_
  refine sNext ?_
  refine W.keep (F' := [(4, _), (3, _), (2, _)]) ⟨rfl, rfl, rfl, trivial⟩ ?_
  refine sSeq ?_
  refine sSeq ?_
  refine W.region ?_
  refine OpsW.det (det_move rfl) rfl ?_
  refine sNext ?_
  refine sBlock ?_
  refine sLoop (σ := Nat) (fun i => [(8, .int .i64 (i : Nat)), (4, .pointer (some ⟨b4, 0, none⟩)), (3, .pointer (some ⟨b3, 0, none⟩)), (2, .pointer (some ⟨b2, 0, none⟩))]) (fun i => [(b4, blk (w4 (lim x.val)) 33), (b3, blk (bst x.val i) 52), (b2, blk (bst 0 0) 52), (b1, blk (w4 (lim (montr x))) 35)]) (fun i => i ≤ 4) (fun i => 4 - i) 0 (by decide) ⟨rfl, rfl, rfl, rfl, trivial⟩ (List.Sublist.refl _) ?_
  intro i hi
  refine sSeq ?_
  refine W.region ?_
  refine OpsW.det (det_lss rfl rfl) rfl ?_
  refine sNext ?_
  refine sSeq ?_
  refine W.cond rfl (fun hc9 => ?_) (fun hc9 => ?_)
  · skip
    have hlt : i < 4 := by have h := hc9; simp only [decide_eq_true_eq] at h; omega
    refine sSkip ?_
    refine sSeq ?_
    refine sBlock ?_
    refine sSeq ?_
    refine W.region ?_
    refine OpsW.det (det_move rfl) rfl ?_
    refine OpsW.det (det_assign rfl) rfl ?_
    refine sNext ?_
    refine W.keep (F' := [(5, _), (8, _), (4, _), (3, _), (2, _)]) ⟨rfl, rfl, rfl, rfl, rfl, trivial⟩ ?_
    refine W.draw mixed 8 [[], [0], [0, 1], [], [3], [3, 4], [3, 4, 5], [3, 4, 5, 6], [0, 1, 2, 3, 4, 5, 6, 7]] (cl_lt (by decide)) ?_
    refine Head.det rfl (fun β hβ => Det.norm (F' := [(5, _), (8, _), (4, _), (3, _), (2, _)]) (H' := [(_, _), (_, _), (_, _), (_, _)]) rfl rfl (det_move rfl)) ?_
    refine Head.norm (k' := 1) (es' := [.det 11 _]) rfl rfl ?_
    refine Head.det rfl (fun β hβ => Det.norm (F' := [(11, _), (5, _), (8, _), (4, _), (3, _), (2, _)]) (H' := [(_, _), (_, _), (_, _), (_, _)]) rfl rfl ((det_mul rfl rfl).to (v := .int .i64 ((8 * i : Nat) : Int)) (by rw [wrap_i64 (by omega)]; congr 1))) ?_
    refine Head.norm (k' := 2) (es' := [.det 11 _, .det 12 _]) rfl rfl ?_
    refine Head.det rfl (fun β hβ => Det.norm (F' := [(11, _), (12, _), (5, _), (8, _), (4, _), (3, _), (2, _)]) (H' := [(_, _), (_, _), (_, _), (_, _)]) rfl rfl ((det_sliceArr (lo := some (.tmp 12)) (hi := none) (l := 8 * i) (h := 32) u52 sz5 rfl ⟨_, rfl⟩ rfl (by omega) (by omega)).to (v := .slice (some ⟨b3, 8 * i, none⟩) (32 - 8 * i) (32 - 8 * i)) (by rw [if_neg (by omega)]; simp))) ?_
    refine Head.norm (k' := 3) (es' := [.det 11 _, .det 12 _, .det 13 _]) rfl rfl ?_
    refine Head.det rfl (fun β hβ => Det.norm (F' := [(5, _), (8, _), (4, _), (3, _), (2, _)]) (H' := [(_, _), (_, _), (_, _), (_, _)]) rfl rfl (det_move rfl)) ?_
    refine Head.norm (k' := 4) (es' := [.det 11 _, .det 12 _, .det 13 _, .det 14 _]) rfl rfl ?_
    refine Head.det rfl (fun β hβ => Det.norm (F' := [(14, _), (5, _), (8, _), (4, _), (3, _), (2, _)]) (H' := [(_, _), (_, _), (_, _), (_, _)]) rfl rfl (det_subZ (c := ((3 - i : Nat) : Int)) rfl rfl (by omega) (by omega))) ?_
    refine Head.norm (k' := 5) (es' := [.det 11 _, .det 12 _, .det 13 _, .det 14 _, .det 15 _]) rfl rfl ?_
    refine Head.det rfl (fun β hβ => Det.norm (F' := [(14, _), (15, _), (5, _), (8, _), (4, _), (3, _), (2, _)]) (H' := [(_, _), (_, _), (_, _), (_, _)]) rfl rfl (det_indexAddr_arr u33 sz25 rfl rfl ⟨by omega, by omega⟩)) ?_
    refine Head.norm (k' := 6) (es' := [.det 11 _, .det 12 _, .det 13 _, .det 14 _, .det 15 _, .det 16 _]) rfl rfl ?_
    refine Head.det rfl (fun β hβ => Det.norm (F' := [(14, _), (15, _), (16, _), (5, _), (8, _), (4, _), (3, _), (2, _)]) (H' := [(_, _), (_, _), (_, _), (_, _)]) rfl rfl (det_loadC ty25 rfl (List.Mem.head _) (at4 (f := lim x.val) (i := 3 - i) (by omega) (by omega)))) ?_
    refine Head.norm (k' := 7) (es' := [.det 11 _, .det 12 _, .det 13 _, .det 14 _, .det 15 _, .det 16 _, .det 17 _]) rfl rfl ?_
    refine Head.fresh rfl (fun β hβ => New.norm (F' := [(14, _), (15, _), (16, _), (17, _), (5, _), (8, _), (4, _), (3, _), (2, _)]) (H' := [(_, _), (_, _), (_, _), (_, _)]) rfl rfl (new_call en72 rfl (fun w hb ho => put_ok (x := lim x.val (3 - i)) (n := 8) (lim_lt _ _) (by decide) ho.blocks))) ?_
    refine Head.norm (k' := 8) (es' := [.det 11 _, .det 12 _, .det 13 _, .det 14 _, .det 15 _, .det 16 _, .det 17 _, .fresh 18 _ _ _]) rfl rfl ?_
    refine Head.done ⟨by kernel_rfl, fun β hβ => ?_⟩
    refine OpsW.norm (F' := [(11, _), (12, _), (13, _), (14, _), (15, _), (16, _), (17, _), (18, .slice (some ⟨(β 18).1, 0, none⟩) 8 (β 18).2.1), (5, _), (8, _), (4, _), (3, _), (2, _)]) (H' := [(_, _), (_, _), (_, _), (_, _), (_, _)]) rfl rfl ?_
    generalize β 18 = p18
    refine OpsW.copy u22 sz5 rfl rfl (.inl (List.Mem.head _)) (by rw [bytes_len]; show 8 = min 8 (32 - 8 * i); omega) (fun j u h => by rw [Nat.zero_add, List.getElem?_append_left (List.getElem?_eq_some_iff.1 h).1]; exact h) (bytes_one _ _ _) (Upd.there (Upd.there Upd.here)) (bst_put hlt) rfl ?_
    refine sLast ?_
    refine bNext ?_
    refine W.keep (F' := [(8, _), (4, _), (3, _), (2, _)]) ⟨rfl, rfl, rfl, rfl, trivial⟩ ?_
    refine W.region ?_
    refine OpsW.det (det_addN (b := 1) rfl rfl (idx_ok hlt (by decide))) rfl ?_
    refine OpsW.det (det_move rfl) rfl ?_
    refine sLast ?_
    exact rEnd (i + 1) hlt ⟨rfl, rfl, rfl, rfl, trivial⟩ (List.Sublist.cons _ (List.Sublist.refl _)) (step_lt hlt)
  · skip
    have hi4 : i = 4 := by have h := hc9; simp only [decide_eq_false_iff_not] at h; omega
    subst hi4
    refine sExit ?_
    refine xLoop ?_
    refine xHere ?_
    refine W.keep (F' := [(3, _), (2, _)]) ⟨rfl, rfl, trivial⟩ ?_
    refine sSeq ?_
    refine W.region ?_
    refine OpsW.det (det_loadA ty52 rfl (List.Mem.tail _ (List.Mem.head _)) (show cut 0 32 (bst x.val 4) = some (bst x.val 4) from cut_all (bst_len (Nat.le_refl _)))) rfl ?_
    refine OpsW.store sz52 rfl rfl rfl (bst_len (Nat.le_refl _)) bst_one (Upd.there (Upd.there (Upd.here))) (splice_all (by rw [bst_len (Nat.le_refl _), bst_len (Nat.zero_le _)])) ?_
    refine sNext ?_
    refine W.keep (F' := [(2, _)]) ⟨rfl, trivial⟩ ?_
    refine sRet ?_
    exact done1 Tryd.results32 (rv_cellA ty52 rfl (List.Mem.tail _ (List.Mem.tail _ (List.Mem.head _))) (show cut 0 32 (bst x.val 4) = some (bst x.val 4) from cut_all (bst_len (Nat.le_refl _)))) (congrArg (fun l : List Value => Value.agg l.toArray) bst_4)

end Go.Cu
