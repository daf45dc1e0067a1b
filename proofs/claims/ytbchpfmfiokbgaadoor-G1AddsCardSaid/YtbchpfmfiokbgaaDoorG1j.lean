/-
  The first group's laws: G1Counts: the walk. Conditions: the rules that the points obey.
-/
import Derived.Test.YtbchpfmfiokbgaaDoorG1h
namespace Go.Cu
open Go Go.Vm Go.RowKit Go.Proofs 
attribute [local irreducible] W OpsW Det Fresh New Writes Vm.Pure Makes Changes ExternTo BuildTo ZeroTo FieldTo IndexTo BinTo SliceTo Vm.Enters
set_option linter.unusedVariables false
set_option linter.unusedSimpArgs false
variable {T : Nat → TypeId × Nat × Nat}

theorem and31 {a : Nat} (ha : a < 256) : bitsOf .and .u8 a 31 = ((a % 32 : Nat) : Int) := by
  have h1 : (BitVec.ofInt IntKind.u8.bits (a : Int)).toNat = a := by
    show (BitVec.ofInt 8 (a : Int)).toNat = a
    rw [BitVec.toNat_ofInt]; omega
  unfold bitsOf
  simp only [BitVec.toNat_and, h1]
  rw [show (BitVec.ofInt IntKind.u8.bits (31 : Int)).toNat = 2 ^ 5 - 1 by rfl, Nat.and_two_pow_sub_one_eq_mod, wrap_u8]
  omega
def nadd (p : Pt) : Nat → Pt
  | 0 => (0, 0)
  | i + 1 => padd (nadd p i) p
structure CountsOk (k : Nat) (p q : Pt) : Prop where
  c1 : times [k] p = nadd p k
  c2 : times [0, 0, k] p = nadd p k
  c3 : times [k] q = nadd q k
  c4 : times [] q = (0, 0)
  c5 : pmul p (Zp.of k) = nadd p k
theorem one_sl {k : Int} : SliceTo Tryd.prog 22 1 [(0, .int .u8 k)] [.int .u8 k] 5 := SliceTo.of fun _ => by kernel_rfl
theorem three_sl {k : Int} : SliceTo Tryd.prog 22 3 [(0, .int .u8 0), (1, .int .u8 0), (2, .int .u8 k)] [.int .u8 0, .int .u8 0, .int .u8 k] 5 := SliceTo.of fun _ => by kernel_rfl
theorem one_small {k : Nat} (h : k < 256) : ∀ c ∈ [k], c < 256 := by intro c hc; rw [List.mem_singleton.1 hc]; exact h
theorem three_small {k : Nat} (h : k < 256) : ∀ c ∈ [0, 0, k], c < 256 := by
  intro c hc
  simp only [List.mem_cons, List.not_mem_nil, or_false] at hc
  rcases hc with rfl | rfl | rfl <;> omega
theorem nil_Bs : Bs [] (.slice none 0 0) [] := ⟨⟨_, _, rfl⟩, fun c hc => (by cases hc), fun h => absurd h (Nat.lt_irrefl 0)⟩

theorem en24 : Vm.Enters Tryd.prog 24 := Vm.Enters.of fun _ _ => by kernel_rfl
set_option maxHeartbeats 4000000 in
theorem G1Counts_ok {G' : Hp} {va : Value} {la : List Nat} {n m : Nat} (ha : Bs G' va la) (hn : n < 256) (hm : m < 65536) (hh : HeadOk) (hr : CountsOk (n % 32) (gp la) (wild m)) {w : World} (hG : Blocks (G' ++ GH T) w)  : Vm.Pure Tryd.prog 4 #[va, .int .u8 (n : Nat), .int .u16 (m : Nat)] w (.bool true) := by
  obtain ⟨aa, ca, hva⟩ := ha.shape
  refine pure_of_W (n := 80) (args := [va, .int .u8 (n : Nat), .int .u16 (m : Nat)]) Tryd.func4 rfl Tryd.ntmps4 (Nat.le_of_ble_eq_true rfl) hG ?_
  refine sStart ?_
  refine sSeq ?_
  subst hva
  refine W.region ?_
  refine OpsW.det (det_assign rfl) rfl ?_
  refine sNext ?_
  refine W.keep (F' := [(0, _), (1, _), (2, _)]) ⟨rfl, rfl, rfl, trivial⟩ ?_
  refine sSeq ?_
  refine sSeq ?_
  refine W.region ?_
  refine OpsW.det (det_call en15 rfl (fun w hb ho => head_ok hh (fun p hp => ho.look (List.mem_append_right _ hp)))) rfl ?_
  refine OpsW.det (det_not rfl) rfl ?_
  refine sNext ?_
  refine W.keep (F' := [(15, _), (0, _), (1, _), (2, _)]) ⟨rfl, rfl, rfl, rfl, trivial⟩ ?_
  refine W.cond_false rfl ?_
  refine sSkip ?_
  refine sSeq ?_
  refine sSeq ?_
  refine W.region ?_
  refine OpsW.det (det_move rfl) rfl ?_
  refine OpsW.det (det_call en16 rfl (fun w hb ho => long_ok (fun p hp => ho.look (List.mem_append_right _ hp)))) rfl ?_
  refine sNext ?_
  refine W.keep (F' := [(17, _), (0, _), (1, _), (2, _)]) ⟨rfl, rfl, rfl, rfl, trivial⟩ ?_
  refine W.cond rfl (fun hc17 => ?_) (fun hc17 => ?_)
  · skip
    refine sSeq ?_
    refine W.region ?_
    refine OpsW.det (det_assign rfl) rfl ?_
    refine sNext ?_
    refine W.keep (F' := [(6, _)]) ⟨rfl, trivial⟩ ?_
    refine sRet ?_
    exact done1 Tryd.results4 (rv_tmp rfl) rfl
  · skip
    have hl := not_long hc17
    refine sSkip ?_
    refine sSeq ?_
    refine W.region ?_
    refine OpsW.det (det_call en17 rfl (fun w hb ho => Gen_ok (fun p hp => ho.look (List.mem_append_right _ hp)))) rfl ?_
    refine OpsW.det (det_move rfl) rfl ?_
    refine OpsW.det (det_call en19 rfl (fun w hb ho => scalar_ok (G' := G') ha (Nat.le_trans hl.1 (by decide)) ho.blocks)) rfl ?_
    refine OpsW.det (det_call en18 rfl (fun w hb ho => PMul_ok (fun p hp => ho.look (List.mem_append_right _ hp)))) rfl ?_
    refine OpsW.fresh (fr_alloc z30r) rfl fun b7 => ?_
    refine OpsW.store sz30 rfl rfl rfl rfl rfl (Upd.here) rfl ?_
    refine sNext ?_
    refine W.keep (F' := [(7, _), (1, _), (2, _)]) ⟨rfl, rfl, rfl, trivial⟩ ?_
    refine sSeq ?_
    refine W.region ?_
    refine OpsW.det (det_move rfl) rfl ?_
    refine OpsW.det (det_call en24 rfl (fun w hb ho => wild_ok hm (fun p hp => ho.look (List.mem_append_right _ hp)))) rfl ?_
    refine OpsW.fresh (fr_alloc z30r) rfl fun b8 => ?_
    refine OpsW.store sz30 rfl rfl rfl rfl rfl (Upd.here) rfl ?_
    refine sNext ?_
    refine W.keep (F' := [(8, _), (7, _), (1, _)]) ⟨rfl, rfl, rfl, trivial⟩ ?_
    refine sSeq ?_
    refine W.region ?_
    refine OpsW.det (det_zero bz30) rfl ?_
    refine OpsW.fresh (fr_alloc z30r) rfl fun b9 => ?_
    refine OpsW.store sz30 rfl rfl rfl rfl rfl (Upd.here) rfl ?_
    refine sNext ?_
    refine W.keep (F' := [(9, _), (8, _), (7, _), (1, _)]) ⟨rfl, rfl, rfl, rfl, trivial⟩ ?_
    refine sSeq ?_
    refine W.region ?_
    refine OpsW.det (det_zero bz30) rfl ?_
    refine OpsW.fresh (fr_alloc z30r) rfl fun b10 => ?_
    refine OpsW.store sz30 rfl rfl rfl rfl rfl (Upd.here) rfl ?_
    refine sNext ?_
    refine W.keep (F' := [(10, _), (9, _), (8, _), (7, _), (1, _)]) ⟨rfl, rfl, rfl, rfl, rfl, trivial⟩ ?_
    refine sSeq ?_
    refine sSeq ?_
    refine W.region ?_
    refine OpsW.det (det_assign rfl) rfl ?_
    refine sNext ?_
    refine sBlock ?_
    refine sLoop (σ := Nat) (fun i => [(11, .int .i64 (i : Nat)), (10, .pointer (some ⟨b10, 0, none⟩)), (9, .pointer (some ⟨b9, 0, none⟩)), (8, .pointer (some ⟨b8, 0, none⟩)), (7, .pointer (some ⟨b7, 0, none⟩)), (1, .int .u8 (n : Nat))]) (fun i => [(b10, blk (cellsP (nadd (wild m) i)) 30), (b9, blk (cellsP (nadd (gp la) i)) 30), (b8, blk (cellsP (wild m)) 30), (b7, blk (cellsP (gp la)) 30)]) (fun i => i ≤ n % 32) (fun i => n % 32 - i) 0 (Nat.zero_le _) ⟨rfl, rfl, rfl, rfl, rfl, rfl, trivial⟩ (List.Sublist.refl _) ?_
    intro i hi
    refine sSeq ?_
    refine sSeq ?_
    refine W.region ?_
    refine OpsW.det (det_move rfl) rfl ?_
    refine OpsW.det (det_move rfl) rfl ?_
    refine OpsW.det ((det_and (a := (n : Int)) (b := 31) rfl rfl).to (v := .int .u8 ((n % 32 : Nat) : Int)) (by rw [and31 hn])) rfl ?_
    refine OpsW.det ((det_conv u5 u3 rfl).to (v := .int .i64 ((n % 32 : Nat) : Int)) (by rw [wrap_i64 (by omega)])) rfl ?_
    refine OpsW.det (det_lss rfl rfl) rfl ?_
    refine sNext ?_
    refine W.keep (F' := [(30, _), (11, _), (10, _), (9, _), (8, _), (7, _), (1, _)]) ⟨rfl, rfl, rfl, rfl, rfl, rfl, rfl, trivial⟩ ?_
    refine W.cond rfl (fun hc30 => ?_) (fun hc30 => ?_)
    · skip
      have hlt : i < n % 32 := by have h := hc30; simp only [decide_eq_true_eq] at h; omega
      refine sSkip ?_
      refine sSeq ?_
      refine sBlock ?_
      refine sSeq ?_
      refine W.region ?_
      refine OpsW.det (det_loadA ty30 rfl (List.Mem.tail _ (List.Mem.head _)) rfl) rfl ?_
      refine OpsW.det (det_loadA ty30 rfl (List.Mem.tail _ (List.Mem.tail _ (List.Mem.tail _ (List.Mem.head _)))) rfl) rfl ?_
      refine OpsW.det (det_call en20 rfl (fun w hb ho => PAdd_ok (fun p hp => ho.look (List.mem_append_right _ hp)))) rfl ?_
      refine OpsW.store sz30 rfl rfl rfl rfl rfl (Upd.there (Upd.here)) rfl ?_
      refine sNext ?_
      refine W.keep (F' := [(11, _), (10, _), (9, _), (8, _), (7, _), (1, _)]) ⟨rfl, rfl, rfl, rfl, rfl, rfl, trivial⟩ ?_
      refine W.region ?_
      refine OpsW.det (det_loadA ty30 rfl (List.Mem.head _) rfl) rfl ?_
      refine OpsW.det (det_loadA ty30 rfl (List.Mem.tail _ (List.Mem.tail _ (List.Mem.head _))) rfl) rfl ?_
      refine OpsW.det (det_call en20 rfl (fun w hb ho => PAdd_ok (fun p hp => ho.look (List.mem_append_right _ hp)))) rfl ?_
      refine OpsW.store sz30 rfl rfl rfl rfl rfl (Upd.here) rfl ?_
      refine sLast ?_
      refine bNext ?_
      refine W.keep (F' := [(11, _), (10, _), (9, _), (8, _), (7, _), (1, _)]) ⟨rfl, rfl, rfl, rfl, rfl, rfl, trivial⟩ ?_
      refine W.region ?_
      refine OpsW.det (det_move rfl) rfl ?_
      refine OpsW.det (det_addN (b := 1) rfl rfl (by omega)) rfl ?_
      refine OpsW.det (det_assign rfl) rfl ?_
      refine sLast ?_
      exact rEnd (i + 1) hlt ⟨rfl, rfl, rfl, rfl, rfl, rfl, trivial⟩ (List.Sublist.refl _) (step_lt hlt)
    · skip
      have hi32 : i = n % 32 := by have h := hc30; simp only [decide_eq_false_iff_not] at h; omega
      subst hi32
      refine sExit ?_
      refine xLoop ?_
      refine xHere ?_
      refine W.keep (F' := [(10, _), (9, _), (8, _), (7, _), (1, _)]) ⟨rfl, rfl, rfl, rfl, rfl, trivial⟩ ?_
      refine sSeq ?_
      refine W.region ?_
      refine OpsW.det (det_move rfl) rfl ?_
      refine OpsW.det ((det_and (a := (n : Int)) (b := 31) rfl rfl).to (v := .int .u8 ((n % 32 : Nat) : Int)) (by rw [and31 hn])) rfl ?_
      refine OpsW.fresh (fr_buildSlice rfl (one_sl (k := ((n % 32 : Nat) : Int)))) rfl fun b41 => ?_
      refine OpsW.det (det_assign rfl) rfl ?_
      refine sNext ?_
      refine W.keep (F' := [(12, _), (10, _), (9, _), (8, _), (7, _), (1, _)]) ⟨rfl, rfl, rfl, rfl, rfl, rfl, trivial⟩ ?_
      refine sSeq ?_
      refine W.region ?_
      refine OpsW.det (det_move rfl) rfl ?_
      refine OpsW.det ((det_and (a := (n : Int)) (b := 31) rfl rfl).to (v := .int .u8 ((n % 32 : Nat) : Int)) (by rw [and31 hn])) rfl ?_
      refine OpsW.fresh (fr_buildSlice rfl (three_sl (k := ((n % 32 : Nat) : Int)))) rfl fun b44 => ?_
      refine OpsW.det (det_assign rfl) rfl ?_
      refine sNext ?_
      refine W.keep (F' := [(13, _), (12, _), (10, _), (9, _), (8, _), (7, _), (1, _)]) ⟨rfl, rfl, rfl, rfl, rfl, rfl, rfl, trivial⟩ ?_
      refine sSeq ?_
      refine W.draw mixed 36 [[], [], [0, 1], [], [0, 1, 2, 3], [0, 1, 2, 3, 4], [0, 1, 2, 3, 4, 5], [0, 1, 2, 3, 4, 5], [0, 1, 2, 3, 4, 5, 6, 7], [0, 1, 2, 3, 4, 5], [0, 1, 2, 3, 4, 5, 6, 7, 8, 9], [0, 1, 2, 3, 4, 5, 6, 7, 8, 9, 10], [0, 1, 2, 3, 4, 5, 6, 7, 8, 9, 10, 11], [0, 1, 2, 3, 4, 5, 6, 7, 8, 9, 10, 11, 12], [0, 1, 2, 3, 4, 5, 6, 7, 8, 9, 10, 11, 12], [0, 1, 2, 3, 4, 5, 6, 7, 8, 9, 10, 11, 12, 13, 14], [0, 1, 2, 3, 4, 5, 6, 7, 8, 9, 10, 11, 12], [0, 1, 2, 3, 4, 5, 6, 7, 8, 9, 10, 11, 12, 13, 14, 15, 16], [0, 1, 2, 3, 4, 5, 6, 7, 8, 9, 10, 11, 12, 13, 14, 15, 16, 17], [0, 1, 2, 3, 4, 5, 6, 7, 8, 9, 10, 11, 12, 13, 14, 15, 16, 17, 18], [0, 1, 2, 3, 4, 5, 6, 7, 8, 9, 10, 11, 12, 13, 14, 15, 16, 17, 18, 19], [0, 1, 2, 3, 4, 5, 6, 7, 8, 9, 10, 11, 12, 13, 14, 15, 16, 17, 18, 19, 20], [0, 1, 2, 3, 4, 5, 6, 7, 8, 9, 10, 11, 12, 13, 14, 15, 16, 17, 18, 19], [0, 1, 2, 3, 4, 5, 6, 7, 8, 9, 10, 11, 12, 13, 14, 15, 16, 17, 18, 19, 20, 21, 22], [0, 1, 2, 3, 4, 5, 6, 7, 8, 9, 10, 11, 12, 13, 14, 15, 16, 17, 18, 19, 20, 21, 22, 23], [0, 1, 2, 3, 4, 5, 6, 7, 8, 9, 10, 11, 12, 13, 14, 15, 16, 17, 18, 19, 20, 21, 22, 23, 24], [0, 1, 2, 3, 4, 5, 6, 7, 8, 9, 10, 11, 12, 13, 14, 15, 16, 17, 18, 19, 20, 21, 22, 23, 24, 25], [0, 1, 2, 3, 4, 5, 6, 7, 8, 9, 10, 11, 12, 13, 14, 15, 16, 17, 18, 19, 20, 21, 22, 23, 24, 25], [0, 1, 2, 3, 4, 5, 6, 7, 8, 9, 10, 11, 12, 13, 14, 15, 16, 17, 18, 19, 20, 21, 22, 23, 24, 25, 27], [0, 1, 2, 3, 4, 5, 6, 7, 8, 9, 10, 11, 12, 13, 14, 15, 16, 17, 18, 19, 20, 21, 22, 23, 24, 25, 27, 28], [0, 1, 2, 3, 4, 5, 6, 7, 8, 9, 10, 11, 12, 13, 14, 15, 16, 17, 18, 19, 20, 21, 22, 23, 24, 25, 27, 28, 29], [0, 1, 2, 3, 4, 5, 6, 7, 8, 9, 10, 11, 12, 13, 14, 15, 16, 17, 18, 19, 20, 21, 22, 23, 24, 25, 26, 27, 28, 29, 30], [0, 1, 2, 3, 4, 5, 6, 7, 8, 9, 10, 11, 12, 13, 14, 15, 16, 17, 18, 19, 20, 21, 22, 23, 24, 25], [0, 1, 2, 3, 4, 5, 6, 7, 8, 9, 10, 11, 12, 13, 14, 15, 16, 17, 18, 19, 20, 21, 22, 23, 24, 25, 26, 27, 28, 29, 30, 31, 32], [0, 1, 2, 3, 4, 5, 6, 7, 8, 9, 10, 11, 12, 13, 14, 15, 16, 17, 18, 19, 20, 21, 22, 23, 24, 25, 26, 27, 28, 29, 30, 31, 32, 33], [0, 1, 2, 3, 4, 5, 6, 7, 8, 9, 10, 11, 12, 13, 14, 15, 16, 17, 18, 19, 20, 21, 22, 23, 24, 25, 26, 27, 28, 29, 30, 31, 32, 33, 34]] (cl_lt (by decide)) ?_
      refine Head.det rfl (fun β hβ => Det.norm (F' := [(13, _), (12, _), (10, _), (9, _), (8, _), (7, _), (1, _)]) (H' := [(_, _), (_, _), (_, _), (_, _), (_, _), (_, _)]) rfl rfl (det_loadA ty30 rfl (List.Mem.tail _ (List.Mem.tail _ (List.Mem.tail _ (List.Mem.tail _ (List.Mem.tail _ (List.Mem.head _)))))) rfl)) ?_
      refine Head.norm (k' := 1) (es' := [.det 45 _]) rfl rfl ?_
      refine Head.det rfl (fun β hβ => Det.norm (F' := [(13, _), (12, _), (10, _), (9, _), (8, _), (7, _), (1, _)]) (H' := [(_, _), (_, _), (_, _), (_, _), (_, _), (_, _)]) rfl rfl (det_move rfl)) ?_
      refine Head.norm (k' := 2) (es' := [.det 45 _, .det 46 _]) rfl rfl ?_
      refine Head.det rfl (fun β hβ => Det.norm (F' := [(45, _), (46, _), (13, _), (12, _), (10, _), (9, _), (8, _), (7, _), (1, _)]) (H' := [(_, _), (_, _), (_, _), (_, _), (_, _), (_, _)]) rfl rfl (det_call en25 rfl (fun w hb ho => Times_ok (G' := [(b41, blk (bcells [n % 32] ++ []) 5)]) (l := [n % 32]) (p := gp la) (Bs.of (one_small (by omega)) (Nat.le_refl _)) (Nat.le_of_ble_eq_true rfl) (blocks_cons (hb _ (by repeat (first | exact List.Mem.head _ | apply List.Mem.tail))) (fun p hp => ho.look (List.mem_append_right _ hp)))))) ?_
      refine Head.norm (k' := 3) (es' := [.det 45 _, .det 46 _, .det 47 _]) rfl rfl ?_
      refine Head.det rfl (fun β hβ => Det.norm (F' := [(13, _), (12, _), (10, _), (9, _), (8, _), (7, _), (1, _)]) (H' := [(_, _), (_, _), (_, _), (_, _), (_, _), (_, _)]) rfl rfl (det_loadA ty30 rfl (List.Mem.tail _ (List.Mem.tail _ (List.Mem.tail _ (List.Mem.head _)))) rfl)) ?_
      refine Head.norm (k' := 4) (es' := [.det 45 _, .det 46 _, .det 47 _, .det 48 _]) rfl rfl ?_
      refine Head.det rfl (fun β hβ => Det.norm (F' := [(45, _), (46, _), (47, _), (48, _), (13, _), (12, _), (10, _), (9, _), (8, _), (7, _), (1, _)]) (H' := [(_, _), (_, _), (_, _), (_, _), (_, _), (_, _)]) rfl rfl (Det.to (det_eql30 rfl rfl) (congrArg Value.bool (yb hr.c1)))) ?_
      refine Head.norm (k' := 5) (es' := [.det 45 _, .det 46 _, .det 47 _, .det 48 _, .det 49 _]) rfl rfl ?_
      refine Head.det rfl (fun β hβ => Det.norm (F' := [(45, _), (46, _), (47, _), (48, _), (49, _), (13, _), (12, _), (10, _), (9, _), (8, _), (7, _), (1, _)]) (H' := [(_, _), (_, _), (_, _), (_, _), (_, _), (_, _)]) rfl rfl (det_move rfl)) ?_
      refine Head.norm (k' := 6) (es' := [.det 45 _, .det 46 _, .det 47 _, .det 48 _, .det 49 _, .det 50 _]) rfl rfl ?_
      refine Head.yes rfl rfl (fun _ _ => rfl) (fun β hβ => Det.norm (F' := [(45, _), (46, _), (47, _), (48, _), (49, _), (50, _), (13, _), (12, _), (10, _), (9, _), (8, _), (7, _), (1, _)]) (H' := [(_, _), (_, _), (_, _), (_, _), (_, _), (_, _)]) rfl rfl (det_loadA ty30 rfl (List.Mem.tail _ (List.Mem.tail _ (List.Mem.tail _ (List.Mem.tail _ (List.Mem.tail _ (List.Mem.head _)))))) rfl)) ?_
      refine Head.norm (k' := 7) (es' := [.det 45 _, .det 46 _, .det 47 _, .det 48 _, .det 49 _, .det 50 _, .det 51 _]) rfl rfl ?_
      refine Head.yes rfl rfl (fun _ _ => rfl) (fun β hβ => Det.norm (F' := [(45, _), (46, _), (47, _), (48, _), (49, _), (50, _), (13, _), (12, _), (10, _), (9, _), (8, _), (7, _), (1, _)]) (H' := [(_, _), (_, _), (_, _), (_, _), (_, _), (_, _)]) rfl rfl (det_move rfl)) ?_
      refine Head.norm (k' := 8) (es' := [.det 45 _, .det 46 _, .det 47 _, .det 48 _, .det 49 _, .det 50 _, .det 51 _, .det 52 _]) rfl rfl ?_
      refine Head.yes rfl rfl (fun _ _ => rfl) (fun β hβ => Det.norm (F' := [(45, _), (46, _), (47, _), (48, _), (49, _), (50, _), (51, _), (52, _), (13, _), (12, _), (10, _), (9, _), (8, _), (7, _), (1, _)]) (H' := [(_, _), (_, _), (_, _), (_, _), (_, _), (_, _)]) rfl rfl (det_call en25 rfl (fun w hb ho => Times_ok (G' := [(b44, blk (bcells [0, 0, n % 32] ++ []) 5)]) (l := [0, 0, n % 32]) (p := gp la) (Bs.of (three_small (by omega)) (Nat.le_refl _)) (Nat.le_of_ble_eq_true rfl) (blocks_cons (hb _ (by repeat (first | exact List.Mem.head _ | apply List.Mem.tail))) (fun p hp => ho.look (List.mem_append_right _ hp)))))) ?_
      refine Head.norm (k' := 9) (es' := [.det 45 _, .det 46 _, .det 47 _, .det 48 _, .det 49 _, .det 50 _, .det 51 _, .det 52 _, .det 53 _]) rfl rfl ?_
      refine Head.yes rfl rfl (fun _ _ => rfl) (fun β hβ => Det.norm (F' := [(45, _), (46, _), (47, _), (48, _), (49, _), (50, _), (13, _), (12, _), (10, _), (9, _), (8, _), (7, _), (1, _)]) (H' := [(_, _), (_, _), (_, _), (_, _), (_, _), (_, _)]) rfl rfl (det_loadA ty30 rfl (List.Mem.tail _ (List.Mem.tail _ (List.Mem.tail _ (List.Mem.head _)))) rfl)) ?_
      refine Head.norm (k' := 10) (es' := [.det 45 _, .det 46 _, .det 47 _, .det 48 _, .det 49 _, .det 50 _, .det 51 _, .det 52 _, .det 53 _, .det 54 _]) rfl rfl ?_
      refine Head.yes rfl rfl (fun _ _ => rfl) (fun β hβ => Det.norm (F' := [(45, _), (46, _), (47, _), (48, _), (49, _), (50, _), (51, _), (52, _), (53, _), (54, _), (13, _), (12, _), (10, _), (9, _), (8, _), (7, _), (1, _)]) (H' := [(_, _), (_, _), (_, _), (_, _), (_, _), (_, _)]) rfl rfl (Det.to (det_eql30 rfl rfl) (congrArg Value.bool (yb hr.c2)))) ?_
      refine Head.norm (k' := 11) (es' := [.det 45 _, .det 46 _, .det 47 _, .det 48 _, .det 49 _, .det 50 _, .det 51 _, .det 52 _, .det 53 _, .det 54 _, .det 55 _]) rfl rfl ?_
      refine Head.det rfl (fun β hβ => Det.norm (F' := [(45, _), (46, _), (47, _), (48, _), (49, _), (50, _), (51, _), (52, _), (53, _), (54, _), (55, _), (13, _), (12, _), (10, _), (9, _), (8, _), (7, _), (1, _)]) (H' := [(_, _), (_, _), (_, _), (_, _), (_, _), (_, _)]) rfl rfl (det_pick rfl rfl)) ?_
      refine Head.norm (k' := 12) (es' := [.det 45 _, .det 46 _, .det 47 _, .det 48 _, .det 49 _, .det 50 _, .det 51 _, .det 52 _, .det 53 _, .det 54 _, .det 55 _, .det 56 _]) rfl rfl ?_
      refine Head.det rfl (fun β hβ => Det.norm (F' := [(45, _), (46, _), (47, _), (48, _), (49, _), (50, _), (51, _), (52, _), (53, _), (54, _), (55, _), (56, _), (13, _), (12, _), (10, _), (9, _), (8, _), (7, _), (1, _)]) (H' := [(_, _), (_, _), (_, _), (_, _), (_, _), (_, _)]) rfl rfl (det_move rfl)) ?_
      refine Head.norm (k' := 13) (es' := [.det 45 _, .det 46 _, .det 47 _, .det 48 _, .det 49 _, .det 50 _, .det 51 _, .det 52 _, .det 53 _, .det 54 _, .det 55 _, .det 56 _, .det 57 _]) rfl rfl ?_
      refine Head.yes rfl rfl (fun _ _ => rfl) (fun β hβ => Det.norm (F' := [(45, _), (46, _), (47, _), (48, _), (49, _), (50, _), (51, _), (52, _), (53, _), (54, _), (55, _), (56, _), (57, _), (13, _), (12, _), (10, _), (9, _), (8, _), (7, _), (1, _)]) (H' := [(_, _), (_, _), (_, _), (_, _), (_, _), (_, _)]) rfl rfl (det_loadA ty30 rfl (List.Mem.tail _ (List.Mem.tail _ (List.Mem.tail _ (List.Mem.tail _ (List.Mem.head _))))) rfl)) ?_
      refine Head.norm (k' := 14) (es' := [.det 45 _, .det 46 _, .det 47 _, .det 48 _, .det 49 _, .det 50 _, .det 51 _, .det 52 _, .det 53 _, .det 54 _, .det 55 _, .det 56 _, .det 57 _, .det 58 _]) rfl rfl ?_
      refine Head.yes rfl rfl (fun _ _ => rfl) (fun β hβ => Det.norm (F' := [(45, _), (46, _), (47, _), (48, _), (49, _), (50, _), (51, _), (52, _), (53, _), (54, _), (55, _), (56, _), (57, _), (13, _), (12, _), (10, _), (9, _), (8, _), (7, _), (1, _)]) (H' := [(_, _), (_, _), (_, _), (_, _), (_, _), (_, _)]) rfl rfl (det_move rfl)) ?_
      refine Head.norm (k' := 15) (es' := [.det 45 _, .det 46 _, .det 47 _, .det 48 _, .det 49 _, .det 50 _, .det 51 _, .det 52 _, .det 53 _, .det 54 _, .det 55 _, .det 56 _, .det 57 _, .det 58 _, .det 59 _]) rfl rfl ?_
      refine Head.yes rfl rfl (fun _ _ => rfl) (fun β hβ => Det.norm (F' := [(45, _), (46, _), (47, _), (48, _), (49, _), (50, _), (51, _), (52, _), (53, _), (54, _), (55, _), (56, _), (57, _), (58, _), (59, _), (13, _), (12, _), (10, _), (9, _), (8, _), (7, _), (1, _)]) (H' := [(_, _), (_, _), (_, _), (_, _), (_, _), (_, _)]) rfl rfl (det_call en25 rfl (fun w hb ho => Times_ok (G' := [(b41, blk (bcells [n % 32] ++ []) 5)]) (l := [n % 32]) (p := wild m) (Bs.of (one_small (by omega)) (Nat.le_refl _)) (Nat.le_of_ble_eq_true rfl) (blocks_cons (hb _ (by repeat (first | exact List.Mem.head _ | apply List.Mem.tail))) (fun p hp => ho.look (List.mem_append_right _ hp)))))) ?_
      refine Head.norm (k' := 16) (es' := [.det 45 _, .det 46 _, .det 47 _, .det 48 _, .det 49 _, .det 50 _, .det 51 _, .det 52 _, .det 53 _, .det 54 _, .det 55 _, .det 56 _, .det 57 _, .det 58 _, .det 59 _, .det 60 _]) rfl rfl ?_
      refine Head.yes rfl rfl (fun _ _ => rfl) (fun β hβ => Det.norm (F' := [(45, _), (46, _), (47, _), (48, _), (49, _), (50, _), (51, _), (52, _), (53, _), (54, _), (55, _), (56, _), (57, _), (13, _), (12, _), (10, _), (9, _), (8, _), (7, _), (1, _)]) (H' := [(_, _), (_, _), (_, _), (_, _), (_, _), (_, _)]) rfl rfl (det_loadA ty30 rfl (List.Mem.tail _ (List.Mem.tail _ (List.Mem.head _))) rfl)) ?_
      refine Head.norm (k' := 17) (es' := [.det 45 _, .det 46 _, .det 47 _, .det 48 _, .det 49 _, .det 50 _, .det 51 _, .det 52 _, .det 53 _, .det 54 _, .det 55 _, .det 56 _, .det 57 _, .det 58 _, .det 59 _, .det 60 _, .det 61 _]) rfl rfl ?_
      refine Head.yes rfl rfl (fun _ _ => rfl) (fun β hβ => Det.norm (F' := [(45, _), (46, _), (47, _), (48, _), (49, _), (50, _), (51, _), (52, _), (53, _), (54, _), (55, _), (56, _), (57, _), (58, _), (59, _), (60, _), (61, _), (13, _), (12, _), (10, _), (9, _), (8, _), (7, _), (1, _)]) (H' := [(_, _), (_, _), (_, _), (_, _), (_, _), (_, _)]) rfl rfl (Det.to (det_eql30 rfl rfl) (congrArg Value.bool (yb hr.c3)))) ?_
      refine Head.norm (k' := 18) (es' := [.det 45 _, .det 46 _, .det 47 _, .det 48 _, .det 49 _, .det 50 _, .det 51 _, .det 52 _, .det 53 _, .det 54 _, .det 55 _, .det 56 _, .det 57 _, .det 58 _, .det 59 _, .det 60 _, .det 61 _, .det 62 _]) rfl rfl ?_
      refine Head.det rfl (fun β hβ => Det.norm (F' := [(45, _), (46, _), (47, _), (48, _), (49, _), (50, _), (51, _), (52, _), (53, _), (54, _), (55, _), (56, _), (57, _), (58, _), (59, _), (60, _), (61, _), (62, _), (13, _), (12, _), (10, _), (9, _), (8, _), (7, _), (1, _)]) (H' := [(_, _), (_, _), (_, _), (_, _), (_, _), (_, _)]) rfl rfl (det_pick rfl rfl)) ?_
      refine Head.norm (k' := 19) (es' := [.det 45 _, .det 46 _, .det 47 _, .det 48 _, .det 49 _, .det 50 _, .det 51 _, .det 52 _, .det 53 _, .det 54 _, .det 55 _, .det 56 _, .det 57 _, .det 58 _, .det 59 _, .det 60 _, .det 61 _, .det 62 _, .det 63 _]) rfl rfl ?_
      refine Head.det rfl (fun β hβ => Det.norm (F' := [(45, _), (46, _), (47, _), (48, _), (49, _), (50, _), (51, _), (52, _), (53, _), (54, _), (55, _), (56, _), (57, _), (58, _), (59, _), (60, _), (61, _), (62, _), (63, _), (13, _), (12, _), (10, _), (9, _), (8, _), (7, _), (1, _)]) (H' := [(_, _), (_, _), (_, _), (_, _), (_, _), (_, _)]) rfl rfl (det_move rfl)) ?_
      refine Head.norm (k' := 20) (es' := [.det 45 _, .det 46 _, .det 47 _, .det 48 _, .det 49 _, .det 50 _, .det 51 _, .det 52 _, .det 53 _, .det 54 _, .det 55 _, .det 56 _, .det 57 _, .det 58 _, .det 59 _, .det 60 _, .det 61 _, .det 62 _, .det 63 _, .det 64 _]) rfl rfl ?_
      refine Head.yes rfl rfl (fun _ _ => rfl) (fun β hβ => Det.norm (F' := [(45, _), (46, _), (47, _), (48, _), (49, _), (50, _), (51, _), (52, _), (53, _), (54, _), (55, _), (56, _), (57, _), (58, _), (59, _), (60, _), (61, _), (62, _), (63, _), (64, _), (13, _), (12, _), (10, _), (9, _), (8, _), (7, _), (1, _)]) (H' := [(_, _), (_, _), (_, _), (_, _), (_, _), (_, _)]) rfl rfl (det_loadA ty30 rfl (List.Mem.tail _ (List.Mem.tail _ (List.Mem.tail _ (List.Mem.tail _ (List.Mem.head _))))) rfl)) ?_
      refine Head.norm (k' := 21) (es' := [.det 45 _, .det 46 _, .det 47 _, .det 48 _, .det 49 _, .det 50 _, .det 51 _, .det 52 _, .det 53 _, .det 54 _, .det 55 _, .det 56 _, .det 57 _, .det 58 _, .det 59 _, .det 60 _, .det 61 _, .det 62 _, .det 63 _, .det 64 _, .det 65 _]) rfl rfl ?_
      refine Head.yes rfl rfl (fun _ _ => rfl) (fun β hβ => Det.norm (F' := [(45, _), (46, _), (47, _), (48, _), (49, _), (50, _), (51, _), (52, _), (53, _), (54, _), (55, _), (56, _), (57, _), (58, _), (59, _), (60, _), (61, _), (62, _), (63, _), (64, _), (65, _), (13, _), (12, _), (10, _), (9, _), (8, _), (7, _), (1, _)]) (H' := [(_, _), (_, _), (_, _), (_, _), (_, _), (_, _)]) rfl rfl (det_call en25 rfl (fun w hb ho => Times_ok (G' := []) (l := []) (p := wild m) nil_Bs (by decide) (fun p hp => ho.look (List.mem_append_right _ hp))))) ?_
      refine Head.norm (k' := 22) (es' := [.det 45 _, .det 46 _, .det 47 _, .det 48 _, .det 49 _, .det 50 _, .det 51 _, .det 52 _, .det 53 _, .det 54 _, .det 55 _, .det 56 _, .det 57 _, .det 58 _, .det 59 _, .det 60 _, .det 61 _, .det 62 _, .det 63 _, .det 64 _, .det 65 _, .det 66 _]) rfl rfl ?_
      refine Head.yes rfl rfl (fun _ _ => rfl) (fun β hβ => Det.norm (F' := [(45, _), (46, _), (47, _), (48, _), (49, _), (50, _), (51, _), (52, _), (53, _), (54, _), (55, _), (56, _), (57, _), (58, _), (59, _), (60, _), (61, _), (62, _), (63, _), (64, _), (13, _), (12, _), (10, _), (9, _), (8, _), (7, _), (1, _)]) (H' := [(_, _), (_, _), (_, _), (_, _), (_, _), (_, _)]) rfl rfl (det_zero bz30)) ?_
      refine Head.norm (k' := 23) (es' := [.det 45 _, .det 46 _, .det 47 _, .det 48 _, .det 49 _, .det 50 _, .det 51 _, .det 52 _, .det 53 _, .det 54 _, .det 55 _, .det 56 _, .det 57 _, .det 58 _, .det 59 _, .det 60 _, .det 61 _, .det 62 _, .det 63 _, .det 64 _, .det 65 _, .det 66 _, .det 67 _]) rfl rfl ?_
      refine Head.yes rfl rfl (fun _ _ => rfl) (fun β hβ => Det.norm (F' := ((45, _) :: (46, _) :: (47, _) :: (48, _) :: (49, _) :: (50, _) :: (51, _) :: (52, _) :: (53, _) :: (54, _) :: (55, _) :: (56, _) :: (57, _) :: (58, _) :: (59, _) :: (60, _) :: (61, _) :: (62, _) :: (63, _) :: (64, _) :: (65, _) :: (66, _) :: (67, _) :: (13, _) :: (12, _) :: (10, _) :: (9, _) :: (8, _) :: (7, _) :: (1, _) :: [])) (H' := [(_, _), (_, _), (_, _), (_, _), (_, _), (_, _)]) rfl rfl (Det.to (det_eql30 rfl rfl) (congrArg Value.bool (yb hr.c4)))) ?_
      refine Head.norm (k' := 24) (es' := [.det 45 _, .det 46 _, .det 47 _, .det 48 _, .det 49 _, .det 50 _, .det 51 _, .det 52 _, .det 53 _, .det 54 _, .det 55 _, .det 56 _, .det 57 _, .det 58 _, .det 59 _, .det 60 _, .det 61 _, .det 62 _, .det 63 _, .det 64 _, .det 65 _, .det 66 _, .det 67 _, .det 68 _]) rfl rfl ?_
      refine Head.det rfl (fun β hβ => Det.norm (F' := ((45, _) :: (46, _) :: (47, _) :: (48, _) :: (49, _) :: (50, _) :: (51, _) :: (52, _) :: (53, _) :: (54, _) :: (55, _) :: (56, _) :: (57, _) :: (58, _) :: (59, _) :: (60, _) :: (61, _) :: (62, _) :: (63, _) :: (64, _) :: (65, _) :: (66, _) :: (67, _) :: (68, _) :: (13, _) :: (12, _) :: (10, _) :: (9, _) :: (8, _) :: (7, _) :: (1, _) :: [])) (H' := [(_, _), (_, _), (_, _), (_, _), (_, _), (_, _)]) rfl rfl (det_pick rfl rfl)) ?_
      refine Head.norm (k' := 25) (es' := [.det 45 _, .det 46 _, .det 47 _, .det 48 _, .det 49 _, .det 50 _, .det 51 _, .det 52 _, .det 53 _, .det 54 _, .det 55 _, .det 56 _, .det 57 _, .det 58 _, .det 59 _, .det 60 _, .det 61 _, .det 62 _, .det 63 _, .det 64 _, .det 65 _, .det 66 _, .det 67 _, .det 68 _, .det 69 _]) rfl rfl ?_
      refine Head.det rfl (fun β hβ => Det.norm (F' := ((45, _) :: (46, _) :: (47, _) :: (48, _) :: (49, _) :: (50, _) :: (51, _) :: (52, _) :: (53, _) :: (54, _) :: (55, _) :: (56, _) :: (57, _) :: (58, _) :: (59, _) :: (60, _) :: (61, _) :: (62, _) :: (63, _) :: (64, _) :: (65, _) :: (66, _) :: (67, _) :: (68, _) :: (69, _) :: (13, _) :: (12, _) :: (10, _) :: (9, _) :: (8, _) :: (7, _) :: (1, _) :: [])) (H' := [(_, _), (_, _), (_, _), (_, _), (_, _), (_, _)]) rfl rfl (det_move rfl)) ?_
      refine Head.norm (k' := 26) (es' := [.det 45 _, .det 46 _, .det 47 _, .det 48 _, .det 49 _, .det 50 _, .det 51 _, .det 52 _, .det 53 _, .det 54 _, .det 55 _, .det 56 _, .det 57 _, .det 58 _, .det 59 _, .det 60 _, .det 61 _, .det 62 _, .det 63 _, .det 64 _, .det 65 _, .det 66 _, .det 67 _, .det 68 _, .det 69 _, .det 70 _]) rfl rfl ?_
      refine Head.yes rfl rfl (fun _ _ => rfl) (fun β hβ => Det.norm (F' := ((45, _) :: (46, _) :: (47, _) :: (48, _) :: (49, _) :: (50, _) :: (51, _) :: (52, _) :: (53, _) :: (54, _) :: (55, _) :: (56, _) :: (57, _) :: (58, _) :: (59, _) :: (60, _) :: (61, _) :: (62, _) :: (63, _) :: (64, _) :: (65, _) :: (66, _) :: (67, _) :: (68, _) :: (69, _) :: (70, _) :: (13, _) :: (12, _) :: (10, _) :: (9, _) :: (8, _) :: (7, _) :: (1, _) :: [])) (H' := [(_, _), (_, _), (_, _), (_, _), (_, _), (_, _)]) rfl rfl (det_loadA ty30 rfl (List.Mem.tail _ (List.Mem.tail _ (List.Mem.tail _ (List.Mem.tail _ (List.Mem.tail _ (List.Mem.head _)))))) rfl)) ?_
      refine Head.norm (k' := 27) (es' := [.det 45 _, .det 46 _, .det 47 _, .det 48 _, .det 49 _, .det 50 _, .det 51 _, .det 52 _, .det 53 _, .det 54 _, .det 55 _, .det 56 _, .det 57 _, .det 58 _, .det 59 _, .det 60 _, .det 61 _, .det 62 _, .det 63 _, .det 64 _, .det 65 _, .det 66 _, .det 67 _, .det 68 _, .det 69 _, .det 70 _, .det 71 _]) rfl rfl ?_
      refine Head.yes rfl rfl (fun _ _ => rfl) (fun β hβ => Det.norm (F' := ((45, _) :: (46, _) :: (47, _) :: (48, _) :: (49, _) :: (50, _) :: (51, _) :: (52, _) :: (53, _) :: (54, _) :: (55, _) :: (56, _) :: (57, _) :: (58, _) :: (59, _) :: (60, _) :: (61, _) :: (62, _) :: (63, _) :: (64, _) :: (65, _) :: (66, _) :: (67, _) :: (68, _) :: (69, _) :: (70, _) :: (13, _) :: (12, _) :: (10, _) :: (9, _) :: (8, _) :: (7, _) :: (1, _) :: [])) (H' := [(_, _), (_, _), (_, _), (_, _), (_, _), (_, _)]) rfl rfl (det_move rfl)) ?_
      refine Head.norm (k' := 28) (es' := [.det 45 _, .det 46 _, .det 47 _, .det 48 _, .det 49 _, .det 50 _, .det 51 _, .det 52 _, .det 53 _, .det 54 _, .det 55 _, .det 56 _, .det 57 _, .det 58 _, .det 59 _, .det 60 _, .det 61 _, .det 62 _, .det 63 _, .det 64 _, .det 65 _, .det 66 _, .det 67 _, .det 68 _, .det 69 _, .det 70 _, .det 71 _, .det 72 _]) rfl rfl ?_
      refine Head.yes rfl rfl (fun _ _ => rfl) (fun β hβ => Det.norm (F' := ((45, _) :: (46, _) :: (47, _) :: (48, _) :: (49, _) :: (50, _) :: (51, _) :: (52, _) :: (53, _) :: (54, _) :: (55, _) :: (56, _) :: (57, _) :: (58, _) :: (59, _) :: (60, _) :: (61, _) :: (62, _) :: (63, _) :: (64, _) :: (65, _) :: (66, _) :: (67, _) :: (68, _) :: (69, _) :: (70, _) :: (72, _) :: (13, _) :: (12, _) :: (10, _) :: (9, _) :: (8, _) :: (7, _) :: (1, _) :: [])) (H' := [(_, _), (_, _), (_, _), (_, _), (_, _), (_, _)]) rfl rfl ((det_and (a := (n : Int)) (b := 31) rfl rfl).to (v := .int .u8 ((n % 32 : Nat) : Int)) (by rw [and31 hn]))) ?_
      refine Head.norm (k' := 29) (es' := [.det 45 _, .det 46 _, .det 47 _, .det 48 _, .det 49 _, .det 50 _, .det 51 _, .det 52 _, .det 53 _, .det 54 _, .det 55 _, .det 56 _, .det 57 _, .det 58 _, .det 59 _, .det 60 _, .det 61 _, .det 62 _, .det 63 _, .det 64 _, .det 65 _, .det 66 _, .det 67 _, .det 68 _, .det 69 _, .det 70 _, .det 71 _, .det 72 _, .det 73 _]) rfl rfl ?_
      refine Head.yes rfl rfl (fun _ _ => rfl) (fun β hβ => Det.norm (F' := ((45, _) :: (46, _) :: (47, _) :: (48, _) :: (49, _) :: (50, _) :: (51, _) :: (52, _) :: (53, _) :: (54, _) :: (55, _) :: (56, _) :: (57, _) :: (58, _) :: (59, _) :: (60, _) :: (61, _) :: (62, _) :: (63, _) :: (64, _) :: (65, _) :: (66, _) :: (67, _) :: (68, _) :: (69, _) :: (70, _) :: (72, _) :: (73, _) :: (13, _) :: (12, _) :: (10, _) :: (9, _) :: (8, _) :: (7, _) :: (1, _) :: [])) (H' := [(_, _), (_, _), (_, _), (_, _), (_, _), (_, _)]) rfl rfl ((det_conv u5 u25 rfl).to (v := u64 (n % 32)) (by rw [wrap_u64 (by omega)]; rfl))) ?_
      refine Head.norm (k' := 30) (es' := (.det 45 _ :: .det 46 _ :: .det 47 _ :: .det 48 _ :: .det 49 _ :: .det 50 _ :: .det 51 _ :: .det 52 _ :: .det 53 _ :: .det 54 _ :: .det 55 _ :: .det 56 _ :: .det 57 _ :: .det 58 _ :: .det 59 _ :: .det 60 _ :: .det 61 _ :: .det 62 _ :: .det 63 _ :: .det 64 _ :: .det 65 _ :: .det 66 _ :: .det 67 _ :: .det 68 _ :: .det 69 _ :: .det 70 _ :: .det 71 _ :: .det 72 _ :: .det 73 _ :: .det 74 _ :: [])) rfl rfl ?_
      refine Head.yes rfl rfl (fun _ _ => rfl) (fun β hβ => Det.norm (F' := ((45, _) :: (46, _) :: (47, _) :: (48, _) :: (49, _) :: (50, _) :: (51, _) :: (52, _) :: (53, _) :: (54, _) :: (55, _) :: (56, _) :: (57, _) :: (58, _) :: (59, _) :: (60, _) :: (61, _) :: (62, _) :: (63, _) :: (64, _) :: (65, _) :: (66, _) :: (67, _) :: (68, _) :: (69, _) :: (70, _) :: (72, _) :: (73, _) :: (74, _) :: (13, _) :: (12, _) :: (10, _) :: (9, _) :: (8, _) :: (7, _) :: (1, _) :: [])) (H' := [(_, _), (_, _), (_, _), (_, _), (_, _), (_, _)]) rfl rfl (det_call en26 rfl (fun w hb ho => ROf_ok (n := n % 32) (by omega) (fun p hp => ho.look (List.mem_append_right _ hp))))) ?_
      refine Head.norm (k' := 31) (es' := (.det 45 _ :: .det 46 _ :: .det 47 _ :: .det 48 _ :: .det 49 _ :: .det 50 _ :: .det 51 _ :: .det 52 _ :: .det 53 _ :: .det 54 _ :: .det 55 _ :: .det 56 _ :: .det 57 _ :: .det 58 _ :: .det 59 _ :: .det 60 _ :: .det 61 _ :: .det 62 _ :: .det 63 _ :: .det 64 _ :: .det 65 _ :: .det 66 _ :: .det 67 _ :: .det 68 _ :: .det 69 _ :: .det 70 _ :: .det 71 _ :: .det 72 _ :: .det 73 _ :: .det 74 _ :: .det 75 _ :: [])) rfl rfl ?_
      refine Head.yes rfl rfl (fun _ _ => rfl) (fun β hβ => Det.norm (F' := ((45, _) :: (46, _) :: (47, _) :: (48, _) :: (49, _) :: (50, _) :: (51, _) :: (52, _) :: (53, _) :: (54, _) :: (55, _) :: (56, _) :: (57, _) :: (58, _) :: (59, _) :: (60, _) :: (61, _) :: (62, _) :: (63, _) :: (64, _) :: (65, _) :: (66, _) :: (67, _) :: (68, _) :: (69, _) :: (70, _) :: (71, _) :: (72, _) :: (73, _) :: (74, _) :: (75, _) :: (13, _) :: (12, _) :: (10, _) :: (9, _) :: (8, _) :: (7, _) :: (1, _) :: [])) (H' := [(_, _), (_, _), (_, _), (_, _), (_, _), (_, _)]) rfl rfl (det_call en18 rfl (fun w hb ho => PMul_ok (fun p hp => ho.look (List.mem_append_right _ hp))))) ?_
      refine Head.norm (k' := 32) (es' := (.det 45 _ :: .det 46 _ :: .det 47 _ :: .det 48 _ :: .det 49 _ :: .det 50 _ :: .det 51 _ :: .det 52 _ :: .det 53 _ :: .det 54 _ :: .det 55 _ :: .det 56 _ :: .det 57 _ :: .det 58 _ :: .det 59 _ :: .det 60 _ :: .det 61 _ :: .det 62 _ :: .det 63 _ :: .det 64 _ :: .det 65 _ :: .det 66 _ :: .det 67 _ :: .det 68 _ :: .det 69 _ :: .det 70 _ :: .det 71 _ :: .det 72 _ :: .det 73 _ :: .det 74 _ :: .det 75 _ :: .det 76 _ :: [])) rfl rfl ?_
      refine Head.yes rfl rfl (fun _ _ => rfl) (fun β hβ => Det.norm (F' := ((45, _) :: (46, _) :: (47, _) :: (48, _) :: (49, _) :: (50, _) :: (51, _) :: (52, _) :: (53, _) :: (54, _) :: (55, _) :: (56, _) :: (57, _) :: (58, _) :: (59, _) :: (60, _) :: (61, _) :: (62, _) :: (63, _) :: (64, _) :: (65, _) :: (66, _) :: (67, _) :: (68, _) :: (69, _) :: (70, _) :: (13, _) :: (12, _) :: (10, _) :: (9, _) :: (8, _) :: (7, _) :: (1, _) :: [])) (H' := [(_, _), (_, _), (_, _), (_, _), (_, _), (_, _)]) rfl rfl (det_loadA ty30 rfl (List.Mem.tail _ (List.Mem.tail _ (List.Mem.tail _ (List.Mem.head _)))) rfl)) ?_
      refine Head.norm (k' := 33) (es' := (.det 45 _ :: .det 46 _ :: .det 47 _ :: .det 48 _ :: .det 49 _ :: .det 50 _ :: .det 51 _ :: .det 52 _ :: .det 53 _ :: .det 54 _ :: .det 55 _ :: .det 56 _ :: .det 57 _ :: .det 58 _ :: .det 59 _ :: .det 60 _ :: .det 61 _ :: .det 62 _ :: .det 63 _ :: .det 64 _ :: .det 65 _ :: .det 66 _ :: .det 67 _ :: .det 68 _ :: .det 69 _ :: .det 70 _ :: .det 71 _ :: .det 72 _ :: .det 73 _ :: .det 74 _ :: .det 75 _ :: .det 76 _ :: .det 77 _ :: [])) rfl rfl ?_
      refine Head.yes rfl rfl (fun _ _ => rfl) (fun β hβ => Det.norm (F' := ((45, _) :: (46, _) :: (47, _) :: (48, _) :: (49, _) :: (50, _) :: (51, _) :: (52, _) :: (53, _) :: (54, _) :: (55, _) :: (56, _) :: (57, _) :: (58, _) :: (59, _) :: (60, _) :: (61, _) :: (62, _) :: (63, _) :: (64, _) :: (65, _) :: (66, _) :: (67, _) :: (68, _) :: (69, _) :: (70, _) :: (71, _) :: (72, _) :: (73, _) :: (74, _) :: (75, _) :: (76, _) :: (77, _) :: (13, _) :: (12, _) :: (10, _) :: (9, _) :: (8, _) :: (7, _) :: (1, _) :: [])) (H' := [(_, _), (_, _), (_, _), (_, _), (_, _), (_, _)]) rfl rfl (Det.to (det_eql30 rfl rfl) (congrArg Value.bool (yb hr.c5)))) ?_
      refine Head.norm (k' := 34) (es' := (.det 45 _ :: .det 46 _ :: .det 47 _ :: .det 48 _ :: .det 49 _ :: .det 50 _ :: .det 51 _ :: .det 52 _ :: .det 53 _ :: .det 54 _ :: .det 55 _ :: .det 56 _ :: .det 57 _ :: .det 58 _ :: .det 59 _ :: .det 60 _ :: .det 61 _ :: .det 62 _ :: .det 63 _ :: .det 64 _ :: .det 65 _ :: .det 66 _ :: .det 67 _ :: .det 68 _ :: .det 69 _ :: .det 70 _ :: .det 71 _ :: .det 72 _ :: .det 73 _ :: .det 74 _ :: .det 75 _ :: .det 76 _ :: .det 77 _ :: .det 78 _ :: [])) rfl rfl ?_
      refine Head.det rfl (fun β hβ => Det.norm (F' := ((45, _) :: (46, _) :: (47, _) :: (48, _) :: (49, _) :: (50, _) :: (51, _) :: (52, _) :: (53, _) :: (54, _) :: (55, _) :: (56, _) :: (57, _) :: (58, _) :: (59, _) :: (60, _) :: (61, _) :: (62, _) :: (63, _) :: (64, _) :: (65, _) :: (66, _) :: (67, _) :: (68, _) :: (69, _) :: (70, _) :: (71, _) :: (72, _) :: (73, _) :: (74, _) :: (75, _) :: (76, _) :: (77, _) :: (78, _) :: (13, _) :: (12, _) :: (10, _) :: (9, _) :: (8, _) :: (7, _) :: (1, _) :: [])) (H' := [(_, _), (_, _), (_, _), (_, _), (_, _), (_, _)]) rfl rfl (det_pick rfl rfl)) ?_
      refine Head.norm (k' := 35) (es' := (.det 45 _ :: .det 46 _ :: .det 47 _ :: .det 48 _ :: .det 49 _ :: .det 50 _ :: .det 51 _ :: .det 52 _ :: .det 53 _ :: .det 54 _ :: .det 55 _ :: .det 56 _ :: .det 57 _ :: .det 58 _ :: .det 59 _ :: .det 60 _ :: .det 61 _ :: .det 62 _ :: .det 63 _ :: .det 64 _ :: .det 65 _ :: .det 66 _ :: .det 67 _ :: .det 68 _ :: .det 69 _ :: .det 70 _ :: .det 71 _ :: .det 72 _ :: .det 73 _ :: .det 74 _ :: .det 75 _ :: .det 76 _ :: .det 77 _ :: .det 78 _ :: .det 79 _ :: [])) rfl rfl ?_
      refine Head.det rfl (fun β hβ => Det.norm (F' := ((45, _) :: (46, _) :: (47, _) :: (48, _) :: (49, _) :: (50, _) :: (51, _) :: (52, _) :: (53, _) :: (54, _) :: (55, _) :: (56, _) :: (57, _) :: (58, _) :: (59, _) :: (60, _) :: (61, _) :: (62, _) :: (63, _) :: (64, _) :: (65, _) :: (66, _) :: (67, _) :: (68, _) :: (69, _) :: (70, _) :: (71, _) :: (72, _) :: (73, _) :: (74, _) :: (75, _) :: (76, _) :: (77, _) :: (78, _) :: (79, _) :: (13, _) :: (12, _) :: (10, _) :: (9, _) :: (8, _) :: (7, _) :: (1, _) :: [])) (H' := [(_, _), (_, _), (_, _), (_, _), (_, _), (_, _)]) rfl rfl (det_assign rfl)) ?_
      refine Head.norm (k' := 36) (es' := (.det 45 _ :: .det 46 _ :: .det 47 _ :: .det 48 _ :: .det 49 _ :: .det 50 _ :: .det 51 _ :: .det 52 _ :: .det 53 _ :: .det 54 _ :: .det 55 _ :: .det 56 _ :: .det 57 _ :: .det 58 _ :: .det 59 _ :: .det 60 _ :: .det 61 _ :: .det 62 _ :: .det 63 _ :: .det 64 _ :: .det 65 _ :: .det 66 _ :: .det 67 _ :: .det 68 _ :: .det 69 _ :: .det 70 _ :: .det 71 _ :: .det 72 _ :: .det 73 _ :: .det 74 _ :: .det 75 _ :: .det 76 _ :: .det 77 _ :: .det 78 _ :: .det 79 _ :: .det 6 _ :: [])) rfl rfl ?_
      refine Head.done ⟨by kernel_rfl, fun β hβ => ?_⟩
      refine OpsW.norm (F' := ((45, _) :: (46, _) :: (47, _) :: (48, _) :: (49, _) :: (50, _) :: (51, _) :: (52, _) :: (53, _) :: (54, _) :: (55, _) :: (56, _) :: (57, _) :: (58, _) :: (59, _) :: (60, _) :: (61, _) :: (62, _) :: (63, _) :: (64, _) :: (65, _) :: (66, _) :: (67, _) :: (68, _) :: (69, _) :: (70, _) :: (71, _) :: (72, _) :: (73, _) :: (74, _) :: (75, _) :: (76, _) :: (77, _) :: (78, _) :: (79, _) :: (6, _) :: (13, _) :: (12, _) :: (10, _) :: (9, _) :: (8, _) :: (7, _) :: (1, _) :: [])) (H' := [(_, _), (_, _), (_, _), (_, _), (_, _), (_, _)]) rfl rfl ?_
      refine sNext ?_
      refine W.keep (F' := [(6, _)]) ⟨rfl, trivial⟩ ?_
      refine sRet ?_
      exact done1 Tryd.results4 (rv_tmp rfl) rfl

end Go.Cu
