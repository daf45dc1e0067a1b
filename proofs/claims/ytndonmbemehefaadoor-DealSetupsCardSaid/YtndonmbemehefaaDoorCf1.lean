/-
  The field's numbers: how they are written, which are the greater ones; a form's marks: the walks. Conditions: none.
-/
import Derived.Test.YtndonmbemehefaaDoorFr5
import Derived.Test.YtndonmbemehefaaDoorG1f
namespace Go.Cu
open Go Go.Vm Go.RowKit Go.Proofs 
attribute [local irreducible] W OpsW Det Fresh New Writes Vm.Pure Makes Changes ExternTo BuildTo ZeroTo FieldTo IndexTo BinTo SliceTo Vm.Enters
set_option linter.unusedVariables false
set_option linter.unusedSimpArgs false
variable {T : Nat → TypeId × Nat × Nat}

theorem at6n {f : Nat → Nat} {i j : Nat} (h : i < 6) (e : j = i) : (w6 f)[j]? = some (u64 (f i)) := by
  subst e
  have : j = 0 ∨ j = 1 ∨ j = 2 ∨ j = 3 ∨ j = 4 ∨ j = 5 := by omega
  rcases this with rfl | rfl | rfl | rfl | rfl | rfl <;> rfl
theorem bytes_word6 {V i : Nat} (h : i < 6) : bytes V 48 (8 * i) ++ bytes (lim V (5 - i)) 8 8 = bytes V 48 (8 * (i + 1)) := by
  rw [Nat.mul_succ, bytes_more V 48 (8 * i) 8, bytes_all]
  congr 1
  refine List.map_congr_left fun j hj => ?_
  have hj : j < 8 := by simpa using hj
  rw [byt_lim (by omega)]
  congr 2
  omega
def fst6 (V i : Nat) : List Value := bytes V 48 (8 * i) ++ List.replicate (48 - 8 * i) (u8 0)
theorem fst6_put {V i : Nat} (h : i < 6) : splice (8 * i) (bytes (lim V (5 - i)) 8 8) (fst6 V i) = some (fst6 V (i + 1)) := by
  have := splice_app (a := bytes V 48 (8 * i)) (new := bytes (lim V (5 - i)) 8 8) (c := List.replicate (48 - 8 * i) (u8 0)) (by rw [bytes_len, List.length_replicate]; omega)
  rw [bytes_len] at this
  unfold fst6
  rw [this, bytes_word6 h, bytes_len, List.drop_replicate]
  congr 3
theorem u58 : Tryd.prog.underlying 58 = some (.array 48 5) := by kernel_rfl
theorem z58 : TyZ Tryd.prog 58 (.agg (fst6 0 0).toArray) (fst6 0 0) := ⟨fun _ => by kernel_rfl, by kernel_rfl⟩
theorem fst6_6 {V : Nat} : fst6 V 6 = bytes V 48 48 := by unfold fst6; simp
/-- How a number of the field is written. -/
def fbytes (x : Fq) : List Value := bytes x.val 48 48
theorem fbytes_len (x : Fq) : (fbytes x).length = 48 := bytes_len _ _ _
theorem fbytes_one (x : Fq) : (fbytes x).all (·.oneCell') = true := bytes_one _ _ _
theorem fst6_len {V i : Nat} (h : i ≤ 6) : (fst6 V i).length = 48 := by unfold fst6; rw [List.length_append, bytes_len, List.length_replicate]; omega
theorem fst6_one {V i : Nat} : (fst6 V i).all (·.oneCell') = true := by
  unfold fst6; rw [List.all_append, bytes_one, List.all_replicate]; simp; exact .inr rfl
theorem fbytes_cons (x : Fq) : fbytes x = u8 (byt x.val 47) :: (fbytes x).tail := by unfold fbytes; rw [bytes_all]; rfl
/-! ### The greater one of a number and its negative -/
def largeF (x : Fq) : Bool := decide ((0 - x).val < x.val)
theorem lt_of_div {a b m : Nat} (hm : 0 < m) (h : a / m ≠ b / m) : a < b ↔ a / m < b / m := by
  constructor
  · intro hab
    have := Nat.div_le_div_right (c := m) (Nat.le_of_lt hab)
    omega
  · intro hab
    exact Nat.lt_of_div_lt_div hab
theorem lim_div (V i : Nat) : V / 18446744073709551616 ^ i = V / 18446744073709551616 ^ (i + 1) * 18446744073709551616 + lim V i := by
  unfold lim
  rw [Nat.pow_succ, ← Nat.div_div_eq_div_mul]
  have := Nat.div_add_mod (V / 18446744073709551616 ^ i) 18446744073709551616
  omega
theorem large_start (x : Fq) : x.val / 18446744073709551616 ^ 6 = (0 - x).val / 18446744073709551616 ^ 6 := by
  have h1 := x.lt
  have h2 := (0 - x).lt
  rw [Nat.div_eq_of_lt (Nat.lt_trans h1 (by decide)), Nat.div_eq_of_lt (Nat.lt_trans h2 (by decide))]
theorem large_same {V U k : Nat} (hk : k < 6) (h : V / 18446744073709551616 ^ (6 - k) = U / 18446744073709551616 ^ (6 - k)) (he : ((lim V (5 - k) : Nat) : Int) = ((lim U (5 - k) : Nat) : Int)) : V / 18446744073709551616 ^ (6 - (k + 1)) = U / 18446744073709551616 ^ (6 - (k + 1)) := by
  have h1 := lim_div V (5 - k)
  have h2 := lim_div U (5 - k)
  rw [show 5 - k + 1 = 6 - k by omega] at h1 h2
  rw [show 6 - (k + 1) = 5 - k by omega, h1, h2, h, Int.ofNat_inj.1 he]
theorem large_here {V U k : Nat} (hk : k < 6) (h : V / 18446744073709551616 ^ (6 - k) = U / 18446744073709551616 ^ (6 - k)) (he : ¬ ((lim V (5 - k) : Nat) : Int) = ((lim U (5 - k) : Nat) : Int)) :
    decide (((lim U (5 - k) : Nat) : Int) < ((lim V (5 - k) : Nat) : Int)) = decide (U < V) := by
  have h1 := lim_div V (5 - k)
  have h2 := lim_div U (5 - k)
  rw [show 5 - k + 1 = 6 - k by omega] at h1 h2
  rw [h] at h1
  have hm : 0 < 18446744073709551616 ^ (5 - k) := Nat.pow_pos (by decide)
  generalize U / 18446744073709551616 ^ (6 - k) = z at h1 h2
  have hd : U / 18446744073709551616 ^ (5 - k) ≠ V / 18446744073709551616 ^ (5 - k) := by omega
  have := lt_of_div hm hd
  rw [Bool.eq_iff_iff, decide_eq_true_iff, decide_eq_true_iff, this, h1, h2]
  omega
theorem large_end {V U : Nat} (h : V / 18446744073709551616 ^ (6 - 6) = U / 18446744073709551616 ^ (6 - 6)) : (false : Bool) = decide (U < V) := by
  simp only [Nat.sub_self, Nat.pow_zero, Nat.div_one] at h
  rw [h]; simp
/-- The marks of a form. -/
def flg (s n l : Bool) : Int := (cond s 128 0) + (cond n 64 0) + (cond (s && !n && l) 32 0)

theorem en61 : Vm.Enters Tryd.prog 61 := Vm.Enters.of fun _ _ => by kernel_rfl
theorem en89 : Vm.Enters Tryd.prog 89 := Vm.Enters.of fun _ _ => by kernel_rfl
theorem sz58 : sizeIn Tryd.prog 58 = some 48 := by kernel_rfl
theorem ty58 : TyA Tryd.prog 58 48 := ⟨by kernel_rfl, by kernel_rfl⟩
theorem fput_ok {x n : Nat} (hx : x < 18446744073709551616) (hn : 0 < n ∧ n ≤ 8) {w : World} (hG : Blocks (GH T) w)  : Makes Tryd.prog 89 #[.slice none 0 0, u64 x, .int .i64 (n : Nat)] w (fun p => .slice (some ⟨p.1, 0, none⟩) n p.2.1) (fun p => [(p.1, blk (bytes x n n ++ p.2.2) 5)]) (fun p => (bytes x n n ++ p.2.2).length = p.2.1 * 1) := by
  refine makes_of_W (n := 23) (args := [.slice none 0 0, u64 x, .int .i64 (n : Nat)]) Tryd.func89 rfl Tryd.ntmps89 (Nat.le_of_ble_eq_true rfl) hG ?_
  refine sStart ?_
  refine sSeq ?_
  refine W.region ?_
  refine OpsW.det (det_assign rfl) rfl ?_
  refine sNext ?_
  refine W.keep (F' := [(0, _), (1, _), (2, _)]) ⟨rfl, rfl, rfl, trivial⟩ ?_
  refine sSeq ?_
  refine sSeq ?_
  refine W.region ?_
  refine OpsW.det (det_move rfl) rfl ?_
  refine OpsW.det (det_subZ (c := ((n - 0 : Nat) : Int) - 1) rfl rfl (by omega) (by omega)) rfl ?_
  refine OpsW.det (det_assign rfl) rfl ?_
  refine sNext ?_
  refine W.keep (F' := [(7, _), (0, _), (1, _)]) ⟨rfl, rfl, rfl, trivial⟩ ?_
  refine sBlock ?_
  refine sLoop (σ := Nat × Value × Hp) (fun s => [(7, .int .i64 (((n - s.1 : Nat) : Int) - 1)), (1, u64 x), (0, s.2.1)]) (fun s => s.2.2) (fun s => s.1 ≤ n ∧ IsSl 5 1 s.2.1 s.1 s.2.2 (bytes x n s.1)) (fun s => n - s.1) (0, .slice none 0 0, []) ⟨Nat.zero_le _, .nil⟩ ⟨rfl, rfl, rfl, trivial⟩ (List.Sublist.refl _) ?_
  rintro ⟨k, v, hp⟩ ⟨hk, hsl⟩
  change IsSl 5 1 v k hp (bytes x n k) at hsl
  change k ≤ n at hk
  refine W.norm (F' := [(7, .int .i64 (((n - k : Nat) : Int) - 1)), (1, u64 x), (0, v)]) (H' := hp) rfl rfl ?_
  refine sSeq ?_
  refine sSeq ?_
  refine W.region ?_
  refine OpsW.det (det_move rfl) rfl ?_
  refine OpsW.det (det_geq rfl rfl) rfl ?_
  refine sNext ?_
  refine W.keep (F' := [(11, _), (7, _), (1, _), (0, _)]) ⟨rfl, rfl, rfl, rfl, trivial⟩ ?_
  refine W.cond rfl (fun hc11 => ?_) (fun hc11 => ?_)
  · skip
    have hkn : k < n := by have h := hc11; simp only [decide_eq_true_eq] at h; omega
    refine W.norm (F' := [(11, _), (7, .int .i64 ((n - 1 - k : Nat) : Int)), (1, u64 x), (0, v)]) (H' := hp) (by rw [show ((n - k : Nat) : Int) - 1 = ((n - 1 - k : Nat) : Int) by omega]) rfl ?_
    refine sSkip ?_
    refine sSeq ?_
    refine sBlock ?_
    refine W.region ?_
    refine OpsW.det (det_move rfl) rfl ?_
    refine OpsW.det (det_move rfl) rfl ?_
    refine OpsW.det (det_move rfl) rfl ?_
    refine OpsW.det ((det_mul rfl rfl).to (v := .int .i64 ((8 * (n - 1 - k) : Nat) : Int)) (by rw [wrap_i64 (by omega)]; congr 1)) rfl ?_
    refine OpsW.det (det_shrN rfl rfl (by omega)) rfl ?_
    refine OpsW.det ((det_conv u26 u5 rfl).to (v := u8 (byt x (n - 1 - k))) (by rw [wrap_u8, byt_eq]; rfl)) rfl ?_
    refine OpsW.fresh (fr_buildSlice rfl slice22) rfl fun b20 => ?_
    refine OpsW.perm (H' := hp ++ [(b20, blk [u8 (byt x (n - 1 - k))] 5)]) List.perm_append_comm ?_
    refine OpsW.append (dd := 21) ty22 rfl hsl rfl (.inl (List.mem_append_right _ (List.Mem.head _))) rfl (fun j u h => by simpa using h) rfl (by show k + 1 ≤ 9223372036854775807; omega) (by show (k + 1) * 1 ≤ 140737488355328; omega) rfl fun v' hp' hsl' => ?_
    refine OpsW.det (det_assign rfl) rfl ?_
    refine sLast ?_
    refine bNext ?_
    refine W.keep (F' := [(0, _), (7, _), (1, _)]) ⟨rfl, rfl, rfl, trivial⟩ ?_
    refine W.region ?_
    refine OpsW.det (det_move rfl) rfl ?_
    refine OpsW.det (det_subZ (c := ((n - (k + 1) : Nat) : Int) - 1) rfl rfl (by omega) (by omega)) rfl ?_
    refine OpsW.det (det_assign rfl) rfl ?_
    refine sLast ?_
    exact rEnd (k + 1, v', hp') ⟨by omega, hsl'⟩ ⟨rfl, rfl, rfl, trivial⟩ (List.sublist_append_left _ _) (by show n - (k + 1) < n - k; omega)
  · skip
    have hkn : k = n := by have h := hc11; simp only [decide_eq_false_iff_not] at h; omega
    subst hkn
    obtain ⟨p, rfl, rfl, hpp⟩ := isSl_at hsl hn.1
    refine sExit ?_
    refine xLoop ?_
    refine xHere ?_
    refine W.keep (F' := [(0, _)]) ⟨rfl, trivial⟩ ?_
    refine sSeq ?_
    refine W.region ?_
    refine OpsW.det (det_move rfl) rfl ?_
    refine OpsW.det (det_assign rfl) rfl ?_
    refine sNext ?_
    refine W.keep (F' := [(6, _)]) ⟨rfl, trivial⟩ ?_
    refine sRet ?_
    exact done1 Tryd.results89 (rv_tmp rfl) ⟨p, hpp, rfl, List.Sublist.refl _⟩
theorem FBytes_ok {x : Fq} {w : World} (hG : Blocks (GH T) w)  : Vm.Pure Tryd.prog 68 #[encF x] w (.agg (fbytes x).toArray) := by
  refine pure_of_W (n := 22) (args := [encF x]) Tryd.func68 rfl Tryd.ntmps68 (Nat.le_of_ble_eq_true rfl) hG ?_
  refine sStart ?_
  refine sSeq ?_
  refine W.region ?_
  refine OpsW.fresh (fr_box rfl rfl) rfl fun b1 => ?_
  refine OpsW.fresh (fr_alloc z58) rfl fun b2 => ?_
  refine sNext ?_
  refine W.keep (F' := [(2, _), (1, _)]) ⟨rfl, rfl, trivial⟩ ?_
  refine sSeq ?_
  refine W.region ?_
  refine OpsW.fresh (fr_alloc z58) rfl fun b3 => ?_
  refine sNext ?_
  refine sSeq ?_
  refine W.region ?_
  refine OpsW.det (det_loadA ty29 rfl (List.Mem.tail _ (List.Mem.tail _ (List.Mem.head _))) rfl) rfl ?_
  refine OpsW.det (det_call en61 rfl (fun w hb ho => Cu.Plain_ok ho.blocks)) rfl ?_
  refine OpsW.fresh (fr_alloc z27) rfl fun b4 => ?_
  refine OpsW.store sz27 rfl rfl rfl rfl rfl (Upd.here) rfl ?_
  refine sNext ?_
  refine W.keep (F' := [(4, _), (3, _), (2, _)]) ⟨rfl, rfl, rfl, trivial⟩ ?_
  refine sSeq ?_
  refine sSeq ?_
  refine W.region ?_
  refine OpsW.det (det_move rfl) rfl ?_
  refine sNext ?_
  refine sBlock ?_
  refine sLoop (σ := Nat) (fun i => [(8, .int .i64 (i : Nat)), (4, .pointer (some ⟨b4, 0, none⟩)), (3, .pointer (some ⟨b3, 0, none⟩)), (2, .pointer (some ⟨b2, 0, none⟩))]) (fun i => [(b4, blk (w6 (lim x.val)) 27), (b3, blk (fst6 x.val i) 58), (b2, blk (fst6 0 0) 58), (b1, blk (w6 (lim (mont x))) 29)]) (fun i => i ≤ 6) (fun i => 6 - i) 0 (by decide) ⟨rfl, rfl, rfl, rfl, trivial⟩ (List.Sublist.refl _) ?_
  intro i hi
  refine sSeq ?_
  refine W.region ?_
  refine OpsW.det (det_lss rfl rfl) rfl ?_
  refine sNext ?_
  refine sSeq ?_
  refine W.cond rfl (fun hc9 => ?_) (fun hc9 => ?_)
  · skip
    have hlt : i < 6 := by have h := hc9; simp only [decide_eq_true_eq] at h; omega
    refine sSkip ?_
    refine sSeq ?_
    refine sBlock ?_
    refine sSeq ?_
    refine W.region ?_
    refine OpsW.det (det_move rfl) rfl ?_
    refine OpsW.det (det_assign rfl) rfl ?_
    refine sNext ?_
    refine W.keep (F' := [(5, _), (8, _), (4, _), (3, _), (2, _)]) ⟨rfl, rfl, rfl, rfl, rfl, trivial⟩ ?_
    refine W.draw mixed 8 [[], [0], [0, 1], [], [3], [3, 4], [3, 4, 5], [3, 4, 5, 6], [0, 1, 2, 3, 4, 5, 6, 7]] (cl_lt (by decide)) ?_
    refine HeadR.start (cl_lt (by decide)) ?_
    refine HeadR.det rfl (fun β hβ => (det_move rfl)) ?_
    refine HeadR.det rfl (fun β hβ => ((det_mul rfl rfl).to (v := .int .i64 ((8 * i : Nat) : Int)) (by rw [wrap_i64 (by omega)]; congr 1))) ?_
    refine HeadR.det rfl (fun β hβ => ((det_sliceArr (lo := some (.tmp 12)) (hi := none) (l := 8 * i) (h := 48) u58 sz5 rfl ⟨_, rfl⟩ rfl (by omega) (by omega)).to (v := .slice (some ⟨b3, 8 * i, none⟩) (48 - 8 * i) (48 - 8 * i)) (by rw [if_neg (by omega)]; simp))) ?_
    refine HeadR.det rfl (fun β hβ => (det_move rfl)) ?_
    refine HeadR.det rfl (fun β hβ => (det_subZ (c := ((5 - i : Nat) : Int)) rfl rfl (by omega) (by omega))) ?_
    refine HeadR.det rfl (fun β hβ => (det_indexAddr_arr u27 sz26 rfl rfl ⟨by omega, by omega⟩)) ?_
    refine HeadR.det rfl (fun β hβ => (det_loadC ty26 rfl (List.Mem.head _) (at6n (f := lim x.val) (i := 5 - i) (by omega) (by omega)))) ?_
    refine HeadR.fresh rfl (fun β hβ => (new_call en89 rfl (fun w hb ho => fput_ok (x := lim x.val (5 - i)) (n := 8) (lim_lt _ _) (by decide) ho.blocks))) ?_
    refine HeadR.done ⟨by kernel_rfl, fun β hβ => ?_⟩
    refine OpsW.norm (F' := [(11, _), (12, _), (13, _), (14, _), (15, _), (16, _), (17, _), (18, .slice (some ⟨(β 18).1, 0, none⟩) 8 (β 18).2.1), (5, _), (8, _), (4, _), (3, _), (2, _)]) (H' := [(_, _), (_, _), (_, _), (_, _), (_, _)]) rfl rfl ?_
    generalize β 18 = p18
    refine OpsW.copy u22 sz5 rfl rfl (.inl (List.Mem.head _)) (by rw [bytes_len]; show 8 = min 8 (48 - 8 * i); omega) (fun j u h => by rw [Nat.zero_add, List.getElem?_append_left (List.getElem?_eq_some_iff.1 h).1]; exact h) (bytes_one _ _ _) (Upd.there (Upd.there Upd.here)) (fst6_put hlt) rfl ?_
    refine sLast ?_
    refine bNext ?_
    refine W.keep (F' := [(8, _), (4, _), (3, _), (2, _)]) ⟨rfl, rfl, rfl, rfl, trivial⟩ ?_
    refine W.region ?_
    refine OpsW.det (det_addN (b := 1) rfl rfl (idx_ok hlt (by decide))) rfl ?_
    refine OpsW.det (det_move rfl) rfl ?_
    refine sLast ?_
    exact rEnd (i + 1) hlt ⟨rfl, rfl, rfl, rfl, trivial⟩ (List.Sublist.cons _ (List.Sublist.refl _)) (step_lt hlt)
  · skip
    have hi6 : i = 6 := by have h := hc9; simp only [decide_eq_false_iff_not] at h; omega
    subst hi6
    refine sExit ?_
    refine xLoop ?_
    refine xHere ?_
    refine W.keep (F' := [(3, _), (2, _)]) ⟨rfl, rfl, trivial⟩ ?_
    refine sSeq ?_
    refine W.region ?_
    refine OpsW.det (det_loadA ty58 rfl (List.Mem.tail _ (List.Mem.head _)) (show cut 0 48 (fst6 x.val 6) = some (fst6 x.val 6) from cut_all (fst6_len (Nat.le_refl _)))) rfl ?_
    refine OpsW.store sz58 rfl rfl rfl (fst6_len (Nat.le_refl _)) fst6_one (Upd.there (Upd.there (Upd.here))) (splice_all (by rw [fst6_len (Nat.le_refl _), fst6_len (Nat.zero_le _)])) ?_
    refine sNext ?_
    refine W.keep (F' := [(2, _)]) ⟨rfl, trivial⟩ ?_
    refine sRet ?_
    exact done1 Tryd.results68 (rv_cellA ty58 rfl (List.Mem.tail _ (List.Mem.tail _ (List.Mem.head _))) (show cut 0 48 (fst6 x.val 6) = some (fst6 x.val 6) from cut_all (fst6_len (Nat.le_refl _)))) (congrArg (fun l : List Value => Value.agg l.toArray) fst6_6)
theorem Large_ok {x : Fq} {w : World} (hG : Blocks (GH T) w)  : Vm.Pure Tryd.prog 22 #[encF x] w (.bool (largeF x)) := by
  refine pure_of_W (n := 29) (args := [encF x]) Tryd.func22 rfl Tryd.ntmps22 (Nat.le_of_ble_eq_true rfl) hG ?_
  refine sStart ?_
  refine sSeq ?_
  refine W.region ?_
  refine OpsW.fresh (fr_box rfl rfl) rfl fun b1 => ?_
  refine OpsW.det (det_assign rfl) rfl ?_
  refine sNext ?_
  refine W.keep (F' := [(1, _)]) ⟨rfl, trivial⟩ ?_
  refine sSeq ?_
  refine W.draw mixed 7 [[], [0], [], [0, 1, 2], [0, 1, 2, 3], [], [], [0, 1, 2, 3, 4, 5, 6], [0, 1, 2, 3, 4, 5, 6, 7]] (cl_lt (by decide)) ?_
  refine HeadR.start (cl_lt (by decide)) ?_
  refine HeadR.det rfl (fun β hβ => (det_loadA ty29 rfl (List.Mem.head _) rfl)) ?_
  refine HeadR.det rfl (fun β hβ => (det_call en61 rfl (fun w hb ho => Cu.Plain_ok ho.blocks))) ?_
  refine HeadR.det rfl (fun β hβ => (det_loadA ty29 rfl (List.Mem.head _) rfl)) ?_
  refine HeadR.det rfl (fun β hβ => (det_call en23 rfl (fun w hb ho => Cu.Neg_ok ho.blocks))) ?_
  refine HeadR.det rfl (fun β hβ => (det_call en61 rfl (fun w hb ho => Cu.Plain_ok ho.blocks))) ?_
  refine HeadR.fresh rfl (fun β hβ => (fr_alloc z27).new) ?_
  refine HeadR.fresh rfl (fun β hβ => (fr_alloc z27).new) ?_
  refine HeadR.done ⟨by kernel_rfl, fun β hβ => ?_⟩
  refine OpsW.norm (F' := [(6, _), (7, _), (8, _), (9, _), (10, _), (3, .pointer (some ⟨(β 3).1, 0, none⟩)), (4, .pointer (some ⟨(β 4).1, 0, none⟩)), (1, _)]) (H' := [(_, _), (_, _), (_, _)]) rfl rfl ?_
  generalize (β 3).1 = b3
  generalize (β 4).1 = b4
  refine OpsW.store sz27 rfl rfl rfl rfl rfl (Upd.here) rfl ?_
  refine OpsW.store sz27 rfl rfl rfl rfl rfl (Upd.there (Upd.here)) rfl ?_
  refine sNext ?_
  refine W.keep (F' := [(3, _), (4, _)]) ⟨rfl, rfl, trivial⟩ ?_
  refine sSeq ?_
  refine sSeq ?_
  refine W.region ?_
  refine OpsW.det (det_assign rfl) rfl ?_
  refine sNext ?_
  refine sBlock ?_
  refine sLoop (σ := Nat) (fun k => [(5, .int .i64 ((5 : Int) - ((k : Nat) : Int))), (4, .pointer (some ⟨b4, 0, none⟩)), (3, .pointer (some ⟨b3, 0, none⟩))]) (fun k => [(b3, blk (w6 (lim x.val)) 27), (b4, blk (w6 (lim (0 - x).val)) 27)]) (fun k => k ≤ 6 ∧ x.val / 18446744073709551616 ^ (6 - k) = (0 - x).val / 18446744073709551616 ^ (6 - k)) (fun k => 6 - k) 0 ⟨by decide, large_start x⟩ ⟨rfl, rfl, rfl, trivial⟩ (List.Sublist.cons_cons _ (List.Sublist.cons_cons _ (List.nil_sublist _))) ?_
  rintro k ⟨hk6, hI⟩
  refine sSeq ?_
  refine sSeq ?_
  refine W.region ?_
  refine OpsW.det (det_move rfl) rfl ?_
  refine OpsW.det (det_geq (a := (5 : Int) - ((k : Nat) : Int)) (b := 0) rfl rfl) rfl ?_
  refine sNext ?_
  refine W.keep (F' := [(12, _), (5, _), (4, _), (3, _)]) ⟨rfl, rfl, rfl, rfl, trivial⟩ ?_
  refine W.cond rfl (fun hc12 => ?_) (fun hc12 => ?_)
  · skip
    have hk : k < 6 := by have h := hc12; simp only [decide_eq_true_eq] at h; omega
    refine sSkip ?_
    refine sSeq ?_
    refine sBlock ?_
    refine sSeq ?_
    refine W.draw mixed 7 [[], [0], [0, 1], [], [3], [3, 4], [0, 1, 2, 3, 4, 5]] (cl_lt (by decide)) ?_
    refine HeadR.start (cl_lt (by decide)) ?_
    refine HeadR.det rfl (fun β hβ => (det_move rfl)) ?_
    refine HeadR.det rfl (fun β hβ => (det_indexAddr_arr u27 sz26 rfl rfl ⟨by omega, by omega⟩)) ?_
    refine HeadR.det rfl (fun β hβ => (det_loadC ty26 rfl (List.Mem.head _) (at6n (f := lim x.val) (i := 5 - k) (by omega) (by omega)))) ?_
    refine HeadR.det rfl (fun β hβ => (det_move rfl)) ?_
    refine HeadR.det rfl (fun β hβ => (det_indexAddr_arr u27 sz26 rfl rfl ⟨by omega, by omega⟩)) ?_
    refine HeadR.det rfl (fun β hβ => (det_loadC ty26 rfl (List.Mem.tail _ (List.Mem.head _)) (at6n (f := lim (0 - x).val) (i := 5 - k) (by omega) (by omega)))) ?_
    refine HeadR.det rfl (fun β hβ => ((det_neq (a := ((lim x.val (5 - k) : Nat) : Int)) (b := ((lim (0 - x).val (5 - k) : Nat) : Int)) rfl rfl))) ?_
    refine HeadR.done ⟨by kernel_rfl, fun β hβ => ?_⟩
    refine OpsW.norm (F' := [(15, _), (16, _), (17, _), (18, _), (19, _), (20, _), (21, _), (12, _), (5, _), (4, _), (3, _)]) (H' := [(_, _), (_, _)]) rfl rfl ?_
    refine sNext ?_
    refine W.keep (F' := [(21, _), (5, _), (4, _), (3, _)]) ⟨rfl, rfl, rfl, rfl, trivial⟩ ?_
    refine W.cond rfl (fun hc21 => ?_) (fun hc21 => ?_)
    · skip
      refine sSeq ?_
      refine W.draw mixed 8 [[], [0], [0, 1], [], [3], [3, 4], [0, 1, 2, 3, 4, 5], [0, 1, 2, 3, 4, 5, 6]] (cl_lt (by decide)) ?_
      refine HeadR.start (cl_lt (by decide)) ?_
      refine HeadR.det rfl (fun β hβ => (det_move rfl)) ?_
      refine HeadR.det rfl (fun β hβ => (det_indexAddr_arr u27 sz26 rfl rfl ⟨by omega, by omega⟩)) ?_
      refine HeadR.det rfl (fun β hβ => (det_loadC ty26 rfl (List.Mem.head _) (at6n (f := lim x.val) (i := 5 - k) (by omega) (by omega)))) ?_
      refine HeadR.det rfl (fun β hβ => (det_move rfl)) ?_
      refine HeadR.det rfl (fun β hβ => (det_indexAddr_arr u27 sz26 rfl rfl ⟨by omega, by omega⟩)) ?_
      refine HeadR.det rfl (fun β hβ => (det_loadC ty26 rfl (List.Mem.tail _ (List.Mem.head _)) (at6n (f := lim (0 - x).val) (i := 5 - k) (by omega) (by omega)))) ?_
      refine HeadR.det rfl (fun β hβ => ((det_gtr (a := ((lim x.val (5 - k) : Nat) : Int)) (b := ((lim (0 - x).val (5 - k) : Nat) : Int)) rfl rfl))) ?_
      refine HeadR.det rfl (fun β hβ => (det_assign rfl)) ?_
      refine HeadR.done ⟨by kernel_rfl, fun β hβ => ?_⟩
      refine OpsW.norm (F' := [(22, _), (23, _), (24, _), (25, _), (26, _), (27, _), (28, _), (2, _), (21, _), (5, _), (4, _), (3, _)]) (H' := [(_, _), (_, _)]) rfl rfl ?_
      refine sNext ?_
      refine W.keep (F' := [(2, _)]) ⟨rfl, trivial⟩ ?_
      refine sRet ?_
      refine retBlk ?_
      refine retLoop ?_
      refine retBlk ?_
      exact done1 Tryd.results22 (rv_tmp rfl) (congrArg Value.bool (large_here hk hI (by have h := hc21; simpa using h)))
    · skip
      refine sSkip0 ?_
      refine bNext ?_
      refine W.keep (F' := [(5, _), (4, _), (3, _)]) ⟨rfl, rfl, rfl, trivial⟩ ?_
      refine W.region ?_
      refine OpsW.det (det_move rfl) rfl ?_
      refine OpsW.det (det_subZ (a := (5 : Int) - ((k : Nat) : Int)) (b := 1) (c := (5 : Int) - ((k + 1 : Nat) : Int)) rfl rfl (by omega) (by omega)) rfl ?_
      refine OpsW.det (det_assign rfl) rfl ?_
      refine sLast ?_
      exact rEnd (k + 1) ⟨hk, large_same hk hI (by have h := hc21; simpa using h)⟩ ⟨rfl, rfl, rfl, trivial⟩ (List.Sublist.refl _) (step_lt hk)
  · skip
    have hk : k = 6 := by have h := hc12; simp only [decide_eq_false_iff_not] at h; omega
    subst hk
    refine sExit ?_
    refine xLoop ?_
    refine xHere ?_
    refine W.keep (F' := []) trivial ?_
    refine sSeq ?_
    refine W.region ?_
    refine OpsW.det (det_assign rfl) rfl ?_
    refine sNext ?_
    refine sRet ?_
    exact done1 Tryd.results22 (rv_tmp rfl) (congrArg Value.bool (large_end hI))
theorem flags_ok {s n l : Bool} {w : World} (hG : Blocks (GH T) w)  : Vm.Pure Tryd.prog 69 #[.bool s, .bool n, .bool l] w (.int .u8 (flg s n l)) := by
  refine pure_of_W (n := 25) (args := [.bool s, .bool n, .bool l]) Tryd.func69 rfl Tryd.ntmps69 (Nat.le_of_ble_eq_true rfl) hG ?_
  refine sStart ?_
  refine sSeq ?_
  refine W.region ?_
  refine OpsW.det (det_assign rfl) rfl ?_
  refine sNext ?_
  refine W.keep (F' := [(0, _), (1, _), (2, _)]) ⟨rfl, rfl, rfl, trivial⟩ ?_
  refine sSeq ?_
  rcases s with _ | _ <;> rcases n with _ | _ <;> rcases l with _ | _
  · skip
    refine W.region ?_
    refine OpsW.det (det_assign rfl) rfl ?_
    refine sNext ?_
    refine sSeq ?_
    refine sSeq ?_
    refine W.region ?_
    refine OpsW.det (det_move rfl) rfl ?_
    refine sNext ?_
    refine W.cond_false rfl ?_
    refine sSkip ?_
    refine sSeq ?_
    refine sSeq ?_
    refine W.region ?_
    refine OpsW.det (det_move rfl) rfl ?_
    refine sNext ?_
    refine W.keep (F' := [(11, _), (7, _), (0, _), (1, _), (2, _)]) ⟨rfl, rfl, rfl, rfl, rfl, trivial⟩ ?_
    refine W.cond_false rfl ?_
    refine sSkip ?_
    refine sSeq ?_
    refine sSeq ?_
    refine W.region ?_
    refine OpsW.det (det_move rfl) rfl ?_
    refine OpsW.det (det_move rfl) rfl ?_
    refine OpsW.guard_no rfl rfl rfl ?_
    refine OpsW.guard_no rfl rfl rfl ?_
    refine OpsW.det (det_pick rfl rfl) rfl ?_
    refine OpsW.det (det_move rfl) rfl ?_
    refine OpsW.guard_no rfl rfl rfl ?_
    refine OpsW.det (det_pick rfl rfl) rfl ?_
    refine sNext ?_
    refine W.keep (F' := [(21, _), (7, _)]) ⟨rfl, rfl, trivial⟩ ?_
    refine W.cond_false rfl ?_
    refine sSkip ?_
    refine sSeq ?_
    refine W.region ?_
    refine OpsW.det (det_move rfl) rfl ?_
    refine OpsW.det (det_assign rfl) rfl ?_
    refine sNext ?_
    refine W.keep (F' := [(6, _)]) ⟨rfl, trivial⟩ ?_
    refine sRet ?_
    exact done1 Tryd.results69 (rv_tmp rfl) (by kernel_rfl)
  · skip
    refine W.region ?_
    refine OpsW.det (det_assign rfl) rfl ?_
    refine sNext ?_
    refine sSeq ?_
    refine sSeq ?_
    refine W.region ?_
    refine OpsW.det (det_move rfl) rfl ?_
    refine sNext ?_
    refine W.cond_false rfl ?_
    refine sSkip ?_
    refine sSeq ?_
    refine sSeq ?_
    refine W.region ?_
    refine OpsW.det (det_move rfl) rfl ?_
    refine sNext ?_
    refine W.keep (F' := [(11, _), (7, _), (0, _), (1, _), (2, _)]) ⟨rfl, rfl, rfl, rfl, rfl, trivial⟩ ?_
    refine W.cond_false rfl ?_
    refine sSkip ?_
    refine sSeq ?_
    refine sSeq ?_
    refine W.region ?_
    refine OpsW.det (det_move rfl) rfl ?_
    refine OpsW.det (det_move rfl) rfl ?_
    refine OpsW.guard_no rfl rfl rfl ?_
    refine OpsW.guard_no rfl rfl rfl ?_
    refine OpsW.det (det_pick rfl rfl) rfl ?_
    refine OpsW.det (det_move rfl) rfl ?_
    refine OpsW.guard_no rfl rfl rfl ?_
    refine OpsW.det (det_pick rfl rfl) rfl ?_
    refine sNext ?_
    refine W.keep (F' := [(21, _), (7, _)]) ⟨rfl, rfl, trivial⟩ ?_
    refine W.cond_false rfl ?_
    refine sSkip ?_
    refine sSeq ?_
    refine W.region ?_
    refine OpsW.det (det_move rfl) rfl ?_
    refine OpsW.det (det_assign rfl) rfl ?_
    refine sNext ?_
    refine W.keep (F' := [(6, _)]) ⟨rfl, trivial⟩ ?_
    refine sRet ?_
    exact done1 Tryd.results69 (rv_tmp rfl) (by kernel_rfl)
  · skip
    refine W.region ?_
    refine OpsW.det (det_assign rfl) rfl ?_
    refine sNext ?_
    refine sSeq ?_
    refine sSeq ?_
    refine W.region ?_
    refine OpsW.det (det_move rfl) rfl ?_
    refine sNext ?_
    refine W.cond_false rfl ?_
    refine sSkip ?_
    refine sSeq ?_
    refine sSeq ?_
    refine W.region ?_
    refine OpsW.det (det_move rfl) rfl ?_
    refine sNext ?_
    refine W.keep (F' := [(11, _), (7, _), (0, _), (1, _), (2, _)]) ⟨rfl, rfl, rfl, rfl, rfl, trivial⟩ ?_
    refine W.cond_true rfl ?_
    refine W.region ?_
    refine OpsW.det (det_move rfl) rfl ?_
    refine OpsW.det (det_or rfl rfl) rfl ?_
    refine OpsW.det (det_assign rfl) rfl ?_
    refine sNext ?_
    refine W.keep (F' := [(7, _), (0, _), (1, _), (2, _)]) ⟨rfl, rfl, rfl, rfl, trivial⟩ ?_
    refine sSeq ?_
    refine sSeq ?_
    refine W.region ?_
    refine OpsW.det (det_move rfl) rfl ?_
    refine OpsW.det (det_move rfl) rfl ?_
    refine OpsW.guard_no rfl rfl rfl ?_
    refine OpsW.guard_no rfl rfl rfl ?_
    refine OpsW.det (det_pick rfl rfl) rfl ?_
    refine OpsW.det (det_move rfl) rfl ?_
    refine OpsW.guard_no rfl rfl rfl ?_
    refine OpsW.det (det_pick rfl rfl) rfl ?_
    refine sNext ?_
    refine W.keep (F' := [(21, _), (7, _)]) ⟨rfl, rfl, trivial⟩ ?_
    refine W.cond_false rfl ?_
    refine sSkip ?_
    refine sSeq ?_
    refine W.region ?_
    refine OpsW.det (det_move rfl) rfl ?_
    refine OpsW.det (det_assign rfl) rfl ?_
    refine sNext ?_
    refine W.keep (F' := [(6, _)]) ⟨rfl, trivial⟩ ?_
    refine sRet ?_
    exact done1 Tryd.results69 (rv_tmp rfl) (by kernel_rfl)
  · skip
    refine W.region ?_
    refine OpsW.det (det_assign rfl) rfl ?_
    refine sNext ?_
    refine sSeq ?_
    refine sSeq ?_
    refine W.region ?_
    refine OpsW.det (det_move rfl) rfl ?_
    refine sNext ?_
    refine W.cond_false rfl ?_
    refine sSkip ?_
    refine sSeq ?_
    refine sSeq ?_
    refine W.region ?_
    refine OpsW.det (det_move rfl) rfl ?_
    refine sNext ?_
    refine W.keep (F' := [(11, _), (7, _), (0, _), (1, _), (2, _)]) ⟨rfl, rfl, rfl, rfl, rfl, trivial⟩ ?_
    refine W.cond_true rfl ?_
    refine W.region ?_
    refine OpsW.det (det_move rfl) rfl ?_
    refine OpsW.det (det_or rfl rfl) rfl ?_
    refine OpsW.det (det_assign rfl) rfl ?_
    refine sNext ?_
    refine W.keep (F' := [(7, _), (0, _), (1, _), (2, _)]) ⟨rfl, rfl, rfl, rfl, trivial⟩ ?_
    refine sSeq ?_
    refine sSeq ?_
    refine W.region ?_
    refine OpsW.det (det_move rfl) rfl ?_
    refine OpsW.det (det_move rfl) rfl ?_
    refine OpsW.guard_no rfl rfl rfl ?_
    refine OpsW.guard_no rfl rfl rfl ?_
    refine OpsW.det (det_pick rfl rfl) rfl ?_
    refine OpsW.det (det_move rfl) rfl ?_
    refine OpsW.guard_no rfl rfl rfl ?_
    refine OpsW.det (det_pick rfl rfl) rfl ?_
    refine sNext ?_
    refine W.keep (F' := [(21, _), (7, _)]) ⟨rfl, rfl, trivial⟩ ?_
    refine W.cond_false rfl ?_
    refine sSkip ?_
    refine sSeq ?_
    refine W.region ?_
    refine OpsW.det (det_move rfl) rfl ?_
    refine OpsW.det (det_assign rfl) rfl ?_
    refine sNext ?_
    refine W.keep (F' := [(6, _)]) ⟨rfl, trivial⟩ ?_
    refine sRet ?_
    exact done1 Tryd.results69 (rv_tmp rfl) (by kernel_rfl)
  · skip
    refine W.region ?_
    refine OpsW.det (det_assign rfl) rfl ?_
    refine sNext ?_
    refine sSeq ?_
    refine sSeq ?_
    refine W.region ?_
    refine OpsW.det (det_move rfl) rfl ?_
    refine sNext ?_
    refine W.cond_true rfl ?_
    refine W.region ?_
    refine OpsW.det (det_move rfl) rfl ?_
    refine OpsW.det (det_or rfl rfl) rfl ?_
    refine OpsW.det (det_assign rfl) rfl ?_
    refine sNext ?_
    refine W.keep (F' := [(7, _), (0, _), (1, _), (2, _)]) ⟨rfl, rfl, rfl, rfl, trivial⟩ ?_
    refine sSeq ?_
    refine sSeq ?_
    refine W.region ?_
    refine OpsW.det (det_move rfl) rfl ?_
    refine sNext ?_
    refine W.cond_false rfl ?_
    refine sSkip ?_
    refine sSeq ?_
    refine sSeq ?_
    refine W.region ?_
    refine OpsW.det (det_move rfl) rfl ?_
    refine OpsW.det (det_move rfl) rfl ?_
    refine OpsW.guard_yes rfl rfl ?_
    refine OpsW.det (det_move rfl) rfl ?_
    refine OpsW.guard_yes rfl rfl ?_
    refine OpsW.det (det_not rfl) rfl ?_
    refine OpsW.det (det_pick rfl rfl) rfl ?_
    refine OpsW.det (det_move rfl) rfl ?_
    refine OpsW.guard_yes rfl rfl ?_
    refine OpsW.det (det_move rfl) rfl ?_
    refine OpsW.det (det_pick rfl rfl) rfl ?_
    refine sNext ?_
    refine W.keep (F' := [(21, _), (7, _)]) ⟨rfl, rfl, trivial⟩ ?_
    refine W.cond_false rfl ?_
    refine sSkip ?_
    refine sSeq ?_
    refine W.region ?_
    refine OpsW.det (det_move rfl) rfl ?_
    refine OpsW.det (det_assign rfl) rfl ?_
    refine sNext ?_
    refine W.keep (F' := [(6, _)]) ⟨rfl, trivial⟩ ?_
    refine sRet ?_
    exact done1 Tryd.results69 (rv_tmp rfl) (by kernel_rfl)
  · skip
    refine W.region ?_
    refine OpsW.det (det_assign rfl) rfl ?_
    refine sNext ?_
    refine sSeq ?_
    refine sSeq ?_
    refine W.region ?_
    refine OpsW.det (det_move rfl) rfl ?_
    refine sNext ?_
    refine W.cond_true rfl ?_
    refine W.region ?_
    refine OpsW.det (det_move rfl) rfl ?_
    refine OpsW.det (det_or rfl rfl) rfl ?_
    refine OpsW.det (det_assign rfl) rfl ?_
    refine sNext ?_
    refine W.keep (F' := [(7, _), (0, _), (1, _), (2, _)]) ⟨rfl, rfl, rfl, rfl, trivial⟩ ?_
    refine sSeq ?_
    refine sSeq ?_
    refine W.region ?_
    refine OpsW.det (det_move rfl) rfl ?_
    refine sNext ?_
    refine W.cond_false rfl ?_
    refine sSkip ?_
    refine sSeq ?_
    refine sSeq ?_
    refine W.region ?_
    refine OpsW.det (det_move rfl) rfl ?_
    refine OpsW.det (det_move rfl) rfl ?_
    refine OpsW.guard_yes rfl rfl ?_
    refine OpsW.det (det_move rfl) rfl ?_
    refine OpsW.guard_yes rfl rfl ?_
    refine OpsW.det (det_not rfl) rfl ?_
    refine OpsW.det (det_pick rfl rfl) rfl ?_
    refine OpsW.det (det_move rfl) rfl ?_
    refine OpsW.guard_yes rfl rfl ?_
    refine OpsW.det (det_move rfl) rfl ?_
    refine OpsW.det (det_pick rfl rfl) rfl ?_
    refine sNext ?_
    refine W.keep (F' := [(21, _), (7, _)]) ⟨rfl, rfl, trivial⟩ ?_
    refine W.cond_true rfl ?_
    refine W.region ?_
    refine OpsW.det (det_move rfl) rfl ?_
    refine OpsW.det (det_or rfl rfl) rfl ?_
    refine OpsW.det (det_assign rfl) rfl ?_
    refine sNext ?_
    refine W.keep (F' := [(7, _)]) ⟨rfl, trivial⟩ ?_
    refine sSeq ?_
    refine W.region ?_
    refine OpsW.det (det_move rfl) rfl ?_
    refine OpsW.det (det_assign rfl) rfl ?_
    refine sNext ?_
    refine W.keep (F' := [(6, _)]) ⟨rfl, trivial⟩ ?_
    refine sRet ?_
    exact done1 Tryd.results69 (rv_tmp rfl) (by kernel_rfl)
  · skip
    refine W.region ?_
    refine OpsW.det (det_assign rfl) rfl ?_
    refine sNext ?_
    refine sSeq ?_
    refine sSeq ?_
    refine W.region ?_
    refine OpsW.det (det_move rfl) rfl ?_
    refine sNext ?_
    refine W.cond_true rfl ?_
    refine W.region ?_
    refine OpsW.det (det_move rfl) rfl ?_
    refine OpsW.det (det_or rfl rfl) rfl ?_
    refine OpsW.det (det_assign rfl) rfl ?_
    refine sNext ?_
    refine W.keep (F' := [(7, _), (0, _), (1, _), (2, _)]) ⟨rfl, rfl, rfl, rfl, trivial⟩ ?_
    refine sSeq ?_
    refine sSeq ?_
    refine W.region ?_
    refine OpsW.det (det_move rfl) rfl ?_
    refine sNext ?_
    refine W.cond_true rfl ?_
    refine W.region ?_
    refine OpsW.det (det_move rfl) rfl ?_
    refine OpsW.det (det_or rfl rfl) rfl ?_
    refine OpsW.det (det_assign rfl) rfl ?_
    refine sNext ?_
    refine W.keep (F' := [(7, _), (0, _), (1, _), (2, _)]) ⟨rfl, rfl, rfl, rfl, trivial⟩ ?_
    refine sSeq ?_
    refine sSeq ?_
    refine W.region ?_
    refine OpsW.det (det_move rfl) rfl ?_
    refine OpsW.det (det_move rfl) rfl ?_
    refine OpsW.guard_yes rfl rfl ?_
    refine OpsW.det (det_move rfl) rfl ?_
    refine OpsW.guard_yes rfl rfl ?_
    refine OpsW.det (det_not rfl) rfl ?_
    refine OpsW.det (det_pick rfl rfl) rfl ?_
    refine OpsW.det (det_move rfl) rfl ?_
    refine OpsW.guard_no rfl rfl rfl ?_
    refine OpsW.det (det_pick rfl rfl) rfl ?_
    refine sNext ?_
    refine W.keep (F' := [(21, _), (7, _)]) ⟨rfl, rfl, trivial⟩ ?_
    refine W.cond_false rfl ?_
    refine sSkip ?_
    refine sSeq ?_
    refine W.region ?_
    refine OpsW.det (det_move rfl) rfl ?_
    refine OpsW.det (det_assign rfl) rfl ?_
    refine sNext ?_
    refine W.keep (F' := [(6, _)]) ⟨rfl, trivial⟩ ?_
    refine sRet ?_
    exact done1 Tryd.results69 (rv_tmp rfl) (by kernel_rfl)
  · skip
    refine W.region ?_
    refine OpsW.det (det_assign rfl) rfl ?_
    refine sNext ?_
    refine sSeq ?_
    refine sSeq ?_
    refine W.region ?_
    refine OpsW.det (det_move rfl) rfl ?_
    refine sNext ?_
    refine W.cond_true rfl ?_
    refine W.region ?_
    refine OpsW.det (det_move rfl) rfl ?_
    refine OpsW.det (det_or rfl rfl) rfl ?_
    refine OpsW.det (det_assign rfl) rfl ?_
    refine sNext ?_
    refine W.keep (F' := [(7, _), (0, _), (1, _), (2, _)]) ⟨rfl, rfl, rfl, rfl, trivial⟩ ?_
    refine sSeq ?_
    refine sSeq ?_
    refine W.region ?_
    refine OpsW.det (det_move rfl) rfl ?_
    refine sNext ?_
    refine W.cond_true rfl ?_
    refine W.region ?_
    refine OpsW.det (det_move rfl) rfl ?_
    refine OpsW.det (det_or rfl rfl) rfl ?_
    refine OpsW.det (det_assign rfl) rfl ?_
    refine sNext ?_
    refine W.keep (F' := [(7, _), (0, _), (1, _), (2, _)]) ⟨rfl, rfl, rfl, rfl, trivial⟩ ?_
    refine sSeq ?_
    refine sSeq ?_
    refine W.region ?_
    refine OpsW.det (det_move rfl) rfl ?_
    refine OpsW.det (det_move rfl) rfl ?_
    refine OpsW.guard_yes rfl rfl ?_
    refine OpsW.det (det_move rfl) rfl ?_
    refine OpsW.guard_yes rfl rfl ?_
    refine OpsW.det (det_not rfl) rfl ?_
    refine OpsW.det (det_pick rfl rfl) rfl ?_
    refine OpsW.det (det_move rfl) rfl ?_
    refine OpsW.guard_no rfl rfl rfl ?_
    refine OpsW.det (det_pick rfl rfl) rfl ?_
    refine sNext ?_
    refine W.keep (F' := [(21, _), (7, _)]) ⟨rfl, rfl, trivial⟩ ?_
    refine W.cond_false rfl ?_
    refine sSkip ?_
    refine sSeq ?_
    refine W.region ?_
    refine OpsW.det (det_move rfl) rfl ?_
    refine OpsW.det (det_assign rfl) rfl ?_
    refine sNext ?_
    refine W.keep (F' := [(6, _)]) ⟨rfl, trivial⟩ ?_
    refine sRet ?_
    exact done1 Tryd.results69 (rv_tmp rfl) (by kernel_rfl)

end Go.Cu
