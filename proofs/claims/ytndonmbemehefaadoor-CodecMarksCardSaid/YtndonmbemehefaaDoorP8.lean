/-
  Part 8 of the joined texts of the curves' laws: The field's numbers: how they are written, which are the greater ones; a form's marks: the walks. Conditions: none.
  Conditions: those that each theorem states.
-/
import Derived.Test.YtndonmbemehefaaDoorP4
import Derived.Test.YtndonmbemehefaaDoorP5
import Derived.Test.YtndonmbemehefaaDoorP7
import Derived.Test.YtndonmbemehefaaDoorP2
/- The field's numbers: how they are written, which are the greater ones; a form's marks: the walks. Conditions: none. -/
namespace Go.Cu
open Go Go.Vm Go.RowKit Go.Proofs 
attribute [local irreducible] W OpsW Det Fresh New Writes Vm.Pure Makes Changes ExternTo BuildTo ZeroTo FieldTo IndexTo BinTo SliceTo Vm.Enters
set_option linter.unusedVariables false
set_option linter.unusedSimpArgs false
variable {T : Nat → TypeId × Nat × Nat}

theorem at6n {f : Nat → Nat} {i j : Nat} (h : i < 6) (e : j = i) : (w6 f)[j]? = some (u64 (f i)) := by
  subst e
  have : j = 0 ∨ j = 1 ∨ j = 2 ∨ j = 3 ∨ j = 4 ∨ j = 5 := by omega
  rcases this with rfl | rfl | rfl | rfl | rfl | rfl <;> rfl
theorem bytes_word6 {V i : Nat} (h : i < 6) : bytes V 48 (8 * i) ++ bytes (lim V (5 - i)) 8 8 = bytes V 48 (8 * (i + 1)) := by
  rw [Nat.mul_succ, bytes_more V 48 (8 * i) 8, bytes_all]
  congr 1
  refine List.map_congr_left fun j hj => ?_
  have hj : j < 8 := by simpa using hj
  rw [byt_lim (by omega)]
  congr 2
  omega
def fst6 (V i : Nat) : List Value := bytes V 48 (8 * i) ++ List.replicate (48 - 8 * i) (u8 0)
theorem fst6_put {V i : Nat} (h : i < 6) : splice (8 * i) (bytes (lim V (5 - i)) 8 8) (fst6 V i) = some (fst6 V (i + 1)) := by
  have := splice_app (a := bytes V 48 (8 * i)) (new := bytes (lim V (5 - i)) 8 8) (c := List.replicate (48 - 8 * i) (u8 0)) (by rw [bytes_len, List.length_replicate]; omega)
  rw [bytes_len] at this
  unfold fst6
  rw [this, bytes_word6 h, bytes_len, List.drop_replicate]
  congr 3
theorem u58 : Tryd.prog.underlying 58 = some (.array 48 5) := by kernel_rfl
theorem z58 : TyZ Tryd.prog 58 (.agg (fst6 0 0).toArray) (fst6 0 0) := ⟨fun _ => by kernel_rfl, by kernel_rfl⟩
theorem fst6_6 {V : Nat} : fst6 V 6 = bytes V 48 48 := by unfold fst6; simp
/-- How a number of the field is written. -/
def fbytes (x : Fq) : List Value := bytes x.val 48 48
theorem fbytes_len (x : Fq) : (fbytes x).length = 48 := bytes_len _ _ _
theorem fbytes_one (x : Fq) : (fbytes x).all (·.oneCell') = true := bytes_one _ _ _
theorem fst6_len {V i : Nat} (h : i ≤ 6) : (fst6 V i).length = 48 := by unfold fst6; rw [List.length_append, bytes_len, List.length_replicate]; omega
theorem fst6_one {V i : Nat} : (fst6 V i).all (·.oneCell') = true := by
  unfold fst6; rw [List.all_append, bytes_one, List.all_replicate]; simp; exact .inr rfl
theorem fbytes_cons (x : Fq) : fbytes x = u8 (byt x.val 47) :: (fbytes x).tail := by unfold fbytes; rw [bytes_all]; rfl
/-! ### The greater one of a number and its negative -/
def largeF (x : Fq) : Bool := decide ((0 - x).val < x.val)
theorem lt_of_div {a b m : Nat} (hm : 0 < m) (h : a / m ≠ b / m) : a < b ↔ a / m < b / m := by
  constructor
  · intro hab
    have := Nat.div_le_div_right (c := m) (Nat.le_of_lt hab)
    omega
  · intro hab
    exact Nat.lt_of_div_lt_div hab
theorem lim_div (V i : Nat) : V / 18446744073709551616 ^ i = V / 18446744073709551616 ^ (i + 1) * 18446744073709551616 + lim V i := by
  unfold lim
  rw [Nat.pow_succ, ← Nat.div_div_eq_div_mul]
  have := Nat.div_add_mod (V / 18446744073709551616 ^ i) 18446744073709551616
  omega
theorem large_start (x : Fq) : x.val / 18446744073709551616 ^ 6 = (0 - x).val / 18446744073709551616 ^ 6 := by
  have h1 := x.lt
  have h2 := (0 - x).lt
  rw [Nat.div_eq_of_lt (Nat.lt_trans h1 (by decide)), Nat.div_eq_of_lt (Nat.lt_trans h2 (by decide))]
theorem large_same {V U k : Nat} (hk : k < 6) (h : V / 18446744073709551616 ^ (6 - k) = U / 18446744073709551616 ^ (6 - k)) (he : ((lim V (5 - k) : Nat) : Int) = ((lim U (5 - k) : Nat) : Int)) : V / 18446744073709551616 ^ (6 - (k + 1)) = U / 18446744073709551616 ^ (6 - (k + 1)) := by
  have h1 := lim_div V (5 - k)
  have h2 := lim_div U (5 - k)
  rw [show 5 - k + 1 = 6 - k by omega] at h1 h2
  rw [show 6 - (k + 1) = 5 - k by omega, h1, h2, h, Int.ofNat_inj.1 he]
theorem large_here {V U k : Nat} (hk : k < 6) (h : V / 18446744073709551616 ^ (6 - k) = U / 18446744073709551616 ^ (6 - k)) (he : ¬ ((lim V (5 - k) : Nat) : Int) = ((lim U (5 - k) : Nat) : Int)) :
    decide (((lim U (5 - k) : Nat) : Int) < ((lim V (5 - k) : Nat) : Int)) = decide (U < V) := by
  have h1 := lim_div V (5 - k)
  have h2 := lim_div U (5 - k)
  rw [show 5 - k + 1 = 6 - k by omega] at h1 h2
  rw [h] at h1
  have hm : 0 < 18446744073709551616 ^ (5 - k) := Nat.pow_pos (by decide)
  generalize U / 18446744073709551616 ^ (6 - k) = z at h1 h2
  have hd : U / 18446744073709551616 ^ (5 - k) ≠ V / 18446744073709551616 ^ (5 - k) := by omega
  have := lt_of_div hm hd
  rw [Bool.eq_iff_iff, decide_eq_true_iff, decide_eq_true_iff, this, h1, h2]
  omega
theorem large_end {V U : Nat} (h : V / 18446744073709551616 ^ (6 - 6) = U / 18446744073709551616 ^ (6 - 6)) : (false : Bool) = decide (U < V) := by
  simp only [Nat.sub_self, Nat.pow_zero, Nat.div_one] at h
  rw [h]; simp
/-- The marks of a form. -/
def flg (s n l : Bool) : Int := (cond s 128 0) + (cond n 64 0) + (cond (s && !n && l) 32 0)

theorem en61 : Vm.Enters Tryd.prog 61 := Vm.Enters.of fun _ _ => by kernel_rfl
theorem en89 : Vm.Enters Tryd.prog 89 := Vm.Enters.of fun _ _ => by kernel_rfl
theorem sz58 : sizeIn Tryd.prog 58 = some 48 := by kernel_rfl
theorem ty58 : TyA Tryd.prog 58 48 := ⟨by kernel_rfl, by kernel_rfl⟩
theorem fput_ok {x n : Nat} (hx : x < 18446744073709551616) (hn : 0 < n ∧ n ≤ 8) {w : World} (hG : Blocks (GH T) w)  : Makes Tryd.prog 89 #[.slice none 0 0, u64 x, .int .i64 (n : Nat)] w (fun p => .slice (some ⟨p.1, 0, none⟩) n p.2.1) (fun p => [(p.1, blk (bytes x n n ++ p.2.2) 5)]) (fun p => (bytes x n n ++ p.2.2).length = p.2.1 * 1) := by
  refine makes_of_W (n := 23) (args := [.slice none 0 0, u64 x, .int .i64 (n : Nat)]) Tryd.func89 rfl Tryd.ntmps89 (Nat.le_of_ble_eq_true rfl) hG ?_
  refine sStart ?_
  refine sSeq ?_
  refine W.region ?_
  refine OpsW.det (det_assign rfl) rfl ?_
  refine sNext ?_
  refine W.keep (F' := [(0, _), (1, _), (2, _)]) ⟨rfl, rfl, rfl, trivial⟩ ?_
  refine sSeq ?_
  refine sSeq ?_
  refine W.region ?_
  refine OpsW.det (det_move rfl) rfl ?_
  refine OpsW.det (det_subZ (c := ((n - 0 : Nat) : Int) - 1) rfl rfl (by omega) (by omega)) rfl ?_
  refine OpsW.det (det_assign rfl) rfl ?_
  refine sNext ?_
  refine W.keep (F' := [(7, _), (0, _), (1, _)]) ⟨rfl, rfl, rfl, trivial⟩ ?_
  refine sBlock ?_
  refine sLoop (σ := Nat × Value × Hp) (fun s => [(7, .int .i64 (((n - s.1 : Nat) : Int) - 1)), (1, u64 x), (0, s.2.1)]) (fun s => s.2.2) (fun s => s.1 ≤ n ∧ IsSl 5 1 s.2.1 s.1 s.2.2 (bytes x n s.1)) (fun s => n - s.1) (0, .slice none 0 0, []) ⟨Nat.zero_le _, .nil⟩ ⟨rfl, rfl, rfl, trivial⟩ (List.Sublist.refl _) ?_
  rintro ⟨k, v, hp⟩ ⟨hk, hsl⟩
  change IsSl 5 1 v k hp (bytes x n k) at hsl
  change k ≤ n at hk
  refine W.norm (F' := [(7, .int .i64 (((n - k : Nat) : Int) - 1)), (1, u64 x), (0, v)]) (H' := hp) rfl rfl ?_
  refine sSeq ?_
  refine sSeq ?_
  refine W.region ?_
  refine OpsW.det (det_move rfl) rfl ?_
  refine OpsW.det (det_geq rfl rfl) rfl ?_
  refine sNext ?_
  refine W.keep (F' := [(11, _), (7, _), (1, _), (0, _)]) ⟨rfl, rfl, rfl, rfl, trivial⟩ ?_
  refine W.cond rfl (fun hc11 => ?_) (fun hc11 => ?_)
  · skip
    have hkn : k < n := by have h := hc11; simp only [decide_eq_true_eq] at h; omega
    refine W.norm (F' := [(11, _), (7, .int .i64 ((n - 1 - k : Nat) : Int)), (1, u64 x), (0, v)]) (H' := hp) (by rw [show ((n - k : Nat) : Int) - 1 = ((n - 1 - k : Nat) : Int) by omega]) rfl ?_
    refine sSkip ?_
    refine sSeq ?_
    refine sBlock ?_
    refine W.region ?_
    refine OpsW.det (det_move rfl) rfl ?_
    refine OpsW.det (det_move rfl) rfl ?_
    refine OpsW.det (det_move rfl) rfl ?_
    refine OpsW.det ((det_mul rfl rfl).to (v := .int .i64 ((8 * (n - 1 - k) : Nat) : Int)) (by rw [wrap_i64 (by omega)]; congr 1)) rfl ?_
    refine OpsW.det (det_shrN rfl rfl (by omega)) rfl ?_
    refine OpsW.det ((det_conv u26 u5 rfl).to (v := u8 (byt x (n - 1 - k))) (by rw [wrap_u8, byt_eq]; rfl)) rfl ?_
    refine OpsW.fresh (fr_buildSlice rfl slice22) rfl fun b20 => ?_
    refine OpsW.perm (H' := hp ++ [(b20, blk [u8 (byt x (n - 1 - k))] 5)]) List.perm_append_comm ?_
    refine OpsW.append (dd := 21) ty22 rfl hsl rfl (.inl (List.mem_append_right _ (List.Mem.head _))) rfl (fun j u h => by simpa using h) rfl (by show k + 1 ≤ 9223372036854775807; omega) (by show (k + 1) * 1 ≤ 140737488355328; omega) rfl fun v' hp' hsl' => ?_
    refine OpsW.det (det_assign rfl) rfl ?_
    refine sLast ?_
    refine bNext ?_
    refine W.keep (F' := [(0, _), (7, _), (1, _)]) ⟨rfl, rfl, rfl, trivial⟩ ?_
    refine W.region ?_
    refine OpsW.det (det_move rfl) rfl ?_
    refine OpsW.det (det_subZ (c := ((n - (k + 1) : Nat) : Int) - 1) rfl rfl (by omega) (by omega)) rfl ?_
    refine OpsW.det (det_assign rfl) rfl ?_
    refine sLast ?_
    exact rEnd (k + 1, v', hp') ⟨by omega, hsl'⟩ ⟨rfl, rfl, rfl, trivial⟩ (List.sublist_append_left _ _) (by show n - (k + 1) < n - k; omega)
  · skip
    have hkn : k = n := by have h := hc11; simp only [decide_eq_false_iff_not] at h; omega
    subst hkn
    obtain ⟨p, rfl, rfl, hpp⟩ := isSl_at hsl hn.1
    refine sExit ?_
    refine xLoop ?_
    refine xHere ?_
    refine W.keep (F' := [(0, _)]) ⟨rfl, trivial⟩ ?_
    refine sSeq ?_
    refine W.region ?_
    refine OpsW.det (det_move rfl) rfl ?_
    refine OpsW.det (det_assign rfl) rfl ?_
    refine sNext ?_
    refine W.keep (F' := [(6, _)]) ⟨rfl, trivial⟩ ?_
    refine sRet ?_
    exact done1 Tryd.results89 (rv_tmp rfl) ⟨p, hpp, rfl, List.Sublist.refl _⟩
theorem FBytes_ok {x : Fq} {w : World} (hG : Blocks (GH T) w)  : Vm.Pure Tryd.prog 68 #[encF x] w (.agg (fbytes x).toArray) := by
  refine pure_of_W (n := 22) (args := [encF x]) Tryd.func68 rfl Tryd.ntmps68 (Nat.le_of_ble_eq_true rfl) hG ?_
  refine sStart ?_
  refine sSeq ?_
  refine W.region ?_
  refine OpsW.fresh (fr_box rfl rfl) rfl fun b1 => ?_
  refine OpsW.fresh (fr_alloc z58) rfl fun b2 => ?_
  refine sNext ?_
  refine W.keep (F' := [(2, _), (1, _)]) ⟨rfl, rfl, trivial⟩ ?_
  refine sSeq ?_
  refine W.region ?_
  refine OpsW.fresh (fr_alloc z58) rfl fun b3 => ?_
  refine sNext ?_
  refine sSeq ?_
  refine W.region ?_
  refine OpsW.det (det_loadA ty29 rfl (List.Mem.tail _ (List.Mem.tail _ (List.Mem.head _))) rfl) rfl ?_
  refine OpsW.det (det_call en61 rfl (fun w hb ho => Cu.Plain_ok ho.blocks)) rfl ?_
  refine OpsW.fresh (fr_alloc z27) rfl fun b4 => ?_
  refine OpsW.store sz27 rfl rfl rfl rfl rfl (Upd.here) rfl ?_
  refine sNext ?_
  refine W.keep (F' := [(4, _), (3, _), (2, _)]) ⟨rfl, rfl, rfl, trivial⟩ ?_
  refine sSeq ?_
  refine sSeq ?_
  refine W.region ?_
  refine OpsW.det (det_move rfl) rfl ?_
  refine sNext ?_
  refine sBlock ?_
  refine sLoop (σ := Nat) (fun i => [(8, .int .i64 (i : Nat)), (4, .pointer (some ⟨b4, 0, none⟩)), (3, .pointer (some ⟨b3, 0, none⟩)), (2, .pointer (some ⟨b2, 0, none⟩))]) (fun i => [(b4, blk (w6 (lim x.val)) 27), (b3, blk (fst6 x.val i) 58), (b2, blk (fst6 0 0) 58), (b1, blk (w6 (lim (mont x))) 29)]) (fun i => i ≤ 6) (fun i => 6 - i) 0 (by decide) ⟨rfl, rfl, rfl, rfl, trivial⟩ (List.Sublist.refl _) ?_
  intro i hi
  refine sSeq ?_
  refine W.region ?_
  refine OpsW.det (det_lss rfl rfl) rfl ?_
  refine sNext ?_
  refine sSeq ?_
  refine W.cond rfl (fun hc9 => ?_) (fun hc9 => ?_)
  · skip
    have hlt : i < 6 := by have h := hc9; simp only [decide_eq_true_eq] at h; omega
    refine sSkip ?_
    refine sSeq ?_
    refine sBlock ?_
    refine sSeq ?_
    refine W.region ?_
    refine OpsW.det (det_move rfl) rfl ?_
    refine OpsW.det (det_assign rfl) rfl ?_
    refine sNext ?_
    refine W.keep (F' := [(5, _), (8, _), (4, _), (3, _), (2, _)]) ⟨rfl, rfl, rfl, rfl, rfl, trivial⟩ ?_
    refine W.draw mixed 8 [[], [0], [0, 1], [], [3], [3, 4], [3, 4, 5], [3, 4, 5, 6], [0, 1, 2, 3, 4, 5, 6, 7]] (cl_lt (by decide)) ?_
    refine HeadR.start (cl_lt (by decide)) ?_
    refine HeadR.det rfl (fun β hβ => (det_move rfl)) ?_
    refine HeadR.det rfl (fun β hβ => ((det_mul rfl rfl).to (v := .int .i64 ((8 * i : Nat) : Int)) (by rw [wrap_i64 (by omega)]; congr 1))) ?_
    refine HeadR.det rfl (fun β hβ => ((det_sliceArr (lo := some (.tmp 12)) (hi := none) (l := 8 * i) (h := 48) u58 sz5 rfl ⟨_, rfl⟩ rfl (by omega) (by omega)).to (v := .slice (some ⟨b3, 8 * i, none⟩) (48 - 8 * i) (48 - 8 * i)) (by rw [if_neg (by omega)]; simp))) ?_
    refine HeadR.det rfl (fun β hβ => (det_move rfl)) ?_
    refine HeadR.det rfl (fun β hβ => (det_subZ (c := ((5 - i : Nat) : Int)) rfl rfl (by omega) (by omega))) ?_
    refine HeadR.det rfl (fun β hβ => (det_indexAddr_arr u27 sz26 rfl rfl ⟨by omega, by omega⟩)) ?_
    refine HeadR.det rfl (fun β hβ => (det_loadC ty26 rfl (List.Mem.head _) (at6n (f := lim x.val) (i := 5 - i) (by omega) (by omega)))) ?_
    refine HeadR.fresh rfl (fun β hβ => (new_call en89 rfl (fun w hb ho => fput_ok (x := lim x.val (5 - i)) (n := 8) (lim_lt _ _) (by decide) ho.blocks))) ?_
    refine HeadR.done ⟨by kernel_rfl, fun β hβ => ?_⟩
    refine OpsW.norm (F' := [(11, _), (12, _), (13, _), (14, _), (15, _), (16, _), (17, _), (18, .slice (some ⟨(β 18).1, 0, none⟩) 8 (β 18).2.1), (5, _), (8, _), (4, _), (3, _), (2, _)]) (H' := [(_, _), (_, _), (_, _), (_, _), (_, _)]) rfl rfl ?_
    generalize β 18 = p18
    refine OpsW.copy u22 sz5 rfl rfl (.inl (List.Mem.head _)) (by rw [bytes_len]; show 8 = min 8 (48 - 8 * i); omega) (fun j u h => by rw [Nat.zero_add, List.getElem?_append_left (List.getElem?_eq_some_iff.1 h).1]; exact h) (bytes_one _ _ _) (Upd.there (Upd.there Upd.here)) (fst6_put hlt) rfl ?_
    refine sLast ?_
    refine bNext ?_
    refine W.keep (F' := [(8, _), (4, _), (3, _), (2, _)]) ⟨rfl, rfl, rfl, rfl, trivial⟩ ?_
    refine W.region ?_
    refine OpsW.det (det_addN (b := 1) rfl rfl (idx_ok hlt (by decide))) rfl ?_
    refine OpsW.det (det_move rfl) rfl ?_
    refine sLast ?_
    exact rEnd (i + 1) hlt ⟨rfl, rfl, rfl, rfl, trivial⟩ (List.Sublist.cons _ (List.Sublist.refl _)) (step_lt hlt)
  · skip
    have hi6 : i = 6 := by have h := hc9; simp only [decide_eq_false_iff_not] at h; omega
    subst hi6
    refine sExit ?_
    refine xLoop ?_
    refine xHere ?_
    refine W.keep (F' := [(3, _), (2, _)]) ⟨rfl, rfl, trivial⟩ ?_
    refine sSeq ?_
    refine W.region ?_
    refine OpsW.det (det_loadA ty58 rfl (List.Mem.tail _ (List.Mem.head _)) (show cut 0 48 (fst6 x.val 6) = some (fst6 x.val 6) from cut_all (fst6_len (Nat.le_refl _)))) rfl ?_
    refine OpsW.store sz58 rfl rfl rfl (fst6_len (Nat.le_refl _)) fst6_one (Upd.there (Upd.there (Upd.here))) (splice_all (by rw [fst6_len (Nat.le_refl _), fst6_len (Nat.zero_le _)])) ?_
    refine sNext ?_
    refine W.keep (F' := [(2, _)]) ⟨rfl, trivial⟩ ?_
    refine sRet ?_
    exact done1 Tryd.results68 (rv_cellA ty58 rfl (List.Mem.tail _ (List.Mem.tail _ (List.Mem.head _))) (show cut 0 48 (fst6 x.val 6) = some (fst6 x.val 6) from cut_all (fst6_len (Nat.le_refl _)))) (congrArg (fun l : List Value => Value.agg l.toArray) fst6_6)
theorem Large_ok {x : Fq} {w : World} (hG : Blocks (GH T) w)  : Vm.Pure Tryd.prog 22 #[encF x] w (.bool (largeF x)) := by
  refine pure_of_W (n := 29) (args := [encF x]) Tryd.func22 rfl Tryd.ntmps22 (Nat.le_of_ble_eq_true rfl) hG ?_
  refine sStart ?_
  refine sSeq ?_
  refine W.region ?_
  refine OpsW.fresh (fr_box rfl rfl) rfl fun b1 => ?_
  refine OpsW.det (det_assign rfl) rfl ?_
  refine sNext ?_
  refine W.keep (F' := [(1, _)]) ⟨rfl, trivial⟩ ?_
  refine sSeq ?_
  refine W.draw mixed 7 [[], [0], [], [0, 1, 2], [0, 1, 2, 3], [], [], [0, 1, 2, 3, 4, 5, 6], [0, 1, 2, 3, 4, 5, 6, 7]] (cl_lt (by decide)) ?_
  refine HeadR.start (cl_lt (by decide)) ?_
  refine HeadR.det rfl (fun β hβ => (det_loadA ty29 rfl (List.Mem.head _) rfl)) ?_
  refine HeadR.det rfl (fun β hβ => (det_call en61 rfl (fun w hb ho => Cu.Plain_ok ho.blocks))) ?_
  refine HeadR.det rfl (fun β hβ => (det_loadA ty29 rfl (List.Mem.head _) rfl)) ?_
  refine HeadR.det rfl (fun β hβ => (det_call en23 rfl (fun w hb ho => Cu.Neg_ok ho.blocks))) ?_
  refine HeadR.det rfl (fun β hβ => (det_call en61 rfl (fun w hb ho => Cu.Plain_ok ho.blocks))) ?_
  refine HeadR.fresh rfl (fun β hβ => (fr_alloc z27).new) ?_
  refine HeadR.fresh rfl (fun β hβ => (fr_alloc z27).new) ?_
  refine HeadR.done ⟨by kernel_rfl, fun β hβ => ?_⟩
  refine OpsW.norm (F' := [(6, _), (7, _), (8, _), (9, _), (10, _), (3, .pointer (some ⟨(β 3).1, 0, none⟩)), (4, .pointer (some ⟨(β 4).1, 0, none⟩)), (1, _)]) (H' := [(_, _), (_, _), (_, _)]) rfl rfl ?_
  generalize (β 3).1 = b3
  generalize (β 4).1 = b4
  refine OpsW.store sz27 rfl rfl rfl rfl rfl (Upd.here) rfl ?_
  refine OpsW.store sz27 rfl rfl rfl rfl rfl (Upd.there (Upd.here)) rfl ?_
  refine sNext ?_
  refine W.keep (F' := [(3, _), (4, _)]) ⟨rfl, rfl, trivial⟩ ?_
  refine sSeq ?_
  refine sSeq ?_
  refine W.region ?_
  refine OpsW.det (det_assign rfl) rfl ?_
  refine sNext ?_
  refine sBlock ?_
  refine sLoop (σ := Nat) (fun k => [(5, .int .i64 ((5 : Int) - ((k : Nat) : Int))), (4, .pointer (some ⟨b4, 0, none⟩)), (3, .pointer (some ⟨b3, 0, none⟩))]) (fun k => [(b3, blk (w6 (lim x.val)) 27), (b4, blk (w6 (lim (0 - x).val)) 27)]) (fun k => k ≤ 6 ∧ x.val / 18446744073709551616 ^ (6 - k) = (0 - x).val / 18446744073709551616 ^ (6 - k)) (fun k => 6 - k) 0 ⟨by decide, large_start x⟩ ⟨rfl, rfl, rfl, trivial⟩ (List.Sublist.cons_cons _ (List.Sublist.cons_cons _ (List.nil_sublist _))) ?_
  rintro k ⟨hk6, hI⟩
  refine sSeq ?_
  refine sSeq ?_
  refine W.region ?_
  refine OpsW.det (det_move rfl) rfl ?_
  refine OpsW.det (det_geq (a := (5 : Int) - ((k : Nat) : Int)) (b := 0) rfl rfl) rfl ?_
  refine sNext ?_
  refine W.keep (F' := [(12, _), (5, _), (4, _), (3, _)]) ⟨rfl, rfl, rfl, rfl, trivial⟩ ?_
  refine W.cond rfl (fun hc12 => ?_) (fun hc12 => ?_)
  · skip
    have hk : k < 6 := by have h := hc12; simp only [decide_eq_true_eq] at h; omega
    refine sSkip ?_
    refine sSeq ?_
    refine sBlock ?_
    refine sSeq ?_
    refine W.draw mixed 7 [[], [0], [0, 1], [], [3], [3, 4], [0, 1, 2, 3, 4, 5]] (cl_lt (by decide)) ?_
    refine HeadR.start (cl_lt (by decide)) ?_
    refine HeadR.det rfl (fun β hβ => (det_move rfl)) ?_
    refine HeadR.det rfl (fun β hβ => (det_indexAddr_arr u27 sz26 rfl rfl ⟨by omega, by omega⟩)) ?_
    refine HeadR.det rfl (fun β hβ => (det_loadC ty26 rfl (List.Mem.head _) (at6n (f := lim x.val) (i := 5 - k) (by omega) (by omega)))) ?_
    refine HeadR.det rfl (fun β hβ => (det_move rfl)) ?_
    refine HeadR.det rfl (fun β hβ => (det_indexAddr_arr u27 sz26 rfl rfl ⟨by omega, by omega⟩)) ?_
    refine HeadR.det rfl (fun β hβ => (det_loadC ty26 rfl (List.Mem.tail _ (List.Mem.head _)) (at6n (f := lim (0 - x).val) (i := 5 - k) (by omega) (by omega)))) ?_
    refine HeadR.det rfl (fun β hβ => ((det_neq (a := ((lim x.val (5 - k) : Nat) : Int)) (b := ((lim (0 - x).val (5 - k) : Nat) : Int)) rfl rfl))) ?_
    refine HeadR.done ⟨by kernel_rfl, fun β hβ => ?_⟩
    refine OpsW.norm (F' := [(15, _), (16, _), (17, _), (18, _), (19, _), (20, _), (21, _), (12, _), (5, _), (4, _), (3, _)]) (H' := [(_, _), (_, _)]) rfl rfl ?_
    refine sNext ?_
    refine W.keep (F' := [(21, _), (5, _), (4, _), (3, _)]) ⟨rfl, rfl, rfl, rfl, trivial⟩ ?_
    refine W.cond rfl (fun hc21 => ?_) (fun hc21 => ?_)
    · skip
      refine sSeq ?_
      refine W.draw mixed 8 [[], [0], [0, 1], [], [3], [3, 4], [0, 1, 2, 3, 4, 5], [0, 1, 2, 3, 4, 5, 6]] (cl_lt (by decide)) ?_
      refine HeadR.start (cl_lt (by decide)) ?_
      refine HeadR.det rfl (fun β hβ => (det_move rfl)) ?_
      refine HeadR.det rfl (fun β hβ => (det_indexAddr_arr u27 sz26 rfl rfl ⟨by omega, by omega⟩)) ?_
      refine HeadR.det rfl (fun β hβ => (det_loadC ty26 rfl (List.Mem.head _) (at6n (f := lim x.val) (i := 5 - k) (by omega) (by omega)))) ?_
      refine HeadR.det rfl (fun β hβ => (det_move rfl)) ?_
      refine HeadR.det rfl (fun β hβ => (det_indexAddr_arr u27 sz26 rfl rfl ⟨by omega, by omega⟩)) ?_
      refine HeadR.det rfl (fun β hβ => (det_loadC ty26 rfl (List.Mem.tail _ (List.Mem.head _)) (at6n (f := lim (0 - x).val) (i := 5 - k) (by omega) (by omega)))) ?_
      refine HeadR.det rfl (fun β hβ => ((det_gtr (a := ((lim x.val (5 - k) : Nat) : Int)) (b := ((lim (0 - x).val (5 - k) : Nat) : Int)) rfl rfl))) ?_
      refine HeadR.det rfl (fun β hβ => (det_assign rfl)) ?_
      refine HeadR.done ⟨by kernel_rfl, fun β hβ => ?_⟩
      refine OpsW.norm (F' := [(22, _), (23, _), (24, _), (25, _), (26, _), (27, _), (28, _), (2, _), (21, _), (5, _), (4, _), (3, _)]) (H' := [(_, _), (_, _)]) rfl rfl ?_
      refine sNext ?_
      refine W.keep (F' := [(2, _)]) ⟨rfl, trivial⟩ ?_
      refine sRet ?_
      refine retBlk ?_
      refine retLoop ?_
      refine retBlk ?_
      exact done1 Tryd.results22 (rv_tmp rfl) (congrArg Value.bool (large_here hk hI (by have h := hc21; simpa using h)))
    · skip
      refine sSkip0 ?_
      refine bNext ?_
      refine W.keep (F' := [(5, _), (4, _), (3, _)]) ⟨rfl, rfl, rfl, trivial⟩ ?_
      refine W.region ?_
      refine OpsW.det (det_move rfl) rfl ?_
      refine OpsW.det (det_subZ (a := (5 : Int) - ((k : Nat) : Int)) (b := 1) (c := (5 : Int) - ((k + 1 : Nat) : Int)) rfl rfl (by omega) (by omega)) rfl ?_
      refine OpsW.det (det_assign rfl) rfl ?_
      refine sLast ?_
      exact rEnd (k + 1) ⟨hk, large_same hk hI (by have h := hc21; simpa using h)⟩ ⟨rfl, rfl, rfl, trivial⟩ (List.Sublist.refl _) (step_lt hk)
  · skip
    have hk : k = 6 := by have h := hc12; simp only [decide_eq_false_iff_not] at h; omega
    subst hk
    refine sExit ?_
    refine xLoop ?_
    refine xHere ?_
    refine W.keep (F' := []) trivial ?_
    refine sSeq ?_
    refine W.region ?_
    refine OpsW.det (det_assign rfl) rfl ?_
    refine sNext ?_
    refine sRet ?_
    exact done1 Tryd.results22 (rv_tmp rfl) (congrArg Value.bool (large_end hI))
theorem flags_ok {s n l : Bool} {w : World} (hG : Blocks (GH T) w)  : Vm.Pure Tryd.prog 69 #[.bool s, .bool n, .bool l] w (.int .u8 (flg s n l)) := by
  refine pure_of_W (n := 25) (args := [.bool s, .bool n, .bool l]) Tryd.func69 rfl Tryd.ntmps69 (Nat.le_of_ble_eq_true rfl) hG ?_
  refine sStart ?_
  refine sSeq ?_
  refine W.region ?_
  refine OpsW.det (det_assign rfl) rfl ?_
  refine sNext ?_
  refine W.keep (F' := [(0, _), (1, _), (2, _)]) ⟨rfl, rfl, rfl, trivial⟩ ?_
  refine sSeq ?_
  rcases s with _ | _ <;> rcases n with _ | _ <;> rcases l with _ | _
  · skip
    refine W.region ?_
    refine OpsW.det (det_assign rfl) rfl ?_
    refine sNext ?_
    refine sSeq ?_
    refine sSeq ?_
    refine W.region ?_
    refine OpsW.det (det_move rfl) rfl ?_
    refine sNext ?_
    refine W.cond_false rfl ?_
    refine sSkip ?_
    refine sSeq ?_
    refine sSeq ?_
    refine W.region ?_
    refine OpsW.det (det_move rfl) rfl ?_
    refine sNext ?_
    refine W.keep (F' := [(11, _), (7, _), (0, _), (1, _), (2, _)]) ⟨rfl, rfl, rfl, rfl, rfl, trivial⟩ ?_
    refine W.cond_false rfl ?_
    refine sSkip ?_
    refine sSeq ?_
    refine sSeq ?_
    refine W.region ?_
    refine OpsW.det (det_move rfl) rfl ?_
    refine OpsW.det (det_move rfl) rfl ?_
    refine OpsW.guard_no rfl rfl rfl ?_
    refine OpsW.guard_no rfl rfl rfl ?_
    refine OpsW.det (det_pick rfl rfl) rfl ?_
    refine OpsW.det (det_move rfl) rfl ?_
    refine OpsW.guard_no rfl rfl rfl ?_
    refine OpsW.det (det_pick rfl rfl) rfl ?_
    refine sNext ?_
    refine W.keep (F' := [(21, _), (7, _)]) ⟨rfl, rfl, trivial⟩ ?_
    refine W.cond_false rfl ?_
    refine sSkip ?_
    refine sSeq ?_
    refine W.region ?_
    refine OpsW.det (det_move rfl) rfl ?_
    refine OpsW.det (det_assign rfl) rfl ?_
    refine sNext ?_
    refine W.keep (F' := [(6, _)]) ⟨rfl, trivial⟩ ?_
    refine sRet ?_
    exact done1 Tryd.results69 (rv_tmp rfl) (by kernel_rfl)
  · skip
    refine W.region ?_
    refine OpsW.det (det_assign rfl) rfl ?_
    refine sNext ?_
    refine sSeq ?_
    refine sSeq ?_
    refine W.region ?_
    refine OpsW.det (det_move rfl) rfl ?_
    refine sNext ?_
    refine W.cond_false rfl ?_
    refine sSkip ?_
    refine sSeq ?_
    refine sSeq ?_
    refine W.region ?_
    refine OpsW.det (det_move rfl) rfl ?_
    refine sNext ?_
    refine W.keep (F' := [(11, _), (7, _), (0, _), (1, _), (2, _)]) ⟨rfl, rfl, rfl, rfl, rfl, trivial⟩ ?_
    refine W.cond_false rfl ?_
    refine sSkip ?_
    refine sSeq ?_
    refine sSeq ?_
    refine W.region ?_
    refine OpsW.det (det_move rfl) rfl ?_
    refine OpsW.det (det_move rfl) rfl ?_
    refine OpsW.guard_no rfl rfl rfl ?_
    refine OpsW.guard_no rfl rfl rfl ?_
    refine OpsW.det (det_pick rfl rfl) rfl ?_
    refine OpsW.det (det_move rfl) rfl ?_
    refine OpsW.guard_no rfl rfl rfl ?_
    refine OpsW.det (det_pick rfl rfl) rfl ?_
    refine sNext ?_
    refine W.keep (F' := [(21, _), (7, _)]) ⟨rfl, rfl, trivial⟩ ?_
    refine W.cond_false rfl ?_
    refine sSkip ?_
    refine sSeq ?_
    refine W.region ?_
    refine OpsW.det (det_move rfl) rfl ?_
    refine OpsW.det (det_assign rfl) rfl ?_
    refine sNext ?_
    refine W.keep (F' := [(6, _)]) ⟨rfl, trivial⟩ ?_
    refine sRet ?_
    exact done1 Tryd.results69 (rv_tmp rfl) (by kernel_rfl)
  · skip
    refine W.region ?_
    refine OpsW.det (det_assign rfl) rfl ?_
    refine sNext ?_
    refine sSeq ?_
    refine sSeq ?_
    refine W.region ?_
    refine OpsW.det (det_move rfl) rfl ?_
    refine sNext ?_
    refine W.cond_false rfl ?_
    refine sSkip ?_
    refine sSeq ?_
    refine sSeq ?_
    refine W.region ?_
    refine OpsW.det (det_move rfl) rfl ?_
    refine sNext ?_
    refine W.keep (F' := [(11, _), (7, _), (0, _), (1, _), (2, _)]) ⟨rfl, rfl, rfl, rfl, rfl, trivial⟩ ?_
    refine W.cond_true rfl ?_
    refine W.region ?_
    refine OpsW.det (det_move rfl) rfl ?_
    refine OpsW.det (det_or rfl rfl) rfl ?_
    refine OpsW.det (det_assign rfl) rfl ?_
    refine sNext ?_
    refine W.keep (F' := [(7, _), (0, _), (1, _), (2, _)]) ⟨rfl, rfl, rfl, rfl, trivial⟩ ?_
    refine sSeq ?_
    refine sSeq ?_
    refine W.region ?_
    refine OpsW.det (det_move rfl) rfl ?_
    refine OpsW.det (det_move rfl) rfl ?_
    refine OpsW.guard_no rfl rfl rfl ?_
    refine OpsW.guard_no rfl rfl rfl ?_
    refine OpsW.det (det_pick rfl rfl) rfl ?_
    refine OpsW.det (det_move rfl) rfl ?_
    refine OpsW.guard_no rfl rfl rfl ?_
    refine OpsW.det (det_pick rfl rfl) rfl ?_
    refine sNext ?_
    refine W.keep (F' := [(21, _), (7, _)]) ⟨rfl, rfl, trivial⟩ ?_
    refine W.cond_false rfl ?_
    refine sSkip ?_
    refine sSeq ?_
    refine W.region ?_
    refine OpsW.det (det_move rfl) rfl ?_
    refine OpsW.det (det_assign rfl) rfl ?_
    refine sNext ?_
    refine W.keep (F' := [(6, _)]) ⟨rfl, trivial⟩ ?_
    refine sRet ?_
    exact done1 Tryd.results69 (rv_tmp rfl) (by kernel_rfl)
  · skip
    refine W.region ?_
    refine OpsW.det (det_assign rfl) rfl ?_
    refine sNext ?_
    refine sSeq ?_
    refine sSeq ?_
    refine W.region ?_
    refine OpsW.det (det_move rfl) rfl ?_
    refine sNext ?_
    refine W.cond_false rfl ?_
    refine sSkip ?_
    refine sSeq ?_
    refine sSeq ?_
    refine W.region ?_
    refine OpsW.det (det_move rfl) rfl ?_
    refine sNext ?_
    refine W.keep (F' := [(11, _), (7, _), (0, _), (1, _), (2, _)]) ⟨rfl, rfl, rfl, rfl, rfl, trivial⟩ ?_
    refine W.cond_true rfl ?_
    refine W.region ?_
    refine OpsW.det (det_move rfl) rfl ?_
    refine OpsW.det (det_or rfl rfl) rfl ?_
    refine OpsW.det (det_assign rfl) rfl ?_
    refine sNext ?_
    refine W.keep (F' := [(7, _), (0, _), (1, _), (2, _)]) ⟨rfl, rfl, rfl, rfl, trivial⟩ ?_
    refine sSeq ?_
    refine sSeq ?_
    refine W.region ?_
    refine OpsW.det (det_move rfl) rfl ?_
    refine OpsW.det (det_move rfl) rfl ?_
    refine OpsW.guard_no rfl rfl rfl ?_
    refine OpsW.guard_no rfl rfl rfl ?_
    refine OpsW.det (det_pick rfl rfl) rfl ?_
    refine OpsW.det (det_move rfl) rfl ?_
    refine OpsW.guard_no rfl rfl rfl ?_
    refine OpsW.det (det_pick rfl rfl) rfl ?_
    refine sNext ?_
    refine W.keep (F' := [(21, _), (7, _)]) ⟨rfl, rfl, trivial⟩ ?_
    refine W.cond_false rfl ?_
    refine sSkip ?_
    refine sSeq ?_
    refine W.region ?_
    refine OpsW.det (det_move rfl) rfl ?_
    refine OpsW.det (det_assign rfl) rfl ?_
    refine sNext ?_
    refine W.keep (F' := [(6, _)]) ⟨rfl, trivial⟩ ?_
    refine sRet ?_
    exact done1 Tryd.results69 (rv_tmp rfl) (by kernel_rfl)
  · skip
    refine W.region ?_
    refine OpsW.det (det_assign rfl) rfl ?_
    refine sNext ?_
    refine sSeq ?_
    refine sSeq ?_
    refine W.region ?_
    refine OpsW.det (det_move rfl) rfl ?_
    refine sNext ?_
    refine W.cond_true rfl ?_
    refine W.region ?_
    refine OpsW.det (det_move rfl) rfl ?_
    refine OpsW.det (det_or rfl rfl) rfl ?_
    refine OpsW.det (det_assign rfl) rfl ?_
    refine sNext ?_
    refine W.keep (F' := [(7, _), (0, _), (1, _), (2, _)]) ⟨rfl, rfl, rfl, rfl, trivial⟩ ?_
    refine sSeq ?_
    refine sSeq ?_
    refine W.region ?_
    refine OpsW.det (det_move rfl) rfl ?_
    refine sNext ?_
    refine W.cond_false rfl ?_
    refine sSkip ?_
    refine sSeq ?_
    refine sSeq ?_
    refine W.region ?_
    refine OpsW.det (det_move rfl) rfl ?_
    refine OpsW.det (det_move rfl) rfl ?_
    refine OpsW.guard_yes rfl rfl ?_
    refine OpsW.det (det_move rfl) rfl ?_
    refine OpsW.guard_yes rfl rfl ?_
    refine OpsW.det (det_not rfl) rfl ?_
    refine OpsW.det (det_pick rfl rfl) rfl ?_
    refine OpsW.det (det_move rfl) rfl ?_
    refine OpsW.guard_yes rfl rfl ?_
    refine OpsW.det (det_move rfl) rfl ?_
    refine OpsW.det (det_pick rfl rfl) rfl ?_
    refine sNext ?_
    refine W.keep (F' := [(21, _), (7, _)]) ⟨rfl, rfl, trivial⟩ ?_
    refine W.cond_false rfl ?_
    refine sSkip ?_
    refine sSeq ?_
    refine W.region ?_
    refine OpsW.det (det_move rfl) rfl ?_
    refine OpsW.det (det_assign rfl) rfl ?_
    refine sNext ?_
    refine W.keep (F' := [(6, _)]) ⟨rfl, trivial⟩ ?_
    refine sRet ?_
    exact done1 Tryd.results69 (rv_tmp rfl) (by kernel_rfl)
  · skip
    refine W.region ?_
    refine OpsW.det (det_assign rfl) rfl ?_
    refine sNext ?_
    refine sSeq ?_
    refine sSeq ?_
    refine W.region ?_
    refine OpsW.det (det_move rfl) rfl ?_
    refine sNext ?_
    refine W.cond_true rfl ?_
    refine W.region ?_
    refine OpsW.det (det_move rfl) rfl ?_
    refine OpsW.det (det_or rfl rfl) rfl ?_
    refine OpsW.det (det_assign rfl) rfl ?_
    refine sNext ?_
    refine W.keep (F' := [(7, _), (0, _), (1, _), (2, _)]) ⟨rfl, rfl, rfl, rfl, trivial⟩ ?_
    refine sSeq ?_
    refine sSeq ?_
    refine W.region ?_
    refine OpsW.det (det_move rfl) rfl ?_
    refine sNext ?_
    refine W.cond_false rfl ?_
    refine sSkip ?_
    refine sSeq ?_
    refine sSeq ?_
    refine W.region ?_
    refine OpsW.det (det_move rfl) rfl ?_
    refine OpsW.det (det_move rfl) rfl ?_
    refine OpsW.guard_yes rfl rfl ?_
    refine OpsW.det (det_move rfl) rfl ?_
    refine OpsW.guard_yes rfl rfl ?_
    refine OpsW.det (det_not rfl) rfl ?_
    refine OpsW.det (det_pick rfl rfl) rfl ?_
    refine OpsW.det (det_move rfl) rfl ?_
    refine OpsW.guard_yes rfl rfl ?_
    refine OpsW.det (det_move rfl) rfl ?_
    refine OpsW.det (det_pick rfl rfl) rfl ?_
    refine sNext ?_
    refine W.keep (F' := [(21, _), (7, _)]) ⟨rfl, rfl, trivial⟩ ?_
    refine W.cond_true rfl ?_
    refine W.region ?_
    refine OpsW.det (det_move rfl) rfl ?_
    refine OpsW.det (det_or rfl rfl) rfl ?_
    refine OpsW.det (det_assign rfl) rfl ?_
    refine sNext ?_
    refine W.keep (F' := [(7, _)]) ⟨rfl, trivial⟩ ?_
    refine sSeq ?_
    refine W.region ?_
    refine OpsW.det (det_move rfl) rfl ?_
    refine OpsW.det (det_assign rfl) rfl ?_
    refine sNext ?_
    refine W.keep (F' := [(6, _)]) ⟨rfl, trivial⟩ ?_
    refine sRet ?_
    exact done1 Tryd.results69 (rv_tmp rfl) (by kernel_rfl)
  · skip
    refine W.region ?_
    refine OpsW.det (det_assign rfl) rfl ?_
    refine sNext ?_
    refine sSeq ?_
    refine sSeq ?_
    refine W.region ?_
    refine OpsW.det (det_move rfl) rfl ?_
    refine sNext ?_
    refine W.cond_true rfl ?_
    refine W.region ?_
    refine OpsW.det (det_move rfl) rfl ?_
    refine OpsW.det (det_or rfl rfl) rfl ?_
    refine OpsW.det (det_assign rfl) rfl ?_
    refine sNext ?_
    refine W.keep (F' := [(7, _), (0, _), (1, _), (2, _)]) ⟨rfl, rfl, rfl, rfl, trivial⟩ ?_
    refine sSeq ?_
    refine sSeq ?_
    refine W.region ?_
    refine OpsW.det (det_move rfl) rfl ?_
    refine sNext ?_
    refine W.cond_true rfl ?_
    refine W.region ?_
    refine OpsW.det (det_move rfl) rfl ?_
    refine OpsW.det (det_or rfl rfl) rfl ?_
    refine OpsW.det (det_assign rfl) rfl ?_
    refine sNext ?_
    refine W.keep (F' := [(7, _), (0, _), (1, _), (2, _)]) ⟨rfl, rfl, rfl, rfl, trivial⟩ ?_
    refine sSeq ?_
    refine sSeq ?_
    refine W.region ?_
    refine OpsW.det (det_move rfl) rfl ?_
    refine OpsW.det (det_move rfl) rfl ?_
    refine OpsW.guard_yes rfl rfl ?_
    refine OpsW.det (det_move rfl) rfl ?_
    refine OpsW.guard_yes rfl rfl ?_
    refine OpsW.det (det_not rfl) rfl ?_
    refine OpsW.det (det_pick rfl rfl) rfl ?_
    refine OpsW.det (det_move rfl) rfl ?_
    refine OpsW.guard_no rfl rfl rfl ?_
    refine OpsW.det (det_pick rfl rfl) rfl ?_
    refine sNext ?_
    refine W.keep (F' := [(21, _), (7, _)]) ⟨rfl, rfl, trivial⟩ ?_
    refine W.cond_false rfl ?_
    refine sSkip ?_
    refine sSeq ?_
    refine W.region ?_
    refine OpsW.det (det_move rfl) rfl ?_
    refine OpsW.det (det_assign rfl) rfl ?_
    refine sNext ?_
    refine W.keep (F' := [(6, _)]) ⟨rfl, trivial⟩ ?_
    refine sRet ?_
    exact done1 Tryd.results69 (rv_tmp rfl) (by kernel_rfl)
  · skip
    refine W.region ?_
    refine OpsW.det (det_assign rfl) rfl ?_
    refine sNext ?_
    refine sSeq ?_
    refine sSeq ?_
    refine W.region ?_
    refine OpsW.det (det_move rfl) rfl ?_
    refine sNext ?_
    refine W.cond_true rfl ?_
    refine W.region ?_
    refine OpsW.det (det_move rfl) rfl ?_
    refine OpsW.det (det_or rfl rfl) rfl ?_
    refine OpsW.det (det_assign rfl) rfl ?_
    refine sNext ?_
    refine W.keep (F' := [(7, _), (0, _), (1, _), (2, _)]) ⟨rfl, rfl, rfl, rfl, trivial⟩ ?_
    refine sSeq ?_
    refine sSeq ?_
    refine W.region ?_
    refine OpsW.det (det_move rfl) rfl ?_
    refine sNext ?_
    refine W.cond_true rfl ?_
    refine W.region ?_
    refine OpsW.det (det_move rfl) rfl ?_
    refine OpsW.det (det_or rfl rfl) rfl ?_
    refine OpsW.det (det_assign rfl) rfl ?_
    refine sNext ?_
    refine W.keep (F' := [(7, _), (0, _), (1, _), (2, _)]) ⟨rfl, rfl, rfl, rfl, trivial⟩ ?_
    refine sSeq ?_
    refine sSeq ?_
    refine W.region ?_
    refine OpsW.det (det_move rfl) rfl ?_
    refine OpsW.det (det_move rfl) rfl ?_
    refine OpsW.guard_yes rfl rfl ?_
    refine OpsW.det (det_move rfl) rfl ?_
    refine OpsW.guard_yes rfl rfl ?_
    refine OpsW.det (det_not rfl) rfl ?_
    refine OpsW.det (det_pick rfl rfl) rfl ?_
    refine OpsW.det (det_move rfl) rfl ?_
    refine OpsW.guard_no rfl rfl rfl ?_
    refine OpsW.det (det_pick rfl rfl) rfl ?_
    refine sNext ?_
    refine W.keep (F' := [(21, _), (7, _)]) ⟨rfl, rfl, trivial⟩ ?_
    refine W.cond_false rfl ?_
    refine sSkip ?_
    refine sSeq ?_
    refine W.region ?_
    refine OpsW.det (det_move rfl) rfl ?_
    refine OpsW.det (det_assign rfl) rfl ?_
    refine sNext ?_
    refine W.keep (F' := [(6, _)]) ⟨rfl, trivial⟩ ?_
    refine sRet ?_
    exact done1 Tryd.results69 (rv_tmp rfl) (by kernel_rfl)

end Go.Cu

/- The short form of a point of the first group: the walk. Conditions: none. -/
namespace Go.Cu
open Go Go.Vm Go.RowKit Go.Proofs 
attribute [local irreducible] W OpsW Det Fresh New Writes Vm.Pure Makes Changes ExternTo BuildTo ZeroTo FieldTo IndexTo BinTo SliceTo Vm.Enters
set_option linter.unusedVariables false
set_option linter.unusedSimpArgs false
variable {T : Nat → TypeId × Nat × Nat}

/-- The short form of a point of the first group. -/
def form1 (p : Pt) : List Value := .int .u8 (bitsOf .or .u8 ((byt p.1.val 47 : Nat) : Int) (flg true (decide (p = (0, 0))) (largeF p.2))) :: (fbytes p.1).tail
theorem form1_len (p : Pt) : (form1 p).length = 48 := by
  have h := fbytes_len p.1
  rw [fbytes_cons] at h
  exact h
theorem form1_one (p : Pt) : (form1 p).all (·.oneCell') = true := by
  have h := fbytes_one p.1
  rw [fbytes_cons] at h
  exact h
theorem fbytes_at (x : Fq) : (fbytes x)[0 + (0 : Int).toNat * 1]? = some (.int .u8 ((byt x.val 47 : Nat) : Int)) := by rw [fbytes_cons]; rfl
theorem fbytes_set (x : Fq) (v : Value) : splice (0 + (0 : Int).toNat * 1) [v] (fbytes x) = some (v :: (fbytes x).tail) := by
  rw [fbytes_cons]
  show splice 0 [v] (u8 (byt x.val 47) :: (fbytes x).tail) = _
  exact splice_app (a := []) (new := [v]) (c := u8 (byt x.val 47) :: (fbytes x).tail) (Nat.succ_le_succ (Nat.zero_le _))

theorem en22 : Vm.Enters Tryd.prog 22 := Vm.Enters.of fun _ _ => by kernel_rfl
theorem en68 : Vm.Enters Tryd.prog 68 := Vm.Enters.of fun _ _ => by kernel_rfl
theorem en69 : Vm.Enters Tryd.prog 69 := Vm.Enters.of fun _ _ => by kernel_rfl
theorem CG1_ok {p : Pt} {w : World} (hG : Blocks (GH T) w)  : Vm.Pure Tryd.prog 34 #[encP p] w (.agg (form1 p).toArray) := by
  refine pure_of_W (n := 19) (args := [encP p]) Tryd.func34 rfl Tryd.ntmps34 (Nat.le_of_ble_eq_true rfl) hG ?_
  refine sStart ?_
  refine sSeq ?_
  refine W.region ?_
  refine OpsW.fresh (fr_box rfl rfl) rfl fun b1 => ?_
  refine OpsW.fresh (fr_alloc z58) rfl fun b2 => ?_
  refine sNext ?_
  refine W.keep (F' := [(2, _), (1, _)]) ⟨rfl, rfl, trivial⟩ ?_
  refine sSeq ?_
  refine W.region ?_
  refine OpsW.det (det_fieldAddr fl31_0 rfl) rfl ?_
  refine OpsW.det (det_loadA ty29 rfl (List.Mem.tail _ (List.Mem.head _)) rfl) rfl ?_
  refine OpsW.det (det_call en68 rfl (fun w hb ho => Cu.FBytes_ok ho.blocks)) rfl ?_
  refine OpsW.fresh (fr_alloc z58) rfl fun b3 => ?_
  refine OpsW.store sz58 rfl rfl rfl (fbytes_len p.1) (fbytes_one p.1) (Upd.here) (splice_all (by rw [fbytes_len, fst6_len (Nat.zero_le _)])) ?_
  refine sNext ?_
  refine W.keep (F' := [(3, _), (2, _), (1, _)]) ⟨rfl, rfl, rfl, trivial⟩ ?_
  refine sSeq ?_
  refine W.draw mixed 11 [[], [0], [], [], [2, 3], [], [5], [5, 6], [2, 3, 4, 5, 6, 7], [0, 1, 2, 3, 4, 5, 6, 7, 8], [0, 1, 2, 3, 4, 5, 6, 7, 8, 9], [0, 1, 2, 3, 4, 5, 6, 7, 8, 9, 10]] (cl_lt (by decide)) ?_
  refine HeadR.start (cl_lt (by decide)) ?_
  refine HeadR.det rfl (fun β hβ => (det_indexAddr_arr u58 sz5 rfl rfl ⟨by decide, by decide⟩)) ?_
  refine HeadR.det rfl (fun β hβ => (det_loadC ty5 rfl (List.Mem.head _) (fbytes_at p.1))) ?_
  refine HeadR.det rfl (fun β hβ => (det_loadA ty31 rfl (List.Mem.tail _ (List.Mem.tail _ (List.Mem.head _))) rfl)) ?_
  refine HeadR.det rfl (fun β hβ => (det_zero bz31)) ?_
  refine HeadR.det rfl (fun β hβ => (det_eql31 rfl rfl)) ?_
  refine HeadR.det rfl (fun β hβ => (det_fieldAddr fl31_1 rfl)) ?_
  refine HeadR.det rfl (fun β hβ => (det_loadA ty29 rfl (List.Mem.tail _ (List.Mem.tail _ (List.Mem.head _))) rfl)) ?_
  refine HeadR.det rfl (fun β hβ => (det_call en22 rfl (fun w hb ho => Cu.Large_ok ho.blocks))) ?_
  refine HeadR.det rfl (fun β hβ => (det_call en69 rfl (fun w hb ho => flags_ok (s := true) (n := decide (p = (0, 0))) (l := largeF p.2) ho.blocks))) ?_
  refine HeadR.det rfl (fun β hβ => (det_or rfl rfl)) ?_
  refine HeadR.det rfl (fun β hβ => (det_indexAddr_arr u58 sz5 rfl rfl ⟨by decide, by decide⟩)) ?_
  refine HeadR.done ⟨by kernel_rfl, fun β hβ => ?_⟩
  refine OpsW.norm (F' := [(7, _), (8, _), (9, _), (10, _), (11, _), (12, _), (13, _), (14, _), (15, _), (16, _), (17, _), (3, _), (2, _), (1, _)]) (H' := [(_, _), (_, _), (_, _)]) rfl rfl ?_
  refine OpsW.store sz5 rfl rfl rfl rfl rfl (Upd.here) (fbytes_set p.1 _) ?_
  refine sNext ?_
  refine W.keep (F' := [(3, _), (2, _)]) ⟨rfl, rfl, trivial⟩ ?_
  refine sSeq ?_
  refine W.region ?_
  refine OpsW.det (det_loadA ty58 rfl (List.Mem.head _) (show cut 0 48 (form1 p) = some (form1 p) from cut_all (form1_len p))) rfl ?_
  refine OpsW.store sz58 rfl rfl rfl (form1_len p) (form1_one p) (Upd.there (Upd.here)) (splice_all (by rw [form1_len, fst6_len (Nat.zero_le _)])) ?_
  refine sNext ?_
  refine W.keep (F' := [(2, _)]) ⟨rfl, trivial⟩ ?_
  refine sRet ?_
  exact done1 Tryd.results34 (rv_cellA ty58 rfl (List.Mem.tail _ (List.Mem.head _)) (show cut 0 48 (form1 p) = some (form1 p) from cut_all (form1_len p))) rfl

end Go.Cu

/- The short form of a point of the second group: the walks. Conditions: none. -/
namespace Go.Cw
open Go Go.Vm Go.RowKit Go.Proofs Go.Cu
attribute [local irreducible] W OpsW Det Fresh New Writes Vm.Pure Makes Changes ExternTo BuildTo ZeroTo FieldTo IndexTo BinTo SliceTo Vm.Enters
set_option linter.unusedVariables false
set_option linter.unusedSimpArgs false
variable {T : Nat → TypeId × Nat × Nat}

theorem u60 : Tryd.prog.underlying 60 = some (.array 96 5) := by kernel_rfl
def zer96 : List Value := List.replicate 96 (u8 0)
theorem zer96_len : zer96.length = 96 := List.length_replicate ..
theorem z60 : TyZ Tryd.prog 60 (.agg zer96.toArray) zer96 := ⟨fun _ => by kernel_rfl, by kernel_rfl⟩
/-- How a number with i is written: b first. -/
def f2bytes (x : Fq2) : List Value := Cu.fbytes x.b ++ Cu.fbytes x.a
theorem f2bytes_len (x : Fq2) : (f2bytes x).length = 96 := by unfold f2bytes; rw [List.length_append, Cu.fbytes_len, Cu.fbytes_len]
theorem f2bytes_one (x : Fq2) : (f2bytes x).all (·.oneCell') = true := by unfold f2bytes; rw [List.all_append, Cu.fbytes_one, Cu.fbytes_one]; rfl
theorem f2_put1 (x : Fq) : splice 0 (Cu.fbytes x) zer96 = some (Cu.fbytes x ++ List.replicate 48 (u8 0)) := by
  have := splice_app (a := []) (new := Cu.fbytes x) (c := zer96) (by rw [Cu.fbytes_len, zer96_len]; decide)
  have h2 : zer96.drop 48 = List.replicate 48 (u8 0) := by unfold zer96; rw [List.drop_replicate]
  rw [Cu.fbytes_len, List.nil_append, List.nil_append, h2] at this
  exact this
theorem f2_put2 (x y : Fq) : splice 48 (Cu.fbytes y) (Cu.fbytes x ++ List.replicate 48 (u8 0)) = some (Cu.fbytes x ++ Cu.fbytes y) := by
  have := splice_app (a := Cu.fbytes x) (new := Cu.fbytes y) (c := List.replicate 48 (u8 0)) (by rw [Cu.fbytes_len]; decide)
  rw [Cu.fbytes_len, Cu.fbytes_len, show (List.replicate 48 (u8 0)).drop 48 = [] from rfl, List.append_nil] at this
  exact this
def large2 (x : Fq2) : Bool := if x.b = 0 then Cu.largeF x.a else Cu.largeF x.b
theorem large2_yes {x : Fq2} (h : decide (x.b = 0) = true) : large2 x = Cu.largeF x.a := if_pos (of_decide_eq_true h)
theorem large2_no {x : Fq2} (h : decide (x.b = 0) = false) : large2 x = Cu.largeF x.b := if_neg (of_decide_eq_false h)
theorem f2bytes_cons (x : Fq2) : f2bytes x = u8 (byt x.b.val 47) :: (f2bytes x).tail := by
  unfold f2bytes; rw [Cu.fbytes_cons x.b, List.cons_append, List.tail_cons]
/-- The short form of a point of the second group. -/
def form2 (p : Pt) : List Value := .int .u8 (bitsOf .or .u8 ((byt p.1.b.val 47 : Nat) : Int) (Cu.flg true (decide (p = (0, 0))) (large2 p.2))) :: (f2bytes p.1).tail
theorem form2_len (p : Pt) : (form2 p).length = 96 := by
  have h := f2bytes_len p.1
  rw [f2bytes_cons] at h
  exact h
theorem form2_one (p : Pt) : (form2 p).all (·.oneCell') = true := by
  have h := f2bytes_one p.1
  rw [f2bytes_cons] at h
  exact h
theorem f2bytes_at (x : Fq2) : (f2bytes x)[0 + (0 : Int).toNat * 1]? = some (.int .u8 ((byt x.b.val 47 : Nat) : Int)) := by rw [f2bytes_cons]; rfl
theorem f2bytes_set (x : Fq2) (v : Value) : splice (0 + (0 : Int).toNat * 1) [v] (f2bytes x) = some (v :: (f2bytes x).tail) := by
  rw [f2bytes_cons]
  show splice 0 [v] (u8 (byt x.b.val 47) :: (f2bytes x).tail) = _
  exact splice_app (a := []) (new := [v]) (c := u8 (byt x.b.val 47) :: (f2bytes x).tail) (Nat.succ_le_succ (Nat.zero_le _))

theorem en32 : Vm.Enters Tryd.prog 32 := Vm.Enters.of fun _ _ => by kernel_rfl
theorem en71 : Vm.Enters Tryd.prog 71 := Vm.Enters.of fun _ _ => by kernel_rfl
theorem sz60 : sizeIn Tryd.prog 60 = some 96 := by kernel_rfl
theorem ty60 : TyA Tryd.prog 60 96 := ⟨by kernel_rfl, by kernel_rfl⟩
set_option maxRecDepth 100000 in
theorem FBytes2_ok {x : Fq2} {w : World} (hG : Blocks (GH T) w)  : Vm.Pure Tryd.prog 71 #[encF x] w (.agg (f2bytes x).toArray) := by
  refine pure_of_W (n := 19) (args := [encF x]) Tryd.func71 rfl Tryd.ntmps71 (Nat.le_of_ble_eq_true rfl) hG ?_
  refine sStart ?_
  refine sSeq ?_
  refine W.region ?_
  refine OpsW.fresh (fr_boxW46 rfl) rfl fun b1 => ?_
  refine OpsW.fresh (fr_alloc z60) rfl fun b2 => ?_
  refine sNext ?_
  refine W.keep (F' := [(2, _), (1, _)]) ⟨rfl, rfl, trivial⟩ ?_
  refine sSeq ?_
  refine W.region ?_
  refine OpsW.fresh (fr_alloc z60) rfl fun b3 => ?_
  refine sNext ?_
  refine sSeq ?_
  refine W.draw mixed 8 [[], [0], [0, 1], [], [3], [0, 1, 2, 3, 4], [], [], [0, 1, 2, 3, 4, 5, 6, 7], [0, 1, 2, 3, 4, 5, 6, 7, 8]] (cl_lt (by decide)) ?_
  refine HeadR.start (cl_lt (by decide)) ?_
  refine HeadR.det rfl (fun β hβ => (det_fieldAddr fl46_0 rfl)) ?_
  refine HeadR.det rfl (fun β hβ => (det_loadA ty29 rfl (List.Mem.tail _ (List.Mem.tail _ (List.Mem.head _))) rfl)) ?_
  refine HeadR.det rfl (fun β hβ => (det_call en68 rfl (fun w hb ho => Cu.FBytes_ok ho.blocks))) ?_
  refine HeadR.det rfl (fun β hβ => (det_fieldAddr fl46_1 rfl)) ?_
  refine HeadR.det rfl (fun β hβ => (det_loadA ty29 rfl (List.Mem.tail _ (List.Mem.tail _ (List.Mem.head _))) rfl)) ?_
  refine HeadR.det rfl (fun β hβ => (det_call en68 rfl (fun w hb ho => Cu.FBytes_ok ho.blocks))) ?_
  refine HeadR.fresh rfl (fun β hβ => (fr_alloc z58).new) ?_
  refine HeadR.fresh rfl (fun β hβ => (fr_alloc z58).new) ?_
  refine HeadR.done ⟨by kernel_rfl, fun β hβ => ?_⟩
  refine OpsW.norm (F' := [(6, _), (7, _), (8, _), (9, _), (10, _), (11, _), (4, .pointer (some ⟨(β 4).1, 0, none⟩)), (5, .pointer (some ⟨(β 5).1, 0, none⟩)), (3, _), (2, _), (1, _)]) (H' := [(_, _), (_, _), (_, _), (_, _), (_, _)]) rfl rfl ?_
  generalize (β 4).1 = b4
  generalize (β 5).1 = b5
  refine OpsW.store sz58 rfl rfl rfl (Cu.fbytes_len _) (Cu.fbytes_one _) (Upd.here) (splice_all (by rw [Cu.fbytes_len, fst6_len (Nat.zero_le _)])) ?_
  refine OpsW.store sz58 rfl rfl rfl (Cu.fbytes_len _) (Cu.fbytes_one _) (Upd.there (Upd.here)) (splice_all (by rw [Cu.fbytes_len, fst6_len (Nat.zero_le _)])) ?_
  refine sNext ?_
  refine W.keep (F' := [(4, _), (5, _), (3, _), (2, _)]) ⟨rfl, rfl, rfl, rfl, trivial⟩ ?_
  refine sSeq ?_
  refine W.draw mixed 2 [[], [], [0, 1]] (cl_lt (by decide)) ?_
  refine HeadR.start (cl_lt (by decide)) ?_
  refine HeadR.det rfl (fun β hβ => ((det_sliceArr (lo := none) (hi := none) (l := 0) (h := 96) u60 sz5 rfl rfl rfl (by decide) (by decide)).to (v := .slice (some ⟨b3, 0, none⟩) 96 96) rfl)) ?_
  refine HeadR.det rfl (fun β hβ => ((det_sliceArr (lo := none) (hi := none) (l := 0) (h := 48) u58 sz5 rfl rfl rfl (by decide) (by decide)).to (v := .slice (some ⟨b5, 0, none⟩) 48 48) rfl)) ?_
  refine HeadR.done ⟨by kernel_rfl, fun β hβ => ?_⟩
  refine OpsW.norm (F' := [(12, _), (13, _), (4, _), (5, _), (3, _), (2, _)]) (H' := [(_, _), (_, _), (_, _), (_, _), (_, _)]) rfl rfl ?_
  refine OpsW.copy (cs := Cu.fbytes x.b) u22 sz5 rfl rfl (.inl (List.Mem.tail _ (List.Mem.head _))) (by rw [Cu.fbytes_len]; rfl) (fun j u h => by rw [Nat.zero_add]; exact h) (Cu.fbytes_one _) (Upd.there (Upd.there Upd.here)) (f2_put1 x.b) rfl ?_
  refine sNext ?_
  refine W.keep (F' := [(4, _), (3, _), (2, _)]) ⟨rfl, rfl, rfl, trivial⟩ ?_
  refine sSeq ?_
  refine W.draw mixed 2 [[], [], [0, 1]] (cl_lt (by decide)) ?_
  refine HeadR.start (cl_lt (by decide)) ?_
  refine HeadR.det rfl (fun β hβ => ((det_sliceArr (lo := some (.const (.int .i64 48))) (hi := none) (l := 48) (h := 96) u60 sz5 rfl ⟨_, rfl⟩ rfl (by decide) (by decide)).to (v := .slice (some ⟨b3, 48, none⟩) 48 48) rfl)) ?_
  refine HeadR.det rfl (fun β hβ => ((det_sliceArr (lo := none) (hi := none) (l := 0) (h := 48) u58 sz5 rfl rfl rfl (by decide) (by decide)).to (v := .slice (some ⟨b4, 0, none⟩) 48 48) rfl)) ?_
  refine HeadR.done ⟨by kernel_rfl, fun β hβ => ?_⟩
  refine OpsW.norm (F' := [(15, _), (16, _), (4, _), (3, _), (2, _)]) (H' := [(_, _), (_, _), (_, _), (_, _), (_, _)]) rfl rfl ?_
  refine OpsW.copy (cs := Cu.fbytes x.a) u22 sz5 rfl rfl (.inl (List.Mem.head _)) (by rw [Cu.fbytes_len]; rfl) (fun j u h => by rw [Nat.zero_add]; exact h) (Cu.fbytes_one _) (Upd.there (Upd.there Upd.here)) (f2_put2 x.b x.a) rfl ?_
  refine sNext ?_
  refine W.keep (F' := [(3, _), (2, _)]) ⟨rfl, rfl, trivial⟩ ?_
  refine sSeq ?_
  refine W.region ?_
  refine OpsW.det (det_loadA ty60 rfl (List.Mem.tail _ (List.Mem.tail _ (List.Mem.head _))) (show cut 0 96 (f2bytes x) = some (f2bytes x) from cut_all (f2bytes_len x))) rfl ?_
  refine OpsW.store sz60 rfl rfl rfl (f2bytes_len x) (f2bytes_one x) (Upd.there (Upd.there (Upd.there (Upd.here)))) (splice_all (by rw [f2bytes_len, zer96_len])) ?_
  refine sNext ?_
  refine W.keep (F' := [(2, _)]) ⟨rfl, trivial⟩ ?_
  refine sRet ?_
  exact done1 Tryd.results71 (rv_cellA ty60 rfl (List.Mem.tail _ (List.Mem.tail _ (List.Mem.tail _ (List.Mem.head _)))) (show cut 0 96 (f2bytes x) = some (f2bytes x) from cut_all (f2bytes_len x))) rfl
theorem Large2_ok {x : Fq2} {w : World} (hG : Blocks (GH T) w)  : Vm.Pure Tryd.prog 32 #[encF x] w (.bool (large2 x)) := by
  refine pure_of_W (n := 12) (args := [encF x]) Tryd.func32 rfl Tryd.ntmps32 (Nat.le_of_ble_eq_true rfl) hG ?_
  refine sStart ?_
  refine sSeq ?_
  refine W.region ?_
  refine OpsW.fresh (fr_boxW46 rfl) rfl fun b1 => ?_
  refine OpsW.det (det_assign rfl) rfl ?_
  refine sNext ?_
  refine W.keep (F' := [(1, _)]) ⟨rfl, trivial⟩ ?_
  refine sSeq ?_
  refine sSeq ?_
  refine W.region ?_
  refine OpsW.det (det_fieldAddr fl46_1 rfl) rfl ?_
  refine OpsW.det (det_loadA ty29 rfl (List.Mem.head _) rfl) rfl ?_
  refine OpsW.det (det_call en65 rfl (fun w hb ho => Cu.Zero_ok ho.blocks)) rfl ?_
  refine sNext ?_
  refine W.keep (F' := [(5, _), (1, _)]) ⟨rfl, rfl, trivial⟩ ?_
  refine W.cond rfl (fun hc5 => ?_) (fun hc5 => ?_)
  · skip
    refine sSeq ?_
    refine W.region ?_
    refine OpsW.det (det_fieldAddr fl46_0 rfl) rfl ?_
    refine OpsW.det (det_loadA ty29 rfl (List.Mem.head _) rfl) rfl ?_
    refine OpsW.det (det_call en22 rfl (fun w hb ho => Cu.Large_ok ho.blocks)) rfl ?_
    refine OpsW.det (det_assign rfl) rfl ?_
    refine sNext ?_
    refine W.keep (F' := [(2, _)]) ⟨rfl, trivial⟩ ?_
    refine sRet ?_
    exact done1 Tryd.results32 (rv_tmp rfl) (congrArg Value.bool (large2_yes hc5).symm)
  · skip
    refine sSkip ?_
    refine sSeq ?_
    refine W.region ?_
    refine OpsW.det (det_fieldAddr fl46_1 rfl) rfl ?_
    refine OpsW.det (det_loadA ty29 rfl (List.Mem.head _) rfl) rfl ?_
    refine OpsW.det (det_call en22 rfl (fun w hb ho => Cu.Large_ok ho.blocks)) rfl ?_
    refine OpsW.det (det_assign rfl) rfl ?_
    refine sNext ?_
    refine W.keep (F' := [(2, _)]) ⟨rfl, trivial⟩ ?_
    refine sRet ?_
    exact done1 Tryd.results32 (rv_tmp rfl) (congrArg Value.bool (large2_no hc5).symm)
set_option maxRecDepth 100000 in
theorem CG2_ok {p : Pt} {w : World} (hG : Blocks (GH T) w)  : Vm.Pure Tryd.prog 37 #[encP p] w (.agg (form2 p).toArray) := by
  refine pure_of_W (n := 19) (args := [encP p]) Tryd.func37 rfl Tryd.ntmps37 (Nat.le_of_ble_eq_true rfl) hG ?_
  refine sStart ?_
  refine sSeq ?_
  refine W.region ?_
  refine OpsW.fresh (fr_boxW48 rfl) rfl fun b1 => ?_
  refine OpsW.fresh (fr_alloc z60) rfl fun b2 => ?_
  refine sNext ?_
  refine W.keep (F' := [(2, _), (1, _)]) ⟨rfl, rfl, trivial⟩ ?_
  refine sSeq ?_
  refine W.region ?_
  refine OpsW.det (det_fieldAddr fl48_0 rfl) rfl ?_
  refine OpsW.det (det_loadA ty46 rfl (List.Mem.tail _ (List.Mem.head _)) rfl) rfl ?_
  refine OpsW.det (det_call en71 rfl (fun w hb ho => Cw.FBytes2_ok ho.blocks)) rfl ?_
  refine OpsW.fresh (fr_alloc z60) rfl fun b3 => ?_
  refine OpsW.store sz60 rfl rfl rfl (f2bytes_len p.1) (f2bytes_one p.1) (Upd.here) (splice_all (by rw [f2bytes_len, zer96_len])) ?_
  refine sNext ?_
  refine W.keep (F' := [(3, _), (2, _), (1, _)]) ⟨rfl, rfl, rfl, trivial⟩ ?_
  refine sSeq ?_
  refine W.draw mixed 11 [[], [0], [], [], [2, 3], [], [5], [5, 6], [2, 3, 4, 5, 6, 7], [0, 1, 2, 3, 4, 5, 6, 7, 8], [0, 1, 2, 3, 4, 5, 6, 7, 8, 9], [0, 1, 2, 3, 4, 5, 6, 7, 8, 9, 10]] (cl_lt (by decide)) ?_
  refine HeadR.start (cl_lt (by decide)) ?_
  refine HeadR.det rfl (fun β hβ => (det_indexAddr_arr u60 sz5 rfl rfl ⟨by decide, by decide⟩)) ?_
  refine HeadR.det rfl (fun β hβ => (det_loadC ty5 rfl (List.Mem.head _) (f2bytes_at p.1))) ?_
  refine HeadR.det rfl (fun β hβ => (det_loadW48 rfl (List.Mem.tail _ (List.Mem.tail _ (List.Mem.head _))))) ?_
  refine HeadR.det rfl (fun β hβ => (det_zero bz48)) ?_
  refine HeadR.det rfl (fun β hβ => (det_eql48 rfl rfl)) ?_
  refine HeadR.det rfl (fun β hβ => (det_fieldAddr fl48_1 rfl)) ?_
  refine HeadR.det rfl (fun β hβ => (det_loadA ty46 rfl (List.Mem.tail _ (List.Mem.tail _ (List.Mem.head _))) rfl)) ?_
  refine HeadR.det rfl (fun β hβ => (det_call en32 rfl (fun w hb ho => Cw.Large2_ok ho.blocks))) ?_
  refine HeadR.det rfl (fun β hβ => (det_call en69 rfl (fun w hb ho => Cu.flags_ok (s := true) (n := decide (p = (0, 0))) (l := large2 p.2) ho.blocks))) ?_
  refine HeadR.det rfl (fun β hβ => (det_or rfl rfl)) ?_
  refine HeadR.det rfl (fun β hβ => (det_indexAddr_arr u60 sz5 rfl rfl ⟨by decide, by decide⟩)) ?_
  refine HeadR.done ⟨by kernel_rfl, fun β hβ => ?_⟩
  refine OpsW.norm (F' := [(7, _), (8, _), (9, _), (10, _), (11, _), (12, _), (13, _), (14, _), (15, _), (16, _), (17, _), (3, _), (2, _), (1, _)]) (H' := [(_, _), (_, _), (_, _)]) rfl rfl ?_
  refine OpsW.store sz5 rfl rfl rfl rfl rfl (Upd.here) (f2bytes_set p.1 _) ?_
  refine sNext ?_
  refine W.keep (F' := [(3, _), (2, _)]) ⟨rfl, rfl, trivial⟩ ?_
  refine sSeq ?_
  refine W.region ?_
  refine OpsW.det (det_loadA ty60 rfl (List.Mem.head _) (show cut 0 96 (form2 p) = some (form2 p) from cut_all (form2_len p))) rfl ?_
  refine OpsW.store sz60 rfl rfl rfl (form2_len p) (form2_one p) (Upd.there (Upd.here)) (splice_all (by rw [form2_len, zer96_len])) ?_
  refine sNext ?_
  refine W.keep (F' := [(2, _)]) ⟨rfl, trivial⟩ ?_
  refine sRet ?_
  exact done1 Tryd.results37 (rv_cellA ty60 rfl (List.Mem.tail _ (List.Mem.head _)) (show cut 0 96 (form2 p) = some (form2 p) from cut_all (form2_len p))) rfl

end Go.Cw

/- What the document fixes of forms: the walk. Conditions: none. -/
namespace Go.Cw
open Go Go.Vm Go.RowKit Go.Proofs Go.Cu
attribute [local irreducible] W OpsW Det Fresh New Writes Vm.Pure Makes Changes ExternTo BuildTo ZeroTo FieldTo IndexTo BinTo SliceTo Vm.Enters
set_option linter.unusedVariables false
set_option linter.unusedSimpArgs false
variable {T : Nat → TypeId × Nat × Nat}

theorem en34 : Vm.Enters Tryd.prog 34 := Vm.Enters.of fun _ _ => by kernel_rfl
theorem en41 : Vm.Enters Tryd.prog 41 := Vm.Enters.of fun _ _ => by kernel_rfl
theorem hf1 : (Cu.form1 ((0, 0) : Cu.Pt))[0 + (0 : Int).toNat * 1]? = some (.int .u8 192) := by kernel_rfl
theorem hf2 : (Cu.form1 ((0, 0) : Cu.Pt))[0 + (1 : Int).toNat * 1]? = some (.int .u8 0) := by kernel_rfl
theorem hf3 : (Cu.form1 Cu.gen)[0 + (0 : Int).toNat * 1]? = some (.int .u8 151) := by kernel_rfl
theorem hf4 : (Cu.form1 Cu.gen)[0 + (1 : Int).toNat * 1]? = some (.int .u8 241) := by kernel_rfl
theorem hf5 : (form2 gen)[0 + (0 : Int).toNat * 1]? = some (.int .u8 147) := by kernel_rfl
theorem hf6 : (form2 gen)[0 + (1 : Int).toNat * 1]? = some (.int .u8 224) := by kernel_rfl

theorem en37 : Vm.Enters Tryd.prog 37 := Vm.Enters.of fun _ _ => by kernel_rfl
theorem en43 : Vm.Enters Tryd.prog 43 := Vm.Enters.of fun _ _ => by kernel_rfl
set_option maxHeartbeats 2000000 in
set_option maxRecDepth 100000 in
theorem head09_ok  {w : World} (hG : Blocks (GH T) w)  : Vm.Pure Tryd.prog 9 #[] w (.bool true) := by
  refine pure_of_W (n := 38) (args := []) Tryd.func9 rfl Tryd.ntmps9 (Nat.le_of_ble_eq_true rfl) hG ?_
  refine sStart ?_
  refine sSeq ?_
  refine W.region ?_
  refine OpsW.det (det_assign rfl) rfl ?_
  refine sNext ?_
  refine W.keep (F' := []) trivial ?_
  refine sSeq ?_
  refine W.region ?_
  refine OpsW.det (det_zero bz31) rfl ?_
  refine OpsW.det (det_call en34 rfl (fun w hb ho => Cu.CG1_ok (p := (0, 0)) ho.blocks)) rfl ?_
  refine OpsW.fresh (fr_alloc z58) rfl fun b1 => ?_
  refine OpsW.store sz58 rfl rfl rfl (Cu.form1_len _) (Cu.form1_one _) (Upd.here) (splice_all (by rw [Cu.form1_len, fst6_len (Nat.zero_le _)])) ?_
  refine sNext ?_
  refine W.keep (F' := [(1, _)]) ⟨rfl, trivial⟩ ?_
  refine sSeq ?_
  refine W.region ?_
  refine OpsW.det (det_call en41 rfl (fun w hb ho => Cu.Gen_ok ho.blocks)) rfl ?_
  refine OpsW.det (det_call en34 rfl (fun w hb ho => Cu.CG1_ok ho.blocks)) rfl ?_
  refine OpsW.fresh (fr_alloc z58) rfl fun b2 => ?_
  refine OpsW.store sz58 rfl rfl rfl (Cu.form1_len _) (Cu.form1_one _) (Upd.here) (splice_all (by rw [Cu.form1_len, fst6_len (Nat.zero_le _)])) ?_
  refine sNext ?_
  refine W.keep (F' := [(2, _), (1, _)]) ⟨rfl, rfl, trivial⟩ ?_
  refine sSeq ?_
  refine W.region ?_
  refine OpsW.det (det_call en43 rfl (fun w hb ho => Gen_ok ho.blocks)) rfl ?_
  refine OpsW.det (det_call en37 rfl (fun w hb ho => Cw.CG2_ok ho.blocks)) rfl ?_
  refine OpsW.fresh (fr_alloc z60) rfl fun b3 => ?_
  refine OpsW.store sz60 rfl rfl rfl (form2_len _) (form2_one _) (Upd.here) (splice_all (by rw [form2_len, zer96_len])) ?_
  refine sNext ?_
  refine W.keep (F' := [(3, _), (2, _), (1, _)]) ⟨rfl, rfl, rfl, trivial⟩ ?_
  refine sSeq ?_
  refine W.region ?_
  refine OpsW.det (det_indexAddr_arr u58 sz5 rfl rfl ⟨by decide, by decide⟩) rfl ?_
  refine OpsW.det (det_loadC ty5 rfl (List.Mem.tail _ (List.Mem.tail _ (List.Mem.head _))) hf1) rfl ?_
  refine OpsW.det (Det.to (det_eql rfl rfl) (congrArg Value.bool (rfl))) rfl ?_
  refine OpsW.det (det_move rfl) rfl ?_
  refine OpsW.guard_yes rfl rfl ?_
  refine OpsW.det (det_indexAddr_arr u58 sz5 rfl rfl ⟨by decide, by decide⟩) rfl ?_
  refine OpsW.guard_yes rfl rfl ?_
  refine OpsW.det (det_loadC ty5 rfl (List.Mem.tail _ (List.Mem.tail _ (List.Mem.head _))) hf2) rfl ?_
  refine OpsW.guard_yes rfl rfl ?_
  refine OpsW.det (Det.to (det_eql rfl rfl) (congrArg Value.bool (rfl))) rfl ?_
  refine OpsW.det (det_pick rfl rfl) rfl ?_
  refine OpsW.det (det_move rfl) rfl ?_
  refine OpsW.guard_yes rfl rfl ?_
  refine OpsW.det (det_indexAddr_arr u58 sz5 rfl rfl ⟨by decide, by decide⟩) rfl ?_
  refine OpsW.guard_yes rfl rfl ?_
  refine OpsW.det (det_loadC ty5 rfl (List.Mem.tail _ (List.Mem.head _)) hf3) rfl ?_
  refine OpsW.guard_yes rfl rfl ?_
  refine OpsW.det (Det.to (det_eql rfl rfl) (congrArg Value.bool (rfl))) rfl ?_
  refine OpsW.det (det_pick rfl rfl) rfl ?_
  refine OpsW.det (det_move rfl) rfl ?_
  refine OpsW.guard_yes rfl rfl ?_
  refine OpsW.det (det_indexAddr_arr u58 sz5 rfl rfl ⟨by decide, by decide⟩) rfl ?_
  refine OpsW.guard_yes rfl rfl ?_
  refine OpsW.det (det_loadC ty5 rfl (List.Mem.tail _ (List.Mem.head _)) hf4) rfl ?_
  refine OpsW.guard_yes rfl rfl ?_
  refine OpsW.det (Det.to (det_eql rfl rfl) (congrArg Value.bool (rfl))) rfl ?_
  refine OpsW.det (det_pick rfl rfl) rfl ?_
  refine OpsW.det (det_move rfl) rfl ?_
  refine OpsW.guard_yes rfl rfl ?_
  refine OpsW.det (det_indexAddr_arr u60 sz5 rfl rfl ⟨by decide, by decide⟩) rfl ?_
  refine OpsW.guard_yes rfl rfl ?_
  refine OpsW.det (det_loadC ty5 rfl (List.Mem.head _) hf5) rfl ?_
  refine OpsW.guard_yes rfl rfl ?_
  refine OpsW.det (Det.to (det_eql rfl rfl) (congrArg Value.bool (rfl))) rfl ?_
  refine OpsW.det (det_pick rfl rfl) rfl ?_
  refine OpsW.det (det_move rfl) rfl ?_
  refine OpsW.guard_yes rfl rfl ?_
  refine OpsW.det (det_indexAddr_arr u60 sz5 rfl rfl ⟨by decide, by decide⟩) rfl ?_
  refine OpsW.guard_yes rfl rfl ?_
  refine OpsW.det (det_loadC ty5 rfl (List.Mem.head _) hf6) rfl ?_
  refine OpsW.guard_yes rfl rfl ?_
  refine OpsW.det (Det.to (det_eql rfl rfl) (congrArg Value.bool (rfl))) rfl ?_
  refine OpsW.det (det_pick rfl rfl) rfl ?_
  refine OpsW.det (det_assign rfl) rfl ?_
  refine sNext ?_
  refine W.keep (F' := [(0, _)]) ⟨rfl, trivial⟩ ?_
  refine sRet ?_
  exact done1 Tryd.results9 (rv_tmp rfl) rfl

end Go.Cw

/- Bytes that are alike, and long ones: the walks. Conditions: as many as memory has. -/
namespace Go.Cu
open Go Go.Vm Go.RowKit Go.Proofs 
attribute [local irreducible] W OpsW Det Fresh New Writes Vm.Pure Makes Changes ExternTo BuildTo ZeroTo FieldTo IndexTo BinTo SliceTo Vm.Enters
set_option linter.unusedVariables false
set_option linter.unusedSimpArgs false
variable {T : Nat → TypeId × Nat × Nat}

theorem cells_u8 {cs : List Value} {o i : Nat} {v : Value} (h : cs[o + i]? = some v) : cs[o + ((i : Nat) : Int).toNat * 1]? = some v := by rw [Int.toNat_natCast, Nat.mul_one]; exact h
theorem take_stepN {l1 l2 : List Nat} {i : Nat} (h1 : i < l1.length) (h2 : i < l2.length) (h : l1.take i = l2.take i) (he : l1[i] = l2[i]) : l1.take (i + 1) = l2.take (i + 1) := by
  rw [List.take_succ_eq_append_getElem h1, List.take_succ_eq_append_getElem h2, h, he]


theorem same_ok {G' : Hp} {v v2 : Value} {l l2 : List Nat} (hB : Bs G' v l) (hB2 : Bs G' v2 l2) (hlen : l.length ≤ 9223372036854775806) {w : World} (hG : Blocks (G' ++ GH T) w)  : Vm.Pure Tryd.prog 13 #[v, v2] w (.bool (decide (l = l2))) := by
  obtain ⟨ad, cap, hvv⟩ := hB.shape
  obtain ⟨ad2, cap2, hvv2⟩ := hB2.shape
  refine pure_of_W (n := 26) (args := [v, v2]) Tryd.func13 rfl Tryd.ntmps13 (Nat.le_of_ble_eq_true rfl) hG ?_
  refine sStart ?_
  refine sSeq ?_
  subst hvv
  subst hvv2
  refine W.region ?_
  refine OpsW.det (det_assign rfl) rfl ?_
  refine sNext ?_
  refine W.keep (F' := [(0, _), (1, _)]) ⟨rfl, rfl, trivial⟩ ?_
  refine sSeq ?_
  refine sSeq ?_
  refine W.region ?_
  refine OpsW.det (det_move rfl) rfl ?_
  refine OpsW.det (det_len u22 rfl) rfl ?_
  refine OpsW.det (det_move rfl) rfl ?_
  refine OpsW.det (det_len u22 rfl) rfl ?_
  refine OpsW.det (det_neq (a := (l.length : Int)) (b := (l2.length : Int)) rfl rfl) rfl ?_
  refine sNext ?_
  refine W.keep (F' := [(10, _), (0, _), (1, _)]) ⟨rfl, rfl, rfl, trivial⟩ ?_
  refine W.cond rfl (fun hc10 => ?_) (fun hc10 => ?_)
  · skip
    have hne : l.length ≠ l2.length := fun h2 => by have h := hc10; rw [h2] at h; simp at h
    refine sSeq ?_
    refine W.region ?_
    refine OpsW.det (det_assign rfl) rfl ?_
    refine sNext ?_
    refine W.keep (F' := [(4, _)]) ⟨rfl, trivial⟩ ?_
    refine sRet ?_
    exact done1 Tryd.results13 (rv_tmp rfl) (congrArg Value.bool (decide_eq_false (fun h => hne (by rw [h]))).symm)
  · skip
    have hll : l.length = l2.length := by have h := hc10; simp at h; omega
    refine sSkip ?_
    refine sSeq ?_
    refine sSeq ?_
    refine W.region ?_
    refine OpsW.det (det_move rfl) rfl ?_
    refine OpsW.det (det_len u22 rfl) rfl ?_
    refine OpsW.det (det_move rfl) rfl ?_
    refine sNext ?_
    refine W.keep (F' := [(13, _), (12, _), (0, _), (1, _)]) ⟨rfl, rfl, rfl, rfl, trivial⟩ ?_
    refine sBlock ?_
    refine sLoop (σ := Nat) (fun i => [(13, .int .i64 (i : Nat)), (12, .int .i64 (l.length : Nat)), (0, .slice ad l.length cap), (1, .slice ad2 l2.length cap2)]) (fun i => []) (fun i => i ≤ l.length ∧ l.take i = l2.take i) (fun i => l.length - i) 0 ⟨Nat.zero_le _, rfl⟩ ⟨rfl, rfl, rfl, rfl, trivial⟩ (List.nil_sublist _) ?_
    rintro i ⟨hi, hI⟩
    refine sSeq ?_
    refine W.region ?_
    refine OpsW.det (det_lss rfl rfl) rfl ?_
    refine sNext ?_
    refine sSeq ?_
    refine W.cond rfl (fun hc14 => ?_) (fun hc14 => ?_)
    · skip
      have hlt : i < l.length := by have h := hc14; simp only [decide_eq_true_eq] at h; omega
      have hlt2 : i < l2.length := by omega
      obtain ⟨bk, o, cap', cs, e, fr, hv, hm, hcell⟩ := hB.at_ i hlt
      simp only [Value.slice.injEq] at hv
      obtain ⟨rfl, _, rfl⟩ := hv
      obtain ⟨bk2, o2, cap2', cs2, e2, fr2, hv2, hm2, hcell2⟩ := hB2.at_ i hlt2
      simp only [Value.slice.injEq] at hv2
      obtain ⟨rfl, _, rfl⟩ := hv2
      refine sSkip ?_
      refine sSeq ?_
      refine sBlock ?_
      refine sSeq ?_
      refine W.region ?_
      refine OpsW.det (det_move rfl) rfl ?_
      refine OpsW.det (det_assign rfl) rfl ?_
      refine sNext ?_
      refine W.keep (F' := [(5, _), (13, _), (12, _), (0, _), (1, _)]) ⟨rfl, rfl, rfl, rfl, rfl, trivial⟩ ?_
      refine sSeq ?_
      refine W.draw mixed 9 [[], [], [0, 1], [0, 1, 2], [], [], [4, 5], [4, 5, 6], [0, 1, 2, 3, 4, 5, 6, 7]] (cl_lt (by decide)) ?_
      refine HeadR.start (cl_lt (by decide)) ?_
      refine HeadR.det rfl (fun β hβ => (det_move rfl)) ?_
      refine HeadR.det rfl (fun β hβ => (det_move rfl)) ?_
      refine HeadR.det rfl (fun β hβ => (det_indexAddr_sl u22 sz5 rfl rfl ⟨by omega, by omega⟩)) ?_
      refine HeadR.det rfl (fun β hβ => (det_loadC_ro ty5 rfl (List.mem_append_left _ hm) (cells_u8 hcell))) ?_
      refine HeadR.det rfl (fun β hβ => (det_move rfl)) ?_
      refine HeadR.det rfl (fun β hβ => (det_move rfl)) ?_
      refine HeadR.det rfl (fun β hβ => (det_indexAddr_sl u22 sz5 rfl rfl ⟨by omega, by omega⟩)) ?_
      refine HeadR.det rfl (fun β hβ => (det_loadC_ro ty5 rfl (List.mem_append_left _ hm2) (cells_u8 hcell2))) ?_
      refine HeadR.det rfl (fun β hβ => ((det_neq (a := (l[i] : Int)) (b := (l2[i] : Int)) rfl rfl))) ?_
      refine HeadR.done ⟨by kernel_rfl, fun β hβ => ?_⟩
      refine OpsW.norm (F' := [(16, _), (17, _), (18, _), (19, _), (20, _), (21, _), (22, _), (23, _), (24, _), (5, _), (13, _), (12, _), (0, _), (1, _)]) (H' := []) rfl rfl ?_
      refine sNext ?_
      refine W.keep (F' := [(24, _), (13, _), (12, _), (0, _), (1, _)]) ⟨rfl, rfl, rfl, rfl, rfl, trivial⟩ ?_
      refine W.cond rfl (fun hc24 => ?_) (fun hc24 => ?_)
      · skip
        refine sSeq ?_
        refine W.region ?_
        refine OpsW.det (det_assign rfl) rfl ?_
        refine sNext ?_
        refine W.keep (F' := [(4, _)]) ⟨rfl, trivial⟩ ?_
        refine sRet ?_
        refine retBlk ?_
        refine retLoop ?_
        refine retBlk ?_
        exact done1 Tryd.results13 (rv_tmp rfl) (congrArg Value.bool (decide_eq_false (fun h => by subst h; have h2 := hc24; simp at h2)).symm)
      · skip
        refine sSkip0 ?_
        refine bNext ?_
        refine W.keep (F' := [(13, _), (12, _), (0, _), (1, _)]) ⟨rfl, rfl, rfl, rfl, trivial⟩ ?_
        refine W.region ?_
        refine OpsW.det (det_addN (b := 1) rfl rfl (by omega)) rfl ?_
        refine OpsW.det (det_move rfl) rfl ?_
        refine sLast ?_
        exact rEnd (i + 1) ⟨hlt, take_stepN hlt hlt2 hI (by have h := hc24; simp at h; omega)⟩ ⟨rfl, rfl, rfl, rfl, trivial⟩ (List.nil_sublist _) (step_lt hlt)
    · skip
      have hi4 : i = l.length := by have h := hc14; simp only [decide_eq_false_iff_not] at h; omega
      subst hi4
      refine sExit ?_
      refine xLoop ?_
      refine xHere ?_
      refine W.keep (F' := []) trivial ?_
      refine sSeq ?_
      refine W.region ?_
      refine OpsW.det (det_assign rfl) rfl ?_
      refine sNext ?_
      refine sRet ?_
      exact done1 Tryd.results13 (rv_tmp rfl) (congrArg Value.bool (decide_eq_true (by have h := hI; rw [List.take_length, hll, List.take_length] at h; exact h)).symm)
theorem long09_ok {a : Option Addr} {n c : Nat} {w : World} (hG : Blocks (GH T) w)  : Vm.Pure Tryd.prog 10 #[.slice a n c] w (.bool (decide (400 < (n : Int)))) := by
  refine pure_of_W (n := 6) (args := [.slice a n c]) Tryd.func10 rfl Tryd.ntmps10 (Nat.le_of_ble_eq_true rfl) hG ?_
  refine sStart ?_
  refine sSeq ?_
  refine W.region ?_
  refine OpsW.det (det_assign rfl) rfl ?_
  refine sNext ?_
  refine W.keep (F' := [(0, _)]) ⟨rfl, trivial⟩ ?_
  refine sSeq ?_
  refine W.region ?_
  refine OpsW.det (det_move rfl) rfl ?_
  refine OpsW.det (det_len u22 rfl) rfl ?_
  refine OpsW.det (det_gtr rfl rfl) rfl ?_
  refine OpsW.det (det_assign rfl) rfl ?_
  refine sNext ?_
  refine W.keep (F' := [(2, _)]) ⟨rfl, trivial⟩ ?_
  refine sRet ?_
  exact done1 Tryd.results10 (rv_tmp rfl) rfl

end Go.Cu

/- A form's marks: the walk. Conditions: of the short form's length. -/
namespace Go.Cu
open Go Go.Vm Go.RowKit Go.Proofs 
attribute [local irreducible] W OpsW Det Fresh New Writes Vm.Pure Makes Changes ExternTo BuildTo ZeroTo FieldTo IndexTo BinTo SliceTo Vm.Enters
set_option linter.unusedVariables false
set_option linter.unusedSimpArgs false
variable {T : Nat → TypeId × Nat × Nat}

theorem u4 : Tryd.prog.underlying 4 = some .bool := by kernel_rfl
def b0 (l : List Nat) : Nat := l.getD 0 0
def sB (b : Nat) : Bool := decide ((128 : Int) ≤ ((b : Nat) : Int))
def fB (b : Nat) : Bool := bitsOf .and .u8 ((b : Nat) : Int) 64 != 0
def lB (b : Nat) : Bool := bitsOf .and .u8 ((b : Nat) : Int) 32 != 0
def zB (b : Nat) : Bool := bitsOf .and .u8 ((b : Nat) : Int) 31 != 0
def badM (l : List Nat) (n : Nat) : Bool := (sB (b0 l) != decide (l.length = n)) || (lB (b0 l) && !sB (b0 l)) || (lB (b0 l) && fB (b0 l))
def dirty (l : List Nat) : Bool := zB (b0 l) || (l.drop 1).any (· != 0)
/-- A form's marks: the error, and whether it is infinity. -/
def markE (l : List Nat) (n : Nat) : Int × Bool := if l.length ≠ n ∧ l.length ≠ 2 * n then (10, false) else if badM l n = true then (11, false) else if fB (b0 l) = true ∧ dirty l = true then (11, true) else (0, fB (b0 l))
theorem b0_at {l : List Nat} {cs : List Value} {o : Nat} (h0 : 0 < l.length) (h : cs[o + 0]? = some (u8 l[0])) : cs[o + (0 : Int).toNat * 1]? = some (.int .u8 ((b0 l : Nat) : Int)) := by
  have : b0 l = l[0] := by unfold b0; rw [List.getD_eq_getElem?_getD, List.getElem?_eq_getElem h0]; rfl
  rw [this]; exact h
theorem mark_len {l : List Nat} {n : Nat} (h : l.length ≠ n) (h2 : l.length ≠ 2 * n) : markE l n = (10, false) := if_pos ⟨h, h2⟩
theorem mark_bad {l : List Nat} {n : Nat} (h : l.length = n ∨ l.length = 2 * n) (h2 : badM l n = true) : markE l n = (11, false) := by unfold markE; rw [if_neg (by omega), if_pos h2]
theorem mark_dirty {l : List Nat} {n : Nat} (h : l.length = n ∨ l.length = 2 * n) (h2 : badM l n = false) (h3 : fB (b0 l) = true) (h4 : dirty l = true) : markE l n = (11, true) := by unfold markE; rw [if_neg (by omega), if_neg (by rw [h2]; decide), if_pos ⟨h3, h4⟩]
theorem mark_ok {l : List Nat} {n : Nat} (h : l.length = n ∨ l.length = 2 * n) (h2 : badM l n = false) (h3 : ¬ (fB (b0 l) = true ∧ dirty l = true)) : markE l n = (0, fB (b0 l)) := by unfold markE; rw [if_neg (by omega), if_neg (by rw [h2]; decide), if_neg h3]
theorem mark_post {l : List Nat} {n : Nat} {e : Int} {f : Bool} (h : markE l n = (e, f)) : Value.tuple #[.int .i64 e, .bool f] = .tuple #[.int .i64 (markE l n).1, .bool (markE l n).2] := by rw [h]
/-- The first i bytes have nothing but marks. -/
def cleanTo (l : List Nat) (i : Nat) : Prop := (0 < i → zB (b0 l) = false) ∧ ∀ j, 1 ≤ j → j < i → l.getD j 0 = 0
theorem clean_all {l : List Nat} (h : cleanTo l l.length) : dirty l = false := by
  unfold dirty
  rcases Nat.eq_zero_or_pos l.length with h0 | h0
  · have : l = [] := List.eq_nil_of_length_eq_zero h0
    subst this; decide
  · rw [h.1 h0, Bool.false_or, List.any_eq_false]
    intro x hx
    obtain ⟨j, hj, rfl⟩ := List.getElem_of_mem hx
    rw [List.length_drop] at hj
    have := h.2 (1 + j) (by omega) (by omega)
    rw [List.getD_eq_getElem?_getD, List.getElem?_eq_getElem (by omega)] at this
    rw [List.getElem_drop]
    have this : l[1 + j] = 0 := this
    rw [this]; decide
theorem dirty_at {l : List Nat} {i : Nat} (h : i < l.length) (h1 : 0 < i) (h2 : l[i] ≠ 0) : dirty l = true := by
  unfold dirty
  rw [Bool.or_eq_true]; right
  rw [List.any_eq_true]
  refine ⟨l[i], ?_, by simpa using h2⟩
  have : (l.drop 1)[i - 1]'(by rw [List.length_drop]; omega) = l[i] := by rw [List.getElem_drop]; congr 1; omega
  rw [← this]; exact List.getElem_mem _
theorem dirty_0 {l : List Nat} (h : zB (b0 l) = true) : dirty l = true := by unfold dirty; rw [h]; rfl
theorem clean_step {l : List Nat} {i : Nat} (h : i < l.length) (hc : cleanTo l i) (h1 : 0 < i) (h2 : l[i] = 0) : cleanTo l (i + 1) :=
  ⟨fun _ => hc.1 h1, fun j h3 h4 => by
    by_cases e : j = i
    · subst e; rw [List.getD_eq_getElem?_getD, List.getElem?_eq_getElem h]; exact h2
    · exact hc.2 j h3 (by omega)⟩
theorem clean_first {l : List Nat} {i : Nat} (h0 : i = 0) (h : zB (b0 l) = false) : cleanTo l (i + 1) := by subst h0; exact ⟨fun _ => h, fun j h3 h4 => by omega⟩
theorem clean_step0 {l : List Nat} (h : zB (b0 l) = false) : cleanTo l (0 + 1) := ⟨fun _ => h, fun j h3 h4 => by omega⟩


set_option maxHeartbeats 4000000 in
theorem marks_ok {G' : Hp} {v : Value} {l : List Nat} {n : Nat} (hB : Bs G' v l) (hn : 0 < n) (hn2 : n ≤ 1000000) (hlen0 : l.length ≤ 1000000) {w : World} (hG : Blocks (G' ++ GH T) w)  : Vm.Pure Tryd.prog 14 #[v, .int .i64 ((n : Nat) : Int)] w (.tuple #[.int .i64 (markE l n).1, .bool (markE l n).2]) := by
  obtain ⟨ad, cap, hvv⟩ := hB.shape
  refine pure_of_W (n := 82) (args := [v, .int .i64 ((n : Nat) : Int)]) Tryd.func14 rfl Tryd.ntmps14 (Nat.le_of_ble_eq_true rfl) hG ?_
  refine sStart ?_
  refine sSeq ?_
  subst hvv
  refine W.region ?_
  refine OpsW.det (det_assign rfl) rfl ?_
  refine OpsW.det (det_assign rfl) rfl ?_
  refine sNext ?_
  refine W.keep (F' := [(0, _), (1, _)]) ⟨rfl, rfl, trivial⟩ ?_
  refine sSeq ?_
  refine sSeq ?_
  refine sCut2 (σ := Unit) (fun _s => [(0, .slice ad l.length cap), (1, .int .i64 ((n : Nat) : Int))]) (fun _s => []) (fun _s => l.length = n ∨ l.length = 2 * n) ?_ ?_
  · skip
    refine W.region ?_
    refine OpsW.det (det_move rfl) rfl ?_
    refine OpsW.det (det_len u22 rfl) rfl ?_
    refine OpsW.det (det_move rfl) rfl ?_
    refine OpsW.test ((det_neq (a := (l.length : Int)) (b := (n : Int)) rfl rfl)) rfl (fun hc13 => ?_) (fun hc13 => ?_)
    · skip
      refine OpsW.det (det_move rfl) rfl ?_
      refine OpsW.guard_yes rfl rfl ?_
      refine OpsW.det (det_move rfl) rfl ?_
      refine OpsW.guard_yes rfl rfl ?_
      refine OpsW.det (det_len u22 rfl) rfl ?_
      refine OpsW.guard_yes rfl rfl ?_
      refine OpsW.det (det_move rfl) rfl ?_
      refine OpsW.guard_yes rfl rfl ?_
      refine OpsW.det ((det_mul (a := 2) (b := ((n : Nat) : Int)) rfl rfl).to (v := .int .i64 ((2 * n : Nat) : Int)) (by rw [wrap_i64 (by omega)]; congr 1)) rfl ?_
      refine OpsW.guard_yes rfl rfl ?_
      refine OpsW.det ((det_neq (a := (l.length : Int)) (b := ((2 * n : Nat) : Int)) rfl rfl)) rfl ?_
      refine OpsW.det (det_pick rfl rfl) rfl ?_
      refine sNext ?_
      refine W.keep (F' := [(20, _), (0, _), (1, _)]) ⟨rfl, rfl, rfl, trivial⟩ ?_
      refine W.cond rfl (fun hc20 => ?_) (fun hc20 => ?_)
      · skip
        have hne1 : l.length ≠ n := fun h2 => by have h := hc13; rw [h2] at h; simp at h
        have hne2 : l.length ≠ 2 * n := fun h2 => by have h := hc20; rw [h2] at h; simp at h
        refine sSeq ?_
        refine W.region ?_
        refine OpsW.det (det_assign rfl) rfl ?_
        refine OpsW.det (det_assign rfl) rfl ?_
        refine sNext ?_
        refine W.keep (F' := [(5, _), (4, _)]) ⟨rfl, rfl, trivial⟩ ?_
        refine sRet ?_
        refine cutRet ?_
        exact done2 Tryd.results14 (rv_tmp rfl) (rv_tmp rfl) (mark_post (mark_len hne1 hne2))
      · skip
        refine sSkip0 ?_
        exact cutOk () (by have h := hc20; simp at h; omega) ⟨rfl, rfl, trivial⟩ (List.nil_sublist _)
    · skip
      refine OpsW.det (det_move rfl) rfl ?_
      refine OpsW.guard_no rfl rfl rfl ?_
      refine OpsW.guard_no rfl rfl rfl ?_
      refine OpsW.guard_no rfl rfl rfl ?_
      refine OpsW.guard_no rfl rfl rfl ?_
      refine OpsW.guard_no rfl rfl rfl ?_
      refine OpsW.det (det_pick rfl rfl) rfl ?_
      refine sNext ?_
      refine W.keep (F' := [(20, _), (0, _), (1, _)]) ⟨rfl, rfl, rfl, trivial⟩ ?_
      refine W.cond_false rfl ?_
      refine sSkip0 ?_
      exact cutOk () (by have h := hc13; simp at h; omega) ⟨rfl, rfl, trivial⟩ (List.nil_sublist _)
  · skip
    rintro - hlen
    have hpos : 0 < l.length := by omega
    obtain ⟨bk0, o0, cap0, cs0, e0, fr0, hv0, hm0, hcell0⟩ := hB.at_ 0 hpos
    simp only [Value.slice.injEq] at hv0
    obtain ⟨rfl, _, rfl⟩ := hv0
    refine sSeq ?_
    refine W.region ?_
    refine OpsW.det (det_move rfl) rfl ?_
    refine OpsW.det (det_indexAddr_sl u22 sz5 rfl rfl ⟨by decide, by omega⟩) rfl ?_
    refine OpsW.det (det_loadC_ro ty5 rfl (List.mem_append_left _ hm0) (b0_at hpos hcell0)) rfl ?_
    refine OpsW.det ((det_geq (b := 128) rfl rfl).to (v := .bool (sB (b0 l))) rfl) rfl ?_
    refine OpsW.det (det_assign rfl) rfl ?_
    refine sNext ?_
    refine W.keep (F' := [(6, _), (0, _), (1, _)]) ⟨rfl, rfl, rfl, trivial⟩ ?_
    refine sSeq ?_
    refine W.region ?_
    refine OpsW.det (det_move rfl) rfl ?_
    refine OpsW.det (det_indexAddr_sl u22 sz5 rfl rfl ⟨by decide, by omega⟩) rfl ?_
    refine OpsW.det (det_loadC_ro ty5 rfl (List.mem_append_left _ hm0) (b0_at hpos hcell0)) rfl ?_
    refine OpsW.det (det_and rfl rfl) rfl ?_
    refine OpsW.det ((det_neq (b := 0) rfl rfl).to (v := .bool (fB (b0 l))) rfl) rfl ?_
    refine OpsW.det (det_assign rfl) rfl ?_
    refine sNext ?_
    refine W.keep (F' := [(7, _), (6, _), (0, _), (1, _)]) ⟨rfl, rfl, rfl, rfl, trivial⟩ ?_
    refine sSeq ?_
    refine W.region ?_
    refine OpsW.det (det_move rfl) rfl ?_
    refine OpsW.det (det_indexAddr_sl u22 sz5 rfl rfl ⟨by decide, by omega⟩) rfl ?_
    refine OpsW.det (det_loadC_ro ty5 rfl (List.mem_append_left _ hm0) (b0_at hpos hcell0)) rfl ?_
    refine OpsW.det (det_and rfl rfl) rfl ?_
    refine OpsW.det ((det_neq (b := 0) rfl rfl).to (v := .bool (lB (b0 l))) rfl) rfl ?_
    refine OpsW.det (det_assign rfl) rfl ?_
    refine sNext ?_
    refine W.keep (F' := [(8, _), (7, _), (6, _), (0, _), (1, _)]) ⟨rfl, rfl, rfl, rfl, rfl, trivial⟩ ?_
    refine sSeq ?_
    refine sSeq ?_
    refine sCut2 (σ := Unit) (fun _s => [(7, .bool (fB (b0 l))), (0, .slice (some ⟨bk0, o0, none⟩) l.length cap)]) (fun _s => []) (fun _s => badM l n = false) ?_ ?_
    · skip
      rcases hs : sB (b0 l) with _ | _ <;> rcases hl : lB (b0 l) with _ | _ <;> rcases hf : fB (b0 l) with _ | _
      · skip
        refine W.region ?_
        refine OpsW.det (det_move rfl) rfl ?_
        refine OpsW.det (det_move rfl) rfl ?_
        refine OpsW.det (det_len u22 rfl) rfl ?_
        refine OpsW.det (det_move rfl) rfl ?_
        refine OpsW.det ((det_eql (a := (l.length : Int)) (b := (n : Int)) rfl rfl).to (v := .bool (decide (l.length = n))) (congrArg Value.bool (by rw [Bool.eq_iff_iff, beq_iff_eq, decide_eq_true_iff]; omega))) rfl ?_
        refine OpsW.test (det_neqb u4 rfl rfl) rfl (fun hc40 => ?_) (fun hc40 => ?_)
        · skip
          refine OpsW.det (det_move rfl) rfl ?_
          refine OpsW.guard_no rfl rfl rfl ?_
          refine OpsW.guard_no rfl rfl rfl ?_
          refine OpsW.guard_un rfl rfl rfl ?_
          refine OpsW.guard_un rfl rfl rfl ?_
          refine OpsW.guard_no rfl rfl rfl ?_
          refine OpsW.det (det_pick rfl rfl) rfl ?_
          refine OpsW.det (det_move rfl) rfl ?_
          refine OpsW.guard_no rfl rfl rfl ?_
          refine OpsW.guard_no rfl rfl rfl ?_
          refine OpsW.guard_un rfl rfl rfl ?_
          refine OpsW.guard_no rfl rfl rfl ?_
          refine OpsW.det (det_pick rfl rfl) rfl ?_
          refine sNext ?_
          refine W.keep (F' := [(53, _), (7, _), (0, _)]) ⟨rfl, rfl, rfl, trivial⟩ ?_
          refine W.cond_true rfl ?_
          refine sSeq ?_
          refine W.region ?_
          refine OpsW.det (det_assign rfl) rfl ?_
          refine OpsW.det (det_assign rfl) rfl ?_
          refine sNext ?_
          refine W.keep (F' := [(5, _), (4, _)]) ⟨rfl, rfl, trivial⟩ ?_
          refine sRet ?_
          refine cutRet ?_
          exact done2 Tryd.results14 (rv_tmp rfl) (rv_tmp rfl) (mark_post (mark_bad hlen (by unfold badM; rw [hs, hl, hf]; have h := hc40; simp at h ⊢ <;> first | done | exact h | (simp [h]))))
        · skip
          refine OpsW.det (det_move rfl) rfl ?_
          refine OpsW.guard_yes rfl rfl ?_
          refine OpsW.det (det_move rfl) rfl ?_
          refine OpsW.guard_yes rfl rfl ?_
          refine OpsW.det (det_move rfl) rfl ?_
          refine OpsW.guard_no rfl rfl rfl ?_
          refine OpsW.guard_no rfl rfl rfl ?_
          refine OpsW.guard_yes rfl rfl ?_
          refine OpsW.det (det_pick rfl rfl) rfl ?_
          refine OpsW.det (det_pick rfl rfl) rfl ?_
          refine OpsW.det (det_move rfl) rfl ?_
          refine OpsW.guard_yes rfl rfl ?_
          refine OpsW.det (det_move rfl) rfl ?_
          refine OpsW.guard_yes rfl rfl ?_
          refine OpsW.det (det_move rfl) rfl ?_
          refine OpsW.guard_no rfl rfl rfl ?_
          refine OpsW.guard_yes rfl rfl ?_
          refine OpsW.det (det_pick rfl rfl) rfl ?_
          refine OpsW.det (det_pick rfl rfl) rfl ?_
          refine sNext ?_
          refine W.keep (F' := [(53, _), (7, _), (0, _)]) ⟨rfl, rfl, rfl, trivial⟩ ?_
          refine W.cond_false rfl ?_
          refine sSkip0 ?_
          exact cutOk () (by unfold badM; rw [hs, hl, hf]; have h := hc40; simp at h ⊢; first | exact h | (intro h2; exact absurd h2 h) | (simp [h])) ⟨rfl, rfl, trivial⟩ (List.nil_sublist _)
      · skip
        refine W.region ?_
        refine OpsW.det (det_move rfl) rfl ?_
        refine OpsW.det (det_move rfl) rfl ?_
        refine OpsW.det (det_len u22 rfl) rfl ?_
        refine OpsW.det (det_move rfl) rfl ?_
        refine OpsW.det ((det_eql (a := (l.length : Int)) (b := (n : Int)) rfl rfl).to (v := .bool (decide (l.length = n))) (congrArg Value.bool (by rw [Bool.eq_iff_iff, beq_iff_eq, decide_eq_true_iff]; omega))) rfl ?_
        refine OpsW.test (det_neqb u4 rfl rfl) rfl (fun hc40 => ?_) (fun hc40 => ?_)
        · skip
          refine OpsW.det (det_move rfl) rfl ?_
          refine OpsW.guard_no rfl rfl rfl ?_
          refine OpsW.guard_no rfl rfl rfl ?_
          refine OpsW.guard_un rfl rfl rfl ?_
          refine OpsW.guard_un rfl rfl rfl ?_
          refine OpsW.guard_no rfl rfl rfl ?_
          refine OpsW.det (det_pick rfl rfl) rfl ?_
          refine OpsW.det (det_move rfl) rfl ?_
          refine OpsW.guard_no rfl rfl rfl ?_
          refine OpsW.guard_no rfl rfl rfl ?_
          refine OpsW.guard_un rfl rfl rfl ?_
          refine OpsW.guard_no rfl rfl rfl ?_
          refine OpsW.det (det_pick rfl rfl) rfl ?_
          refine sNext ?_
          refine W.keep (F' := [(53, _), (7, _), (0, _)]) ⟨rfl, rfl, rfl, trivial⟩ ?_
          refine W.cond_true rfl ?_
          refine sSeq ?_
          refine W.region ?_
          refine OpsW.det (det_assign rfl) rfl ?_
          refine OpsW.det (det_assign rfl) rfl ?_
          refine sNext ?_
          refine W.keep (F' := [(5, _), (4, _)]) ⟨rfl, rfl, trivial⟩ ?_
          refine sRet ?_
          refine cutRet ?_
          exact done2 Tryd.results14 (rv_tmp rfl) (rv_tmp rfl) (mark_post (mark_bad hlen (by unfold badM; rw [hs, hl, hf]; have h := hc40; simp at h ⊢ <;> first | done | exact h | (simp [h]))))
        · skip
          refine OpsW.det (det_move rfl) rfl ?_
          refine OpsW.guard_yes rfl rfl ?_
          refine OpsW.det (det_move rfl) rfl ?_
          refine OpsW.guard_yes rfl rfl ?_
          refine OpsW.det (det_move rfl) rfl ?_
          refine OpsW.guard_no rfl rfl rfl ?_
          refine OpsW.guard_no rfl rfl rfl ?_
          refine OpsW.guard_yes rfl rfl ?_
          refine OpsW.det (det_pick rfl rfl) rfl ?_
          refine OpsW.det (det_pick rfl rfl) rfl ?_
          refine OpsW.det (det_move rfl) rfl ?_
          refine OpsW.guard_yes rfl rfl ?_
          refine OpsW.det (det_move rfl) rfl ?_
          refine OpsW.guard_yes rfl rfl ?_
          refine OpsW.det (det_move rfl) rfl ?_
          refine OpsW.guard_no rfl rfl rfl ?_
          refine OpsW.guard_yes rfl rfl ?_
          refine OpsW.det (det_pick rfl rfl) rfl ?_
          refine OpsW.det (det_pick rfl rfl) rfl ?_
          refine sNext ?_
          refine W.keep (F' := [(53, _), (7, _), (0, _)]) ⟨rfl, rfl, rfl, trivial⟩ ?_
          refine W.cond_false rfl ?_
          refine sSkip0 ?_
          exact cutOk () (by unfold badM; rw [hs, hl, hf]; have h := hc40; simp at h ⊢; first | exact h | (intro h2; exact absurd h2 h) | (simp [h])) ⟨rfl, rfl, trivial⟩ (List.nil_sublist _)
      · skip
        refine W.region ?_
        refine OpsW.det (det_move rfl) rfl ?_
        refine OpsW.det (det_move rfl) rfl ?_
        refine OpsW.det (det_len u22 rfl) rfl ?_
        refine OpsW.det (det_move rfl) rfl ?_
        refine OpsW.det ((det_eql (a := (l.length : Int)) (b := (n : Int)) rfl rfl).to (v := .bool (decide (l.length = n))) (congrArg Value.bool (by rw [Bool.eq_iff_iff, beq_iff_eq, decide_eq_true_iff]; omega))) rfl ?_
        refine OpsW.test (det_neqb u4 rfl rfl) rfl (fun hc40 => ?_) (fun hc40 => ?_)
        · skip
          refine OpsW.det (det_move rfl) rfl ?_
          refine OpsW.guard_no rfl rfl rfl ?_
          refine OpsW.guard_no rfl rfl rfl ?_
          refine OpsW.guard_un rfl rfl rfl ?_
          refine OpsW.guard_un rfl rfl rfl ?_
          refine OpsW.guard_no rfl rfl rfl ?_
          refine OpsW.det (det_pick rfl rfl) rfl ?_
          refine OpsW.det (det_move rfl) rfl ?_
          refine OpsW.guard_no rfl rfl rfl ?_
          refine OpsW.guard_no rfl rfl rfl ?_
          refine OpsW.guard_un rfl rfl rfl ?_
          refine OpsW.guard_no rfl rfl rfl ?_
          refine OpsW.det (det_pick rfl rfl) rfl ?_
          refine sNext ?_
          refine W.keep (F' := [(53, _), (7, _), (0, _)]) ⟨rfl, rfl, rfl, trivial⟩ ?_
          refine W.cond_true rfl ?_
          refine sSeq ?_
          refine W.region ?_
          refine OpsW.det (det_assign rfl) rfl ?_
          refine OpsW.det (det_assign rfl) rfl ?_
          refine sNext ?_
          refine W.keep (F' := [(5, _), (4, _)]) ⟨rfl, rfl, trivial⟩ ?_
          refine sRet ?_
          refine cutRet ?_
          exact done2 Tryd.results14 (rv_tmp rfl) (rv_tmp rfl) (mark_post (mark_bad hlen (by unfold badM; rw [hs, hl, hf]; have h := hc40; simp at h ⊢ <;> first | done | exact h | (simp [h]))))
        · skip
          refine OpsW.det (det_move rfl) rfl ?_
          refine OpsW.guard_yes rfl rfl ?_
          refine OpsW.det (det_move rfl) rfl ?_
          refine OpsW.guard_yes rfl rfl ?_
          refine OpsW.det (det_move rfl) rfl ?_
          refine OpsW.guard_yes rfl rfl ?_
          refine OpsW.det (det_move rfl) rfl ?_
          refine OpsW.guard_yes rfl rfl ?_
          refine OpsW.det (det_not rfl) rfl ?_
          refine OpsW.guard_yes rfl rfl ?_
          refine OpsW.det (det_pick rfl rfl) rfl ?_
          refine OpsW.det (det_pick rfl rfl) rfl ?_
          refine OpsW.det (det_move rfl) rfl ?_
          refine OpsW.guard_no rfl rfl rfl ?_
          refine OpsW.guard_no rfl rfl rfl ?_
          refine OpsW.guard_un rfl rfl rfl ?_
          refine OpsW.guard_no rfl rfl rfl ?_
          refine OpsW.det (det_pick rfl rfl) rfl ?_
          refine sNext ?_
          refine W.keep (F' := [(53, _), (7, _), (0, _)]) ⟨rfl, rfl, rfl, trivial⟩ ?_
          refine W.cond_true rfl ?_
          refine sSeq ?_
          refine W.region ?_
          refine OpsW.det (det_assign rfl) rfl ?_
          refine OpsW.det (det_assign rfl) rfl ?_
          refine sNext ?_
          refine W.keep (F' := [(5, _), (4, _)]) ⟨rfl, rfl, trivial⟩ ?_
          refine sRet ?_
          refine cutRet ?_
          exact done2 Tryd.results14 (rv_tmp rfl) (rv_tmp rfl) (mark_post (mark_bad hlen (by unfold badM; rw [hs, hl, hf]; have h := hc40; simp at h ⊢ <;> first | done | exact h | (simp [h]))))
      · skip
        refine W.region ?_
        refine OpsW.det (det_move rfl) rfl ?_
        refine OpsW.det (det_move rfl) rfl ?_
        refine OpsW.det (det_len u22 rfl) rfl ?_
        refine OpsW.det (det_move rfl) rfl ?_
        refine OpsW.det ((det_eql (a := (l.length : Int)) (b := (n : Int)) rfl rfl).to (v := .bool (decide (l.length = n))) (congrArg Value.bool (by rw [Bool.eq_iff_iff, beq_iff_eq, decide_eq_true_iff]; omega))) rfl ?_
        refine OpsW.test (det_neqb u4 rfl rfl) rfl (fun hc40 => ?_) (fun hc40 => ?_)
        · skip
          refine OpsW.det (det_move rfl) rfl ?_
          refine OpsW.guard_no rfl rfl rfl ?_
          refine OpsW.guard_no rfl rfl rfl ?_
          refine OpsW.guard_un rfl rfl rfl ?_
          refine OpsW.guard_un rfl rfl rfl ?_
          refine OpsW.guard_no rfl rfl rfl ?_
          refine OpsW.det (det_pick rfl rfl) rfl ?_
          refine OpsW.det (det_move rfl) rfl ?_
          refine OpsW.guard_no rfl rfl rfl ?_
          refine OpsW.guard_no rfl rfl rfl ?_
          refine OpsW.guard_un rfl rfl rfl ?_
          refine OpsW.guard_no rfl rfl rfl ?_
          refine OpsW.det (det_pick rfl rfl) rfl ?_
          refine sNext ?_
          refine W.keep (F' := [(53, _), (7, _), (0, _)]) ⟨rfl, rfl, rfl, trivial⟩ ?_
          refine W.cond_true rfl ?_
          refine sSeq ?_
          refine W.region ?_
          refine OpsW.det (det_assign rfl) rfl ?_
          refine OpsW.det (det_assign rfl) rfl ?_
          refine sNext ?_
          refine W.keep (F' := [(5, _), (4, _)]) ⟨rfl, rfl, trivial⟩ ?_
          refine sRet ?_
          refine cutRet ?_
          exact done2 Tryd.results14 (rv_tmp rfl) (rv_tmp rfl) (mark_post (mark_bad hlen (by unfold badM; rw [hs, hl, hf]; have h := hc40; simp at h ⊢ <;> first | done | exact h | (simp [h]))))
        · skip
          refine OpsW.det (det_move rfl) rfl ?_
          refine OpsW.guard_yes rfl rfl ?_
          refine OpsW.det (det_move rfl) rfl ?_
          refine OpsW.guard_yes rfl rfl ?_
          refine OpsW.det (det_move rfl) rfl ?_
          refine OpsW.guard_yes rfl rfl ?_
          refine OpsW.det (det_move rfl) rfl ?_
          refine OpsW.guard_yes rfl rfl ?_
          refine OpsW.det (det_not rfl) rfl ?_
          refine OpsW.guard_yes rfl rfl ?_
          refine OpsW.det (det_pick rfl rfl) rfl ?_
          refine OpsW.det (det_pick rfl rfl) rfl ?_
          refine OpsW.det (det_move rfl) rfl ?_
          refine OpsW.guard_no rfl rfl rfl ?_
          refine OpsW.guard_no rfl rfl rfl ?_
          refine OpsW.guard_un rfl rfl rfl ?_
          refine OpsW.guard_no rfl rfl rfl ?_
          refine OpsW.det (det_pick rfl rfl) rfl ?_
          refine sNext ?_
          refine W.keep (F' := [(53, _), (7, _), (0, _)]) ⟨rfl, rfl, rfl, trivial⟩ ?_
          refine W.cond_true rfl ?_
          refine sSeq ?_
          refine W.region ?_
          refine OpsW.det (det_assign rfl) rfl ?_
          refine OpsW.det (det_assign rfl) rfl ?_
          refine sNext ?_
          refine W.keep (F' := [(5, _), (4, _)]) ⟨rfl, rfl, trivial⟩ ?_
          refine sRet ?_
          refine cutRet ?_
          exact done2 Tryd.results14 (rv_tmp rfl) (rv_tmp rfl) (mark_post (mark_bad hlen (by unfold badM; rw [hs, hl, hf]; have h := hc40; simp at h ⊢ <;> first | done | exact h | (simp [h]))))
      · skip
        refine W.region ?_
        refine OpsW.det (det_move rfl) rfl ?_
        refine OpsW.det (det_move rfl) rfl ?_
        refine OpsW.det (det_len u22 rfl) rfl ?_
        refine OpsW.det (det_move rfl) rfl ?_
        refine OpsW.det ((det_eql (a := (l.length : Int)) (b := (n : Int)) rfl rfl).to (v := .bool (decide (l.length = n))) (congrArg Value.bool (by rw [Bool.eq_iff_iff, beq_iff_eq, decide_eq_true_iff]; omega))) rfl ?_
        refine OpsW.test (det_neqb u4 rfl rfl) rfl (fun hc40 => ?_) (fun hc40 => ?_)
        · skip
          refine OpsW.det (det_move rfl) rfl ?_
          refine OpsW.guard_no rfl rfl rfl ?_
          refine OpsW.guard_no rfl rfl rfl ?_
          refine OpsW.guard_un rfl rfl rfl ?_
          refine OpsW.guard_un rfl rfl rfl ?_
          refine OpsW.guard_no rfl rfl rfl ?_
          refine OpsW.det (det_pick rfl rfl) rfl ?_
          refine OpsW.det (det_move rfl) rfl ?_
          refine OpsW.guard_no rfl rfl rfl ?_
          refine OpsW.guard_no rfl rfl rfl ?_
          refine OpsW.guard_un rfl rfl rfl ?_
          refine OpsW.guard_no rfl rfl rfl ?_
          refine OpsW.det (det_pick rfl rfl) rfl ?_
          refine sNext ?_
          refine W.keep (F' := [(53, _), (7, _), (0, _)]) ⟨rfl, rfl, rfl, trivial⟩ ?_
          refine W.cond_true rfl ?_
          refine sSeq ?_
          refine W.region ?_
          refine OpsW.det (det_assign rfl) rfl ?_
          refine OpsW.det (det_assign rfl) rfl ?_
          refine sNext ?_
          refine W.keep (F' := [(5, _), (4, _)]) ⟨rfl, rfl, trivial⟩ ?_
          refine sRet ?_
          refine cutRet ?_
          exact done2 Tryd.results14 (rv_tmp rfl) (rv_tmp rfl) (mark_post (mark_bad hlen (by unfold badM; rw [hs, hl, hf]; have h := hc40; simp at h ⊢ <;> first | done | exact h | (simp [h]))))
        · skip
          refine OpsW.det (det_move rfl) rfl ?_
          refine OpsW.guard_yes rfl rfl ?_
          refine OpsW.det (det_move rfl) rfl ?_
          refine OpsW.guard_yes rfl rfl ?_
          refine OpsW.det (det_move rfl) rfl ?_
          refine OpsW.guard_no rfl rfl rfl ?_
          refine OpsW.guard_no rfl rfl rfl ?_
          refine OpsW.guard_yes rfl rfl ?_
          refine OpsW.det (det_pick rfl rfl) rfl ?_
          refine OpsW.det (det_pick rfl rfl) rfl ?_
          refine OpsW.det (det_move rfl) rfl ?_
          refine OpsW.guard_yes rfl rfl ?_
          refine OpsW.det (det_move rfl) rfl ?_
          refine OpsW.guard_yes rfl rfl ?_
          refine OpsW.det (det_move rfl) rfl ?_
          refine OpsW.guard_no rfl rfl rfl ?_
          refine OpsW.guard_yes rfl rfl ?_
          refine OpsW.det (det_pick rfl rfl) rfl ?_
          refine OpsW.det (det_pick rfl rfl) rfl ?_
          refine sNext ?_
          refine W.keep (F' := [(53, _), (7, _), (0, _)]) ⟨rfl, rfl, rfl, trivial⟩ ?_
          refine W.cond_false rfl ?_
          refine sSkip0 ?_
          exact cutOk () (by unfold badM; rw [hs, hl, hf]; have h := hc40; simp at h ⊢; first | exact h | (intro h2; exact absurd h2 h) | (simp [h])) ⟨rfl, rfl, trivial⟩ (List.nil_sublist _)
      · skip
        refine W.region ?_
        refine OpsW.det (det_move rfl) rfl ?_
        refine OpsW.det (det_move rfl) rfl ?_
        refine OpsW.det (det_len u22 rfl) rfl ?_
        refine OpsW.det (det_move rfl) rfl ?_
        refine OpsW.det ((det_eql (a := (l.length : Int)) (b := (n : Int)) rfl rfl).to (v := .bool (decide (l.length = n))) (congrArg Value.bool (by rw [Bool.eq_iff_iff, beq_iff_eq, decide_eq_true_iff]; omega))) rfl ?_
        refine OpsW.test (det_neqb u4 rfl rfl) rfl (fun hc40 => ?_) (fun hc40 => ?_)
        · skip
          refine OpsW.det (det_move rfl) rfl ?_
          refine OpsW.guard_no rfl rfl rfl ?_
          refine OpsW.guard_no rfl rfl rfl ?_
          refine OpsW.guard_un rfl rfl rfl ?_
          refine OpsW.guard_un rfl rfl rfl ?_
          refine OpsW.guard_no rfl rfl rfl ?_
          refine OpsW.det (det_pick rfl rfl) rfl ?_
          refine OpsW.det (det_move rfl) rfl ?_
          refine OpsW.guard_no rfl rfl rfl ?_
          refine OpsW.guard_no rfl rfl rfl ?_
          refine OpsW.guard_un rfl rfl rfl ?_
          refine OpsW.guard_no rfl rfl rfl ?_
          refine OpsW.det (det_pick rfl rfl) rfl ?_
          refine sNext ?_
          refine W.keep (F' := [(53, _), (7, _), (0, _)]) ⟨rfl, rfl, rfl, trivial⟩ ?_
          refine W.cond_true rfl ?_
          refine sSeq ?_
          refine W.region ?_
          refine OpsW.det (det_assign rfl) rfl ?_
          refine OpsW.det (det_assign rfl) rfl ?_
          refine sNext ?_
          refine W.keep (F' := [(5, _), (4, _)]) ⟨rfl, rfl, trivial⟩ ?_
          refine sRet ?_
          refine cutRet ?_
          exact done2 Tryd.results14 (rv_tmp rfl) (rv_tmp rfl) (mark_post (mark_bad hlen (by unfold badM; rw [hs, hl, hf]; have h := hc40; simp at h ⊢ <;> first | done | exact h | (simp [h]))))
        · skip
          refine OpsW.det (det_move rfl) rfl ?_
          refine OpsW.guard_yes rfl rfl ?_
          refine OpsW.det (det_move rfl) rfl ?_
          refine OpsW.guard_yes rfl rfl ?_
          refine OpsW.det (det_move rfl) rfl ?_
          refine OpsW.guard_no rfl rfl rfl ?_
          refine OpsW.guard_no rfl rfl rfl ?_
          refine OpsW.guard_yes rfl rfl ?_
          refine OpsW.det (det_pick rfl rfl) rfl ?_
          refine OpsW.det (det_pick rfl rfl) rfl ?_
          refine OpsW.det (det_move rfl) rfl ?_
          refine OpsW.guard_yes rfl rfl ?_
          refine OpsW.det (det_move rfl) rfl ?_
          refine OpsW.guard_yes rfl rfl ?_
          refine OpsW.det (det_move rfl) rfl ?_
          refine OpsW.guard_no rfl rfl rfl ?_
          refine OpsW.guard_yes rfl rfl ?_
          refine OpsW.det (det_pick rfl rfl) rfl ?_
          refine OpsW.det (det_pick rfl rfl) rfl ?_
          refine sNext ?_
          refine W.keep (F' := [(53, _), (7, _), (0, _)]) ⟨rfl, rfl, rfl, trivial⟩ ?_
          refine W.cond_false rfl ?_
          refine sSkip0 ?_
          exact cutOk () (by unfold badM; rw [hs, hl, hf]; have h := hc40; simp at h ⊢; first | exact h | (intro h2; exact absurd h2 h) | (simp [h])) ⟨rfl, rfl, trivial⟩ (List.nil_sublist _)
      · skip
        refine W.region ?_
        refine OpsW.det (det_move rfl) rfl ?_
        refine OpsW.det (det_move rfl) rfl ?_
        refine OpsW.det (det_len u22 rfl) rfl ?_
        refine OpsW.det (det_move rfl) rfl ?_
        refine OpsW.det ((det_eql (a := (l.length : Int)) (b := (n : Int)) rfl rfl).to (v := .bool (decide (l.length = n))) (congrArg Value.bool (by rw [Bool.eq_iff_iff, beq_iff_eq, decide_eq_true_iff]; omega))) rfl ?_
        refine OpsW.test (det_neqb u4 rfl rfl) rfl (fun hc40 => ?_) (fun hc40 => ?_)
        · skip
          refine OpsW.det (det_move rfl) rfl ?_
          refine OpsW.guard_no rfl rfl rfl ?_
          refine OpsW.guard_no rfl rfl rfl ?_
          refine OpsW.guard_un rfl rfl rfl ?_
          refine OpsW.guard_un rfl rfl rfl ?_
          refine OpsW.guard_no rfl rfl rfl ?_
          refine OpsW.det (det_pick rfl rfl) rfl ?_
          refine OpsW.det (det_move rfl) rfl ?_
          refine OpsW.guard_no rfl rfl rfl ?_
          refine OpsW.guard_no rfl rfl rfl ?_
          refine OpsW.guard_un rfl rfl rfl ?_
          refine OpsW.guard_no rfl rfl rfl ?_
          refine OpsW.det (det_pick rfl rfl) rfl ?_
          refine sNext ?_
          refine W.keep (F' := [(53, _), (7, _), (0, _)]) ⟨rfl, rfl, rfl, trivial⟩ ?_
          refine W.cond_true rfl ?_
          refine sSeq ?_
          refine W.region ?_
          refine OpsW.det (det_assign rfl) rfl ?_
          refine OpsW.det (det_assign rfl) rfl ?_
          refine sNext ?_
          refine W.keep (F' := [(5, _), (4, _)]) ⟨rfl, rfl, trivial⟩ ?_
          refine sRet ?_
          refine cutRet ?_
          exact done2 Tryd.results14 (rv_tmp rfl) (rv_tmp rfl) (mark_post (mark_bad hlen (by unfold badM; rw [hs, hl, hf]; have h := hc40; simp at h ⊢ <;> first | done | exact h | (simp [h]))))
        · skip
          refine OpsW.det (det_move rfl) rfl ?_
          refine OpsW.guard_yes rfl rfl ?_
          refine OpsW.det (det_move rfl) rfl ?_
          refine OpsW.guard_yes rfl rfl ?_
          refine OpsW.det (det_move rfl) rfl ?_
          refine OpsW.guard_yes rfl rfl ?_
          refine OpsW.det (det_move rfl) rfl ?_
          refine OpsW.guard_yes rfl rfl ?_
          refine OpsW.det (det_not rfl) rfl ?_
          refine OpsW.guard_yes rfl rfl ?_
          refine OpsW.det (det_pick rfl rfl) rfl ?_
          refine OpsW.det (det_pick rfl rfl) rfl ?_
          refine OpsW.det (det_move rfl) rfl ?_
          refine OpsW.guard_yes rfl rfl ?_
          refine OpsW.det (det_move rfl) rfl ?_
          refine OpsW.guard_yes rfl rfl ?_
          refine OpsW.det (det_move rfl) rfl ?_
          refine OpsW.guard_yes rfl rfl ?_
          refine OpsW.det (det_move rfl) rfl ?_
          refine OpsW.guard_yes rfl rfl ?_
          refine OpsW.det (det_pick rfl rfl) rfl ?_
          refine OpsW.det (det_pick rfl rfl) rfl ?_
          refine sNext ?_
          refine W.keep (F' := [(53, _), (7, _), (0, _)]) ⟨rfl, rfl, rfl, trivial⟩ ?_
          refine W.cond_false rfl ?_
          refine sSkip0 ?_
          exact cutOk () (by unfold badM; rw [hs, hl, hf]; have h := hc40; simp at h ⊢; first | exact h | (intro h2; exact absurd h2 h) | (simp [h])) ⟨rfl, rfl, trivial⟩ (List.nil_sublist _)
      · skip
        refine W.region ?_
        refine OpsW.det (det_move rfl) rfl ?_
        refine OpsW.det (det_move rfl) rfl ?_
        refine OpsW.det (det_len u22 rfl) rfl ?_
        refine OpsW.det (det_move rfl) rfl ?_
        refine OpsW.det ((det_eql (a := (l.length : Int)) (b := (n : Int)) rfl rfl).to (v := .bool (decide (l.length = n))) (congrArg Value.bool (by rw [Bool.eq_iff_iff, beq_iff_eq, decide_eq_true_iff]; omega))) rfl ?_
        refine OpsW.test (det_neqb u4 rfl rfl) rfl (fun hc40 => ?_) (fun hc40 => ?_)
        · skip
          refine OpsW.det (det_move rfl) rfl ?_
          refine OpsW.guard_no rfl rfl rfl ?_
          refine OpsW.guard_no rfl rfl rfl ?_
          refine OpsW.guard_un rfl rfl rfl ?_
          refine OpsW.guard_un rfl rfl rfl ?_
          refine OpsW.guard_no rfl rfl rfl ?_
          refine OpsW.det (det_pick rfl rfl) rfl ?_
          refine OpsW.det (det_move rfl) rfl ?_
          refine OpsW.guard_no rfl rfl rfl ?_
          refine OpsW.guard_no rfl rfl rfl ?_
          refine OpsW.guard_un rfl rfl rfl ?_
          refine OpsW.guard_no rfl rfl rfl ?_
          refine OpsW.det (det_pick rfl rfl) rfl ?_
          refine sNext ?_
          refine W.keep (F' := [(53, _), (7, _), (0, _)]) ⟨rfl, rfl, rfl, trivial⟩ ?_
          refine W.cond_true rfl ?_
          refine sSeq ?_
          refine W.region ?_
          refine OpsW.det (det_assign rfl) rfl ?_
          refine OpsW.det (det_assign rfl) rfl ?_
          refine sNext ?_
          refine W.keep (F' := [(5, _), (4, _)]) ⟨rfl, rfl, trivial⟩ ?_
          refine sRet ?_
          refine cutRet ?_
          exact done2 Tryd.results14 (rv_tmp rfl) (rv_tmp rfl) (mark_post (mark_bad hlen (by unfold badM; rw [hs, hl, hf]; have h := hc40; simp at h ⊢ <;> first | done | exact h | (simp [h]))))
        · skip
          refine OpsW.det (det_move rfl) rfl ?_
          refine OpsW.guard_yes rfl rfl ?_
          refine OpsW.det (det_move rfl) rfl ?_
          refine OpsW.guard_yes rfl rfl ?_
          refine OpsW.det (det_move rfl) rfl ?_
          refine OpsW.guard_yes rfl rfl ?_
          refine OpsW.det (det_move rfl) rfl ?_
          refine OpsW.guard_yes rfl rfl ?_
          refine OpsW.det (det_not rfl) rfl ?_
          refine OpsW.guard_yes rfl rfl ?_
          refine OpsW.det (det_pick rfl rfl) rfl ?_
          refine OpsW.det (det_pick rfl rfl) rfl ?_
          refine OpsW.det (det_move rfl) rfl ?_
          refine OpsW.guard_yes rfl rfl ?_
          refine OpsW.det (det_move rfl) rfl ?_
          refine OpsW.guard_yes rfl rfl ?_
          refine OpsW.det (det_move rfl) rfl ?_
          refine OpsW.guard_yes rfl rfl ?_
          refine OpsW.det (det_move rfl) rfl ?_
          refine OpsW.guard_yes rfl rfl ?_
          refine OpsW.det (det_pick rfl rfl) rfl ?_
          refine OpsW.det (det_pick rfl rfl) rfl ?_
          refine sNext ?_
          refine W.keep (F' := [(53, _), (7, _), (0, _)]) ⟨rfl, rfl, rfl, trivial⟩ ?_
          refine W.cond_true rfl ?_
          refine sSeq ?_
          refine W.region ?_
          refine OpsW.det (det_assign rfl) rfl ?_
          refine OpsW.det (det_assign rfl) rfl ?_
          refine sNext ?_
          refine W.keep (F' := [(5, _), (4, _)]) ⟨rfl, rfl, trivial⟩ ?_
          refine sRet ?_
          refine cutRet ?_
          exact done2 Tryd.results14 (rv_tmp rfl) (rv_tmp rfl) (mark_post (mark_bad hlen (by unfold badM; rw [hs, hl, hf]; have h := hc40; simp at h ⊢ <;> first | done | exact h | (simp [h]))))
    · skip
      rintro - hbad
      refine sSeq ?_
      refine sSeq ?_
      refine W.region ?_
      refine OpsW.det (det_move rfl) rfl ?_
      refine sNext ?_
      refine W.cond rfl (fun hc54 => ?_) (fun hc54 => ?_)
      · skip
        refine sSeq ?_
        refine W.region ?_
        refine OpsW.det (det_move rfl) rfl ?_
        refine OpsW.det (det_len u22 rfl) rfl ?_
        refine OpsW.det (det_move rfl) rfl ?_
        refine sNext ?_
        refine W.keep (F' := [(57, _), (56, _), (7, _), (0, _)]) ⟨rfl, rfl, rfl, rfl, trivial⟩ ?_
        refine sBlock ?_
        refine sLoop (σ := Nat) (fun i => [(57, .int .i64 (i : Nat)), (56, .int .i64 (l.length : Nat)), (0, .slice (some ⟨bk0, o0, none⟩) l.length cap), (7, .bool (fB (b0 l)))]) (fun i => []) (fun i => i ≤ l.length ∧ cleanTo l i) (fun i => l.length - i) 0 ⟨Nat.zero_le _, fun h => absurd h (Nat.lt_irrefl 0), fun j h1 h2 => absurd h2 (Nat.not_lt_zero _)⟩ ⟨rfl, rfl, rfl, rfl, trivial⟩ (List.nil_sublist _) ?_
        rintro i ⟨hi, hI⟩
        refine sSeq ?_
        refine W.region ?_
        refine OpsW.det (det_lss rfl rfl) rfl ?_
        refine sNext ?_
        refine sSeq ?_
        refine W.cond rfl (fun hc58 => ?_) (fun hc58 => ?_)
        · skip
          have hlt : i < l.length := by have h := hc58; simp only [decide_eq_true_eq] at h; omega
          obtain ⟨bk1, o1, cap1, cs1, e1, fr1, hv1, hm1, hcell1⟩ := hB.at_ i hlt
          simp only [Value.slice.injEq, Option.some.injEq, Addr.mk.injEq] at hv1
          obtain ⟨⟨rfl, rfl, _⟩, _, rfl⟩ := hv1
          refine sSkip ?_
          refine sSeq ?_
          refine sBlock ?_
          refine sSeq ?_
          refine W.region ?_
          refine OpsW.det (det_move rfl) rfl ?_
          refine OpsW.det (det_assign rfl) rfl ?_
          refine sNext ?_
          refine W.keep (F' := [(9, _), (57, _), (56, _), (0, _), (7, _)]) ⟨rfl, rfl, rfl, rfl, rfl, trivial⟩ ?_
          refine sSeq ?_
          refine W.region ?_
          refine OpsW.det (det_move rfl) rfl ?_
          refine OpsW.test (det_gtr rfl rfl) rfl (fun hc61 => ?_) (fun hc61 => ?_)
          · skip
            refine OpsW.det (det_move rfl) rfl ?_
            refine OpsW.guard_yes rfl rfl ?_
            refine OpsW.det (det_move rfl) rfl ?_
            refine OpsW.guard_yes rfl rfl ?_
            refine OpsW.det (det_move rfl) rfl ?_
            refine OpsW.guard_yes rfl rfl ?_
            refine OpsW.det (det_indexAddr_sl u22 sz5 rfl rfl ⟨by omega, by omega⟩) rfl ?_
            refine OpsW.guard_yes rfl rfl ?_
            refine OpsW.det (det_loadC_ro ty5 rfl (List.mem_append_left _ hm1) (cells_u8 hcell1)) rfl ?_
            refine OpsW.guard_yes rfl rfl ?_
            refine OpsW.test ((det_neq (a := (l[i] : Int)) (b := 0) rfl rfl)) rfl (fun hc67 => ?_) (fun hc67 => ?_)
            · skip
              refine OpsW.det (det_pick rfl rfl) rfl ?_
              refine OpsW.det (det_move rfl) rfl ?_
              refine OpsW.guard_no rfl rfl rfl ?_
              refine OpsW.guard_no rfl rfl rfl ?_
              refine OpsW.guard_no rfl rfl rfl ?_
              refine OpsW.guard_un rfl rfl rfl ?_
              refine OpsW.guard_un rfl rfl rfl ?_
              refine OpsW.guard_un rfl rfl rfl ?_
              refine OpsW.guard_un rfl rfl rfl ?_
              refine OpsW.guard_un rfl rfl rfl ?_
              refine OpsW.guard_no rfl rfl rfl ?_
              refine OpsW.det (det_pick rfl rfl) rfl ?_
              refine sNext ?_
              refine W.keep (F' := [(79, _), (57, _), (56, _), (0, _), (7, _)]) ⟨rfl, rfl, rfl, rfl, rfl, trivial⟩ ?_
              refine W.cond_true rfl ?_
              refine sSeq ?_
              refine W.region ?_
              refine OpsW.det (det_assign rfl) rfl ?_
              refine OpsW.det (det_assign rfl) rfl ?_
              refine sNext ?_
              refine W.keep (F' := [(5, _), (4, _)]) ⟨rfl, rfl, trivial⟩ ?_
              refine sRet ?_
              refine retBlk ?_
              refine retLoop ?_
              refine retBlk ?_
              exact done2 Tryd.results14 (rv_tmp rfl) (rv_tmp rfl) (mark_post (mark_dirty hlen hbad hc54 (dirty_at hlt (by have h := of_decide_eq_true hc61; omega) (by have h := hc67; simpa using h))))
            · skip
              refine OpsW.det (det_pick rfl rfl) rfl ?_
              refine OpsW.det (det_move rfl) rfl ?_
              refine OpsW.guard_yes rfl rfl ?_
              refine OpsW.det (det_move rfl) rfl ?_
              refine OpsW.guard_yes rfl rfl ?_
              refine OpsW.test (det_eql rfl rfl) rfl (fun hc71 => ?_) (fun hc71 => ?_)
              · skip
                refine OpsW.guard_yes rfl rfl ?_
                refine OpsW.det (det_move rfl) rfl ?_
                refine OpsW.guard_yes rfl rfl ?_
                refine OpsW.det (det_move rfl) rfl ?_
                refine OpsW.guard_yes rfl rfl ?_
                refine OpsW.det (det_indexAddr_sl u22 sz5 rfl rfl ⟨by decide, by omega⟩) rfl ?_
                refine OpsW.guard_yes rfl rfl ?_
                refine OpsW.det (det_loadC_ro ty5 rfl (List.mem_append_left _ hm0) (b0_at hpos hcell0)) rfl ?_
                refine OpsW.guard_yes rfl rfl ?_
                refine OpsW.det (det_and rfl rfl) rfl ?_
                refine OpsW.guard_yes rfl rfl ?_
                refine OpsW.test ((det_neq (b := 0) rfl rfl).to (v := .bool (zB (b0 l))) rfl) rfl (fun hc77 => ?_) (fun hc77 => ?_)
                · skip
                  refine OpsW.guard_yes rfl rfl ?_
                  refine OpsW.det (det_pick rfl rfl) rfl ?_
                  refine OpsW.det (det_pick rfl rfl) rfl ?_
                  refine sNext ?_
                  refine W.keep (F' := [(79, _), (57, _), (56, _), (0, _), (7, _)]) ⟨rfl, rfl, rfl, rfl, rfl, trivial⟩ ?_
                  refine W.cond_true rfl ?_
                  refine sSeq ?_
                  refine W.region ?_
                  refine OpsW.det (det_assign rfl) rfl ?_
                  refine OpsW.det (det_assign rfl) rfl ?_
                  refine sNext ?_
                  refine W.keep (F' := [(5, _), (4, _)]) ⟨rfl, rfl, trivial⟩ ?_
                  refine sRet ?_
                  refine retBlk ?_
                  refine retLoop ?_
                  refine retBlk ?_
                  exact done2 Tryd.results14 (rv_tmp rfl) (rv_tmp rfl) (mark_post (mark_dirty hlen hbad hc54 (dirty_0 hc77)))
                · skip
                  refine OpsW.guard_yes rfl rfl ?_
                  refine OpsW.det (det_pick rfl rfl) rfl ?_
                  refine OpsW.det (det_pick rfl rfl) rfl ?_
                  refine sNext ?_
                  refine W.keep (F' := [(79, _), (57, _), (56, _), (0, _), (7, _)]) ⟨rfl, rfl, rfl, rfl, rfl, trivial⟩ ?_
                  refine W.cond_false rfl ?_
                  refine sSkip0 ?_
                  refine bNext ?_
                  refine W.keep (F' := [(57, _), (56, _), (0, _), (7, _)]) ⟨rfl, rfl, rfl, rfl, trivial⟩ ?_
                  refine W.region ?_
                  refine OpsW.det (det_addN (b := 1) rfl rfl (by omega)) rfl ?_
                  refine OpsW.det (det_move rfl) rfl ?_
                  refine sLast ?_
                  exact rEnd (i + 1) ⟨hlt, clean_step hlt hI (by have h := of_decide_eq_true hc61; omega) (by have h := hc67; simp at h; omega)⟩ ⟨rfl, rfl, rfl, rfl, trivial⟩ (List.nil_sublist _) (step_lt hlt)
              · skip
                refine OpsW.guard_yes rfl rfl ?_
                refine OpsW.det (det_move rfl) rfl ?_
                refine OpsW.guard_no rfl rfl rfl ?_
                refine OpsW.guard_no rfl rfl rfl ?_
                refine OpsW.guard_no rfl rfl rfl ?_
                refine OpsW.guard_no rfl rfl rfl ?_
                refine OpsW.guard_no rfl rfl rfl ?_
                refine OpsW.guard_yes rfl rfl ?_
                refine OpsW.det (det_pick rfl rfl) rfl ?_
                refine OpsW.det (det_pick rfl rfl) rfl ?_
                refine sNext ?_
                refine W.keep (F' := [(79, _), (57, _), (56, _), (0, _), (7, _)]) ⟨rfl, rfl, rfl, rfl, rfl, trivial⟩ ?_
                refine W.cond_false rfl ?_
                refine sSkip0 ?_
                refine bNext ?_
                refine W.keep (F' := [(57, _), (56, _), (0, _), (7, _)]) ⟨rfl, rfl, rfl, rfl, trivial⟩ ?_
                refine W.region ?_
                refine OpsW.det (det_addN (b := 1) rfl rfl (by omega)) rfl ?_
                refine OpsW.det (det_move rfl) rfl ?_
                refine sLast ?_
                exact rEnd (i + 1) ⟨hlt, clean_step hlt hI (by have h := of_decide_eq_true hc61; omega) (by have h := hc67; simp at h; omega)⟩ ⟨rfl, rfl, rfl, rfl, trivial⟩ (List.nil_sublist _) (step_lt hlt)
          · skip
            refine OpsW.det (det_move rfl) rfl ?_
            refine OpsW.guard_no rfl rfl rfl ?_
            refine OpsW.guard_no rfl rfl rfl ?_
            refine OpsW.guard_no rfl rfl rfl ?_
            refine OpsW.guard_no rfl rfl rfl ?_
            refine OpsW.guard_no rfl rfl rfl ?_
            refine OpsW.det (det_pick rfl rfl) rfl ?_
            refine OpsW.det (det_move rfl) rfl ?_
            refine OpsW.guard_yes rfl rfl ?_
            refine OpsW.det (det_move rfl) rfl ?_
            refine OpsW.guard_yes rfl rfl ?_
            refine OpsW.test (det_eql rfl rfl) rfl (fun hc71 => ?_) (fun hc71 => ?_)
            · skip
              refine OpsW.guard_yes rfl rfl ?_
              refine OpsW.det (det_move rfl) rfl ?_
              refine OpsW.guard_yes rfl rfl ?_
              refine OpsW.det (det_move rfl) rfl ?_
              refine OpsW.guard_yes rfl rfl ?_
              refine OpsW.det (det_indexAddr_sl u22 sz5 rfl rfl ⟨by decide, by omega⟩) rfl ?_
              refine OpsW.guard_yes rfl rfl ?_
              refine OpsW.det (det_loadC_ro ty5 rfl (List.mem_append_left _ hm0) (b0_at hpos hcell0)) rfl ?_
              refine OpsW.guard_yes rfl rfl ?_
              refine OpsW.det (det_and rfl rfl) rfl ?_
              refine OpsW.guard_yes rfl rfl ?_
              refine OpsW.test ((det_neq (b := 0) rfl rfl).to (v := .bool (zB (b0 l))) rfl) rfl (fun hc77 => ?_) (fun hc77 => ?_)
              · skip
                refine OpsW.guard_yes rfl rfl ?_
                refine OpsW.det (det_pick rfl rfl) rfl ?_
                refine OpsW.det (det_pick rfl rfl) rfl ?_
                refine sNext ?_
                refine W.keep (F' := [(79, _), (57, _), (56, _), (0, _), (7, _)]) ⟨rfl, rfl, rfl, rfl, rfl, trivial⟩ ?_
                refine W.cond_true rfl ?_
                refine sSeq ?_
                refine W.region ?_
                refine OpsW.det (det_assign rfl) rfl ?_
                refine OpsW.det (det_assign rfl) rfl ?_
                refine sNext ?_
                refine W.keep (F' := [(5, _), (4, _)]) ⟨rfl, rfl, trivial⟩ ?_
                refine sRet ?_
                refine retBlk ?_
                refine retLoop ?_
                refine retBlk ?_
                exact done2 Tryd.results14 (rv_tmp rfl) (rv_tmp rfl) (mark_post (mark_dirty hlen hbad hc54 (dirty_0 hc77)))
              · skip
                refine OpsW.guard_yes rfl rfl ?_
                refine OpsW.det (det_pick rfl rfl) rfl ?_
                refine OpsW.det (det_pick rfl rfl) rfl ?_
                refine sNext ?_
                refine W.keep (F' := [(79, _), (57, _), (56, _), (0, _), (7, _)]) ⟨rfl, rfl, rfl, rfl, rfl, trivial⟩ ?_
                refine W.cond_false rfl ?_
                refine sSkip0 ?_
                refine bNext ?_
                refine W.keep (F' := [(57, _), (56, _), (0, _), (7, _)]) ⟨rfl, rfl, rfl, rfl, trivial⟩ ?_
                refine W.region ?_
                refine OpsW.det (det_addN (b := 1) rfl rfl (by omega)) rfl ?_
                refine OpsW.det (det_move rfl) rfl ?_
                refine sLast ?_
                exact rEnd (i + 1) ⟨hlt, clean_first (by have h := of_decide_eq_false hc61; omega) hc77⟩ ⟨rfl, rfl, rfl, rfl, trivial⟩ (List.nil_sublist _) (step_lt hlt)
            · skip
              refine OpsW.guard_yes rfl rfl ?_
              refine OpsW.det (det_move rfl) rfl ?_
              refine OpsW.guard_no rfl rfl rfl ?_
              refine OpsW.guard_no rfl rfl rfl ?_
              refine OpsW.guard_no rfl rfl rfl ?_
              refine OpsW.guard_no rfl rfl rfl ?_
              refine OpsW.guard_no rfl rfl rfl ?_
              refine OpsW.guard_yes rfl rfl ?_
              refine OpsW.det (det_pick rfl rfl) rfl ?_
              refine OpsW.det (det_pick rfl rfl) rfl ?_
              refine sNext ?_
              refine W.keep (F' := [(79, _), (57, _), (56, _), (0, _), (7, _)]) ⟨rfl, rfl, rfl, rfl, rfl, trivial⟩ ?_
              refine W.cond_false rfl ?_
              refine sSkip0 ?_
              refine bNext ?_
              refine W.keep (F' := [(57, _), (56, _), (0, _), (7, _)]) ⟨rfl, rfl, rfl, rfl, trivial⟩ ?_
              refine W.region ?_
              refine OpsW.det (det_addN (b := 1) rfl rfl (by omega)) rfl ?_
              refine OpsW.det (det_move rfl) rfl ?_
              refine sLast ?_
              exact absurd (by have h := of_decide_eq_false hc61; omega : i = 0) (fun h2 => by have h := hc71; rw [h2] at h; simp at h)
        · skip
          have hi4 : i = l.length := by have h := hc58; simp only [decide_eq_false_iff_not] at h; omega
          subst hi4
          refine sExit ?_
          refine xLoop ?_
          refine xHere ?_
          refine W.keep (F' := [(7, _)]) ⟨rfl, trivial⟩ ?_
          refine sSeq ?_
          refine W.region ?_
          refine OpsW.det (det_move rfl) rfl ?_
          refine OpsW.det (det_assign rfl) rfl ?_
          refine OpsW.det (det_assign rfl) rfl ?_
          refine sNext ?_
          refine W.keep (F' := [(5, _), (4, _)]) ⟨rfl, rfl, trivial⟩ ?_
          refine sRet ?_
          exact done2 Tryd.results14 (rv_tmp rfl) (rv_tmp rfl) (mark_post (by rw [mark_ok hlen hbad (by rw [clean_all hI]; simp), hc54]))
      · skip
        refine sSkip ?_
        refine sSeq ?_
        refine W.region ?_
        refine OpsW.det (det_move rfl) rfl ?_
        refine OpsW.det (det_assign rfl) rfl ?_
        refine OpsW.det (det_assign rfl) rfl ?_
        refine sNext ?_
        refine W.keep (F' := [(5, _), (4, _)]) ⟨rfl, rfl, trivial⟩ ?_
        refine sRet ?_
        exact done2 Tryd.results14 (rv_tmp rfl) (rv_tmp rfl) (mark_post (by rw [mark_ok hlen hbad (by rw [hc54]; simp), hc54]))

end Go.Cu
