/-
  Part 8 of the joined texts of the curves' laws: The second group: so many times: the walk. Conditions: as many bytes as memory has.
  Conditions: those that each theorem states.
-/
import Derived.Test.YtbchpfmfiokbgaaDoorQ7
import Derived.Test.YtbchpfmfiokbgaaDoorQ6
/- The second group: so many times: the walk. Conditions: as many bytes as memory has. -/
namespace Go.Cw
open Go Go.Vm Go.RowKit Go.Proofs Go.Cu
attribute [local irreducible] W OpsW Det Fresh New Writes Vm.Pure Makes Changes ExternTo BuildTo ZeroTo FieldTo IndexTo BinTo SliceTo Vm.Enters
set_option linter.unusedVariables false
set_option linter.unusedSimpArgs false
variable {T : Nat → TypeId × Nat × Nat}

def stp (p : Pt) (d : Int) (j : Jac) : Jac := if d = 1 then jadd j p else if d = -1 then jadd j (pneg p) else j
/-- The ladder, m digits down from the highest. -/
def jl (l : List Nat) (p : Pt) : Nat → Jac
  | 0 => (0, 0, 0)
  | m + 1 => stp p (dg l (8 * l.length - m)) (jdbl (jl l p m))
def times (l : List Nat) (p : Pt) : Pt := point (jl l p (8 * l.length + 1))
theorem jl_step {l : List Nat} {p : Pt} {k : Nat} (h : k + 1 ≤ 8 * l.length + 1) : jl l p (8 * l.length + 1 - k) = stp p (dg l k) (jdbl (jl l p (8 * l.length + 1 - (k + 1)))) := by
  obtain ⟨m, hm⟩ : ∃ m, 8 * l.length + 1 - (k + 1) = m := ⟨_, rfl⟩
  rw [show 8 * l.length + 1 - k = m + 1 by omega, hm, jl, show 8 * l.length - m = k by omega]
theorem jl_one {l : List Nat} {p : Pt} {k : Nat} (h : k + 1 ≤ 8 * l.length + 1) (hd : (dg l k == 1) = true) : jl l p (8 * l.length + 1 - k) = jadd (jdbl (jl l p (8 * l.length + 1 - (k + 1)))) p := by
  rw [jl_step h, stp, if_pos (by simpa using hd)]
theorem jl_neg {l : List Nat} {p : Pt} {k : Nat} (h : k + 1 ≤ 8 * l.length + 1) (h1 : (dg l k == 1) = false) (hd : (dg l k == -1) = true) : jl l p (8 * l.length + 1 - k) = jadd (jdbl (jl l p (8 * l.length + 1 - (k + 1)))) (pneg p) := by
  rw [jl_step h, stp, if_neg (by simpa using h1), if_pos (by simpa using hd)]
theorem jl_nil {l : List Nat} {p : Pt} {k : Nat} (h : k + 1 ≤ 8 * l.length + 1) (h1 : (dg l k == 1) = false) (hd : (dg l k == -1) = false) : jl l p (8 * l.length + 1 - k) = jdbl (jl l p (8 * l.length + 1 - (k + 1))) := by
  rw [jl_step h, stp, if_neg (by simpa using h1), if_neg (by simpa using hd)]

theorem en41 : Vm.Enters Tryd.prog 41 := Vm.Enters.of fun _ _ => by kernel_rfl
theorem en87 : Vm.Enters Tryd.prog 87 := Vm.Enters.of fun _ _ => by kernel_rfl
set_option maxHeartbeats 1000000 in
theorem Times_ok {G' : Hp} {v : Value} {l : List Nat} {p : Pt} (hB : Bs G' v l) (hl : l.length ≤ 1000000000000) {w : World} (hG : Blocks (G' ++ GH T) w)  : Vm.Pure Tryd.prog 45 #[encP p, v] w (encP (times l p)) := by
  obtain ⟨ad, cap, hvv⟩ := hB.shape
  refine pure_of_W (n := 77) (args := [encP p, v]) Tryd.func45 rfl Tryd.ntmps45 (Nat.le_of_ble_eq_true rfl) hG ?_
  refine sStart ?_
  refine sSeq ?_
  subst hvv
  refine W.region ?_
  refine OpsW.fresh (fr_boxW59 rfl) rfl fun b2 => ?_
  refine OpsW.fresh (fr_box rfl rfl) rfl fun b3 => ?_
  refine OpsW.fresh (fr_alloc z59r) rfl fun b4 => ?_
  refine sNext ?_
  refine W.keep (F' := [(4, _), (3, _), (2, _)]) ⟨rfl, rfl, rfl, trivial⟩ ?_
  refine sSeq ?_
  refine W.region ?_
  refine OpsW.det (det_loadC tyc22 rfl (List.Mem.tail _ (List.Mem.head _)) rfl) rfl ?_
  refine OpsW.det (det_len u22 rfl) rfl ?_
  refine OpsW.det ((det_mul rfl rfl).to (v := .int .i64 ((8 * l.length : Nat) : Int)) (by rw [wrap_i64 (by omega)]; congr 1)) rfl ?_
  refine OpsW.det (det_addN (b := 1) rfl rfl (by omega)) rfl ?_
  refine OpsW.fresh (fr_makeSlice (l := 0) ty81 rfl rfl (Nat.zero_le _) (by omega) (by omega)) rfl fun b17 => ?_
  refine OpsW.det (det_assign rfl) rfl ?_
  refine sNext ?_
  refine W.keep (F' := [(5, _), (4, _), (3, _), (2, _)]) ⟨rfl, rfl, rfl, rfl, trivial⟩ ?_
  refine sSeq ?_
  refine W.region ?_
  refine OpsW.det (det_func1 rfl) rfl ?_
  refine OpsW.det (det_assign rfl) rfl ?_
  refine sNext ?_
  refine W.keep (F' := [(6, _), (5, _), (4, _), (3, _), (2, _)]) ⟨rfl, rfl, rfl, rfl, rfl, trivial⟩ ?_
  refine sSeq ?_
  refine W.region ?_
  refine OpsW.det (det_assign rfl) rfl ?_
  refine sNext ?_
  refine sSeq ?_
  refine sSeq ?_
  refine W.region ?_
  refine OpsW.det (det_loadC tyc22 rfl (List.Mem.tail _ (List.Mem.tail _ (List.Mem.head _))) rfl) rfl ?_
  refine OpsW.det (det_len u22 rfl) rfl ?_
  refine OpsW.det ((det_mul rfl rfl).to (v := .int .i64 ((8 * l.length : Nat) : Int)) (by rw [wrap_i64 (by omega)]; congr 1)) rfl ?_
  refine OpsW.det (det_addN (b := 1) rfl rfl (by omega)) rfl ?_
  refine OpsW.det (det_move rfl) rfl ?_
  refine sNext ?_
  refine W.keep (F' := [(23, _), (22, _), (7, _), (6, _), (5, _), (4, _), (2, _)]) ⟨rfl, rfl, rfl, rfl, rfl, rfl, rfl, trivial⟩ ?_
  refine sBlock ?_
  refine sLoop (σ := Nat × Value × Hp) (fun s => [(23, .int .i64 (s.1 : Nat)), (22, .int .i64 ((8 * l.length + 1 : Nat) : Int)), (7, .int .i64 (ov l s.1 : Nat)), (6, .func (.func 87) #[] #[.pointer (some ⟨b3, 0, none⟩)]), (5, s.2.1), (4, .pointer (some ⟨b4, 0, none⟩)), (2, .pointer (some ⟨b2, 0, none⟩))]) (fun s => s.2.2 ++ [(b4, blk (cellsP (0, 0)) 59), (b3, blk [.slice ad l.length cap] 22), (b2, blk (cellsP p) 59)]) (fun s => s.1 ≤ 8 * l.length + 1 ∧ IsSl 3 1 s.2.1 s.1 s.2.2 (digs l s.1)) (fun s => 8 * l.length + 1 - s.1) (0, .slice (some ⟨b17, 0, none⟩) 0 (8 * l.length + 1), [(b17, blk ([] ++ zrep [.int .i64 0] (8 * l.length + 1)) 3)]) ⟨Nat.zero_le _, .at_ rfl (by simp [zrep_length]) (by show 8 * l.length + 1 ≤ 9223372036854775807; omega)⟩ ⟨rfl, rfl, rfl, rfl, rfl, rfl, rfl, trivial⟩ (List.Sublist.refl _) ?_
  rintro ⟨i, vd, hp⟩ ⟨hi, hsl⟩
  change IsSl 3 1 vd i hp (digs l i) at hsl
  change i ≤ 8 * l.length + 1 at hi
  refine W.norm (F' := [(23, .int .i64 (i : Nat)), (22, .int .i64 ((8 * l.length + 1 : Nat) : Int)), (7, .int .i64 (ov l i : Nat)), (6, .func (.func 87) #[] #[.pointer (some ⟨b3, 0, none⟩)]), (5, vd), (4, .pointer (some ⟨b4, 0, none⟩)), (2, .pointer (some ⟨b2, 0, none⟩))]) (H' := hp ++ [(b4, blk (cellsP (0, 0)) 59), (b3, blk [.slice ad l.length cap] 22), (b2, blk (cellsP p) 59)]) rfl rfl ?_
  refine sSeq ?_
  refine W.region ?_
  refine OpsW.det (det_lss rfl rfl) rfl ?_
  refine sNext ?_
  refine sSeq ?_
  refine W.cond rfl (fun hc24 => ?_) (fun hc24 => ?_)
  · skip
    have hlt : i < 8 * l.length + 1 := by have h := hc24; simp only [decide_eq_true_eq] at h; omega
    refine sSkip ?_
    refine sSeq ?_
    refine sBlock ?_
    refine sSeq ?_
    refine W.region ?_
    refine OpsW.det (det_move rfl) rfl ?_
    refine OpsW.det (det_assign rfl) rfl ?_
    refine sNext ?_
    refine W.keep (F' := [(8, _), (23, _), (22, _), (7, _), (6, _), (5, _), (4, _), (2, _)]) ⟨rfl, rfl, rfl, rfl, rfl, rfl, rfl, rfl, trivial⟩ ?_
    refine sSeq ?_
    refine W.region ?_
    refine OpsW.det (det_move rfl) rfl ?_
    refine OpsW.det (det_move rfl) rfl ?_
    refine OpsW.det (det_callv en87 (caps := [.pointer (some ⟨b3, 0, none⟩)]) rfl rfl (fun w hb ho => bit_ok (G' := G') (bv := b3) (i := i) hB hl (by omega) (blocks_cons (hb _ (List.mem_append_right _ (List.Mem.tail _ (List.Mem.head _)))) ho.blocks))) rfl ?_
    refine OpsW.det (det_move rfl) rfl ?_
    refine OpsW.det (det_addN rfl rfl (by have := bitB_le l i; have := ov_le l i; omega)) rfl ?_
    refine OpsW.det (det_assign rfl) rfl ?_
    refine sNext ?_
    refine W.keep (F' := [(9, _), (8, _), (23, _), (22, _), (6, _), (5, _), (4, _), (2, _)]) ⟨rfl, rfl, rfl, rfl, rfl, rfl, rfl, rfl, trivial⟩ ?_
    refine sSeq ?_
    refine W.region ?_
    refine OpsW.det (det_move rfl) rfl ?_
    refine OpsW.det (det_half rfl rfl) rfl ?_
    refine OpsW.det (det_assign rfl) rfl ?_
    refine sNext ?_
    refine W.keep (F' := [(7, _), (9, _), (8, _), (23, _), (22, _), (6, _), (5, _), (4, _), (2, _)]) ⟨rfl, rfl, rfl, rfl, rfl, rfl, rfl, rfl, rfl, trivial⟩ ?_
    refine sSeq ?_
    refine sSeq ?_
    refine W.region ?_
    refine OpsW.det (det_move rfl) rfl ?_
    refine OpsW.test (det_eql rfl rfl) rfl (fun hc34 => ?_) (fun hc34 => ?_)
    · skip
      refine OpsW.det (det_move rfl) rfl ?_
      refine OpsW.guard_yes rfl rfl ?_
      refine OpsW.det (det_move rfl) rfl ?_
      refine OpsW.guard_yes rfl rfl ?_
      refine OpsW.det (det_move rfl) rfl ?_
      refine OpsW.guard_yes rfl rfl ?_
      refine OpsW.det (det_addN (b := 1) rfl rfl (by omega)) rfl ?_
      refine OpsW.guard_yes rfl rfl ?_
      refine OpsW.det (det_callv en87 (caps := [.pointer (some ⟨b3, 0, none⟩)]) rfl rfl (fun w hb ho => bit_ok (G' := G') (bv := b3) (i := (i + 1)) hB hl (by omega) (blocks_cons (hb _ (List.mem_append_right _ (List.Mem.tail _ (List.Mem.head _)))) ho.blocks))) rfl ?_
      refine OpsW.guard_yes rfl rfl ?_
      refine OpsW.det (det_eql rfl rfl) rfl ?_
      refine OpsW.det (det_pick rfl rfl) rfl ?_
      refine sNext ?_
      refine W.keep (F' := [(41, _), (7, _), (9, _), (23, _), (22, _), (6, _), (5, _), (4, _), (2, _)]) ⟨rfl, rfl, rfl, rfl, rfl, rfl, rfl, rfl, rfl, trivial⟩ ?_
      refine W.cond rfl (fun hc41 => ?_) (fun hc41 => ?_)
      · skip
        refine W.region ?_
        refine OpsW.det (det_assign rfl) rfl ?_
        refine OpsW.det (det_assign rfl) rfl ?_
        refine sNext ?_
        refine W.keep (F' := [(7, _), (9, _), (23, _), (22, _), (6, _), (5, _), (4, _), (2, _)]) ⟨rfl, rfl, rfl, rfl, rfl, rfl, rfl, rfl, trivial⟩ ?_
        refine W.region ?_
        refine OpsW.det (det_move rfl) rfl ?_
        refine OpsW.det (det_move rfl) rfl ?_
        refine OpsW.det (det_and rfl rfl) rfl ?_
        refine OpsW.det (det_move rfl) rfl ?_
        refine OpsW.det ((det_mul rfl rfl).to (v := .int .i64 (dg l i)) (dig_m hc34 hc41)) rfl ?_
        refine OpsW.fresh (fr_buildSlice rfl slice81) rfl fun b47 => ?_
        refine OpsW.perm (H' := hp ++ ((b47, blk [.int .i64 (dg l i)] 3) :: [(b4, blk (cellsP (0, 0)) 59), (b3, blk [.slice ad l.length cap] 22), (b2, blk (cellsP p) 59)])) List.perm_middle ?_
        refine OpsW.append (dd := 48) ty81 rfl hsl rfl (.inl (List.mem_append_right _ (List.Mem.head _))) rfl (fun j u h => by simpa using h) rfl (by show i + 1 ≤ 9223372036854775807; omega) (by show (i + 1) * 8 ≤ 140737488355328; omega) rfl fun v' hp' hsl' => ?_
        refine OpsW.det (det_assign rfl) rfl ?_
        refine sLast ?_
        refine bNext ?_
        refine W.keep (F' := [(5, _), (7, _), (23, _), (22, _), (6, _), (4, _), (2, _)]) ⟨rfl, rfl, rfl, rfl, rfl, rfl, rfl, trivial⟩ ?_
        refine W.region ?_
        refine OpsW.det (det_addN (b := 1) rfl rfl (by omega)) rfl ?_
        refine OpsW.det (det_move rfl) rfl ?_
        refine sLast ?_
        have ho := ov_m hc34 hc41
        exact rEnd (i + 1, v', hp') ⟨hlt, by rw [digs_succ]; exact hsl'⟩ ⟨rfl, rfl, by rw [← ho]; rfl, rfl, rfl, rfl, rfl, trivial⟩ (List.Sublist.append_left (List.Sublist.cons _ (List.Sublist.refl _)) _) (step_lt hlt)
      · skip
        refine sSkip ?_
        refine W.region ?_
        refine OpsW.det (det_move rfl) rfl ?_
        refine OpsW.det (det_move rfl) rfl ?_
        refine OpsW.det (det_and rfl rfl) rfl ?_
        refine OpsW.det (det_move rfl) rfl ?_
        refine OpsW.det ((det_mul rfl rfl).to (v := .int .i64 (dg l i)) (dig_1 hc34 hc41)) rfl ?_
        refine OpsW.fresh (fr_buildSlice rfl slice81) rfl fun b47 => ?_
        refine OpsW.perm (H' := hp ++ ((b47, blk [.int .i64 (dg l i)] 3) :: [(b4, blk (cellsP (0, 0)) 59), (b3, blk [.slice ad l.length cap] 22), (b2, blk (cellsP p) 59)])) List.perm_middle ?_
        refine OpsW.append (dd := 48) ty81 rfl hsl rfl (.inl (List.mem_append_right _ (List.Mem.head _))) rfl (fun j u h => by simpa using h) rfl (by show i + 1 ≤ 9223372036854775807; omega) (by show (i + 1) * 8 ≤ 140737488355328; omega) rfl fun v' hp' hsl' => ?_
        refine OpsW.det (det_assign rfl) rfl ?_
        refine sLast ?_
        refine bNext ?_
        refine W.keep (F' := [(5, _), (7, _), (23, _), (22, _), (6, _), (4, _), (2, _)]) ⟨rfl, rfl, rfl, rfl, rfl, rfl, rfl, trivial⟩ ?_
        refine W.region ?_
        refine OpsW.det (det_addN (b := 1) rfl rfl (by omega)) rfl ?_
        refine OpsW.det (det_move rfl) rfl ?_
        refine sLast ?_
        have ho := ov_1 hc41
        exact rEnd (i + 1, v', hp') ⟨hlt, by rw [digs_succ]; exact hsl'⟩ ⟨rfl, rfl, by rw [← ho]; rfl, rfl, rfl, rfl, rfl, trivial⟩ (List.Sublist.append_left (List.Sublist.cons _ (List.Sublist.refl _)) _) (step_lt hlt)
    · skip
      refine OpsW.det (det_move rfl) rfl ?_
      refine OpsW.guard_no rfl rfl rfl ?_
      refine OpsW.guard_no rfl rfl rfl ?_
      refine OpsW.guard_no rfl rfl rfl ?_
      refine OpsW.guard_no rfl rfl rfl ?_
      refine OpsW.guard_no rfl rfl rfl ?_
      refine OpsW.det (det_pick rfl rfl) rfl ?_
      refine sNext ?_
      refine W.keep (F' := [(41, _), (7, _), (9, _), (23, _), (22, _), (6, _), (5, _), (4, _), (2, _)]) ⟨rfl, rfl, rfl, rfl, rfl, rfl, rfl, rfl, rfl, trivial⟩ ?_
      refine W.cond_false rfl ?_
      refine sSkip ?_
      refine W.region ?_
      refine OpsW.det (det_move rfl) rfl ?_
      refine OpsW.det (det_move rfl) rfl ?_
      refine OpsW.det (det_and rfl rfl) rfl ?_
      refine OpsW.det (det_move rfl) rfl ?_
      refine OpsW.det ((det_mul rfl rfl).to (v := .int .i64 (dg l i)) (dig_n hc34)) rfl ?_
      refine OpsW.fresh (fr_buildSlice rfl slice81) rfl fun b47 => ?_
      refine OpsW.perm (H' := hp ++ ((b47, blk [.int .i64 (dg l i)] 3) :: [(b4, blk (cellsP (0, 0)) 59), (b3, blk [.slice ad l.length cap] 22), (b2, blk (cellsP p) 59)])) List.perm_middle ?_
      refine OpsW.append (dd := 48) ty81 rfl hsl rfl (.inl (List.mem_append_right _ (List.Mem.head _))) rfl (fun j u h => by simpa using h) rfl (by show i + 1 ≤ 9223372036854775807; omega) (by show (i + 1) * 8 ≤ 140737488355328; omega) rfl fun v' hp' hsl' => ?_
      refine OpsW.det (det_assign rfl) rfl ?_
      refine sLast ?_
      refine bNext ?_
      refine W.keep (F' := [(5, _), (7, _), (23, _), (22, _), (6, _), (4, _), (2, _)]) ⟨rfl, rfl, rfl, rfl, rfl, rfl, rfl, trivial⟩ ?_
      refine W.region ?_
      refine OpsW.det (det_addN (b := 1) rfl rfl (by omega)) rfl ?_
      refine OpsW.det (det_move rfl) rfl ?_
      refine sLast ?_
      have ho := ov_n hc34
      exact rEnd (i + 1, v', hp') ⟨hlt, by rw [digs_succ]; exact hsl'⟩ ⟨rfl, rfl, by rw [← ho]; rfl, rfl, rfl, rfl, rfl, trivial⟩ (List.Sublist.append_left (List.Sublist.cons _ (List.Sublist.refl _)) _) (step_lt hlt)
  · skip
    have hiN : i = 8 * l.length + 1 := by have h := hc24; simp only [decide_eq_false_iff_not] at h; omega
    subst hiN
    obtain ⟨pd, rfl, rfl, hpp⟩ := isSl_at hsl (Nat.succ_pos _)
    refine W.norm (F' := _) (H' := [(_, _), (_, _), (_, _), (_, _)]) rfl rfl ?_
    refine sExit ?_
    refine xLoop ?_
    refine xHere ?_
    refine W.keep (F' := [(5, _), (4, _), (2, _)]) ⟨rfl, rfl, rfl, trivial⟩ ?_
    refine sSeq ?_
    refine W.region ?_
    refine OpsW.fresh (fr_alloc z94r) rfl fun b10 => ?_
    refine sNext ?_
    refine sSeq ?_
    refine W.region ?_
    refine OpsW.det (det_loadW59 rfl (List.Mem.tail _ (List.Mem.tail _ (List.Mem.tail _ (List.Mem.tail _ (List.Mem.head _)))))) rfl ?_
    refine OpsW.det (det_call en41 rfl (fun w hb ho => PNeg_ok (fun p hp => ho.look (List.mem_append_right _ hp)))) rfl ?_
    refine OpsW.fresh (fr_alloc z59r) rfl fun b11 => ?_
    refine OpsW.storeW59 rfl rfl (Upd.here) ?_
    refine sNext ?_
    refine W.keep (F' := [(11, _), (10, _), (5, _), (4, _), (2, _)]) ⟨rfl, rfl, rfl, rfl, rfl, trivial⟩ ?_
    refine sSeq ?_
    refine sSeq ?_
    refine W.region ?_
    refine OpsW.det (det_move rfl) rfl ?_
    refine OpsW.det (det_len u81 rfl) rfl ?_
    refine OpsW.det (det_subZ (c := ((8 * l.length + 1 : Nat) : Int) - 1) rfl rfl (by omega) (by omega)) rfl ?_
    refine OpsW.det (det_assign rfl) rfl ?_
    refine sNext ?_
    refine W.keep (F' := [(12, _), (11, _), (10, _), (5, _), (4, _), (2, _)]) ⟨rfl, rfl, rfl, rfl, rfl, rfl, trivial⟩ ?_
    refine sBlock ?_
    have hjl : jl l p (8 * l.length + 1 - (8 * l.length + 1)) = (0, 0, 0) := by rw [Nat.sub_self]; rfl
    refine sLoop (σ := Nat) (fun k => [(12, .int .i64 (((k : Nat) : Int) - 1)), (11, .pointer (some ⟨b11, 0, none⟩)), (10, .pointer (some ⟨b10, 0, none⟩)), (5, .slice (some ⟨pd.1, 0, none⟩) (8 * l.length + 1) pd.2.1), (4, .pointer (some ⟨b4, 0, none⟩)), (2, .pointer (some ⟨b2, 0, none⟩))]) (fun k => [(b11, blk (cellsP (pneg p)) 59), (b10, blk (cellsJ (jl l p (8 * l.length + 1 - k))) 94), (pd.1, blk (digs l (8 * l.length + 1) ++ pd.2.2) 3), (b4, blk (cellsP (0, 0)) 59), (b3, blk [.slice ad l.length cap] 22), (b2, blk (cellsP p) 59)]) (fun k => k ≤ 8 * l.length + 1) (fun k => k) (8 * l.length + 1) (Nat.le_refl _) ⟨rfl, rfl, rfl, rfl, rfl, rfl, trivial⟩ (by rw [hjl]; exact List.Sublist.refl _) ?_
    intro k hk
    refine sSeq ?_
    refine sSeq ?_
    refine W.region ?_
    refine OpsW.det (det_move rfl) rfl ?_
    refine OpsW.det (det_geq rfl rfl) rfl ?_
    refine sNext ?_
    refine W.keep (F' := [(56, _), (12, _), (11, _), (10, _), (5, _), (4, _), (2, _)]) ⟨rfl, rfl, rfl, rfl, rfl, rfl, rfl, trivial⟩ ?_
    refine W.cond rfl (fun hc56 => ?_) (fun hc56 => ?_)
    · skip
      obtain ⟨k, rfl⟩ : ∃ j, k = j + 1 := ⟨k - 1, by have h := hc56; simp only [decide_eq_true_eq] at h; omega⟩
      refine W.norm (F' := [(56, _), (12, .int .i64 (k : Nat)), (11, _), (10, _), (5, _), (4, _), (2, _)]) (H' := [(_, _), (_, _), (_, _), (_, _), (_, _), (_, _)]) (by rw [show (((k + 1 : Nat) : Int) - 1) = ((k : Nat) : Int) by omega]) rfl ?_
      refine sSkip ?_
      refine sSeq ?_
      refine sBlock ?_
      refine sSeq ?_
      refine W.region ?_
      refine OpsW.det (det_loadW94 rfl (List.Mem.tail _ (List.Mem.head _))) rfl ?_
      refine OpsW.det (det_call en88 rfl (fun w hb ho => jdbl_ok (fun p hp => ho.look (List.mem_append_right _ hp)))) rfl ?_
      refine OpsW.storeW94 rfl rfl (Upd.there (Upd.here)) ?_
      refine sNext ?_
      refine W.keep (F' := [(12, _), (11, _), (10, _), (5, _), (4, _), (2, _)]) ⟨rfl, rfl, rfl, rfl, rfl, rfl, trivial⟩ ?_
      refine sSeq ?_
      refine W.region ?_
      refine OpsW.det (det_move rfl) rfl ?_
      refine OpsW.det (det_move rfl) rfl ?_
      refine OpsW.det (det_indexAddr_sl u81 sz3 rfl rfl ⟨by omega, by omega⟩) rfl ?_
      refine OpsW.det (det_loadC ty3 rfl (List.Mem.tail _ (List.Mem.tail _ (List.Mem.head _))) (digs_at (i := k) (n := 8 * l.length + 1) (by omega) (by omega))) rfl ?_
      refine sNext ?_
      refine W.keep (F' := [(64, _), (12, _), (11, _), (10, _), (5, _), (4, _), (2, _)]) ⟨rfl, rfl, rfl, rfl, rfl, rfl, rfl, trivial⟩ ?_
      refine sBlock ?_
      refine sSeq ?_
      refine W.region ?_
      refine OpsW.det (det_eql rfl rfl) rfl ?_
      refine OpsW.det (det_assign rfl) rfl ?_
      refine sNext ?_
      refine W.keep (F' := [(65, _), (64, _), (12, _), (11, _), (10, _), (5, _), (4, _), (2, _)]) ⟨rfl, rfl, rfl, rfl, rfl, rfl, rfl, rfl, trivial⟩ ?_
      refine W.cond rfl (fun hc65 => ?_) (fun hc65 => ?_)
      · skip
        refine W.region ?_
        refine OpsW.det (det_loadW94 rfl (List.Mem.tail _ (List.Mem.head _))) rfl ?_
        refine OpsW.det (det_loadW59 rfl (List.Mem.tail _ (List.Mem.tail _ (List.Mem.tail _ (List.Mem.tail _ (List.Mem.tail _ (List.Mem.head _))))))) rfl ?_
        refine OpsW.det (det_call en77 rfl (fun w hb ho => jadd_ok (fun p hp => ho.look (List.mem_append_right _ hp)))) rfl ?_
        refine OpsW.storeW94 rfl rfl (Upd.there (Upd.here)) ?_
        refine sLast ?_
        refine bLast ?_
        refine bNext ?_
        refine W.keep (F' := [(12, _), (11, _), (10, _), (5, _), (4, _), (2, _)]) ⟨rfl, rfl, rfl, rfl, rfl, rfl, trivial⟩ ?_
        refine W.region ?_
        refine OpsW.det (det_move rfl) rfl ?_
        refine OpsW.det (det_subZ (c := ((k : Nat) : Int) - 1) rfl rfl (by omega) (by omega)) rfl ?_
        refine OpsW.det (det_assign rfl) rfl ?_
        refine sLast ?_
        exact rEnd k (Nat.le_of_succ_le hk) ⟨rfl, rfl, rfl, rfl, rfl, rfl, trivial⟩ (by rw [jl_one hk hc65]; exact List.Sublist.refl _) (Nat.lt_succ_self _)
      · skip
        refine sSeq ?_
        refine W.region ?_
        refine OpsW.det (det_eql rfl rfl) rfl ?_
        refine OpsW.det (det_assign rfl) rfl ?_
        refine sNext ?_
        refine W.keep (F' := [(70, _), (12, _), (11, _), (10, _), (5, _), (4, _), (2, _)]) ⟨rfl, rfl, rfl, rfl, rfl, rfl, rfl, trivial⟩ ?_
        refine W.cond rfl (fun hc70 => ?_) (fun hc70 => ?_)
        · skip
          refine W.region ?_
          refine OpsW.det (det_loadW94 rfl (List.Mem.tail _ (List.Mem.head _))) rfl ?_
          refine OpsW.det (det_loadW59 rfl (List.Mem.head _)) rfl ?_
          refine OpsW.det (det_call en77 rfl (fun w hb ho => jadd_ok (fun p hp => ho.look (List.mem_append_right _ hp)))) rfl ?_
          refine OpsW.storeW94 rfl rfl (Upd.there (Upd.here)) ?_
          refine sLast ?_
          refine bLast ?_
          refine bNext ?_
          refine W.keep (F' := [(12, _), (11, _), (10, _), (5, _), (4, _), (2, _)]) ⟨rfl, rfl, rfl, rfl, rfl, rfl, trivial⟩ ?_
          refine W.region ?_
          refine OpsW.det (det_move rfl) rfl ?_
          refine OpsW.det (det_subZ (c := ((k : Nat) : Int) - 1) rfl rfl (by omega) (by omega)) rfl ?_
          refine OpsW.det (det_assign rfl) rfl ?_
          refine sLast ?_
          exact rEnd k (Nat.le_of_succ_le hk) ⟨rfl, rfl, rfl, rfl, rfl, rfl, trivial⟩ (by rw [jl_neg hk hc65 hc70]; exact List.Sublist.refl _) (Nat.lt_succ_self _)
        · skip
          refine sSkip0 ?_
          refine bLast ?_
          refine bNext ?_
          refine W.keep (F' := [(12, _), (11, _), (10, _), (5, _), (4, _), (2, _)]) ⟨rfl, rfl, rfl, rfl, rfl, rfl, trivial⟩ ?_
          refine W.region ?_
          refine OpsW.det (det_move rfl) rfl ?_
          refine OpsW.det (det_subZ (c := ((k : Nat) : Int) - 1) rfl rfl (by omega) (by omega)) rfl ?_
          refine OpsW.det (det_assign rfl) rfl ?_
          refine sLast ?_
          exact rEnd k (Nat.le_of_succ_le hk) ⟨rfl, rfl, rfl, rfl, rfl, rfl, trivial⟩ (by rw [jl_nil hk hc65 hc70]; exact List.Sublist.refl _) (Nat.lt_succ_self _)
    · skip
      have hk0 : k = 0 := by have h := hc56; simp only [decide_eq_false_iff_not] at h; omega
      subst hk0
      refine sExit ?_
      refine xLoop ?_
      refine xHere ?_
      refine W.keep (F' := [(10, _), (4, _)]) ⟨rfl, rfl, trivial⟩ ?_
      refine sSeq ?_
      refine W.region ?_
      refine OpsW.det (det_loadW94 rfl (List.Mem.tail _ (List.Mem.head _))) rfl ?_
      refine OpsW.det (det_call en78 rfl (fun w hb ho => point_ok (fun p hp => ho.look (List.mem_append_right _ hp)))) rfl ?_
      refine OpsW.storeW59 rfl rfl (Upd.there (Upd.there (Upd.there (Upd.here)))) ?_
      refine sNext ?_
      refine W.keep (F' := [(4, _)]) ⟨rfl, trivial⟩ ?_
      refine sRet ?_
      exact done1 Tryd.results45 (rv_cellA ty59 rfl (List.Mem.tail _ (List.Mem.tail _ (List.Mem.tail _ (List.Mem.head _)))) rfl) rfl

end Go.Cw

/- The second group: products with scalars, sums of lists: the walks. Conditions: as many as memory has. -/
namespace Go.Cw
open Go Go.Vm Go.RowKit Go.Proofs Go.Cu
attribute [local irreducible] W OpsW Det Fresh New Writes Vm.Pure Makes Changes ExternTo BuildTo ZeroTo FieldTo IndexTo BinTo SliceTo Vm.Enters
set_option linter.unusedVariables false
set_option linter.unusedSimpArgs false
variable {T : Nat → TypeId × Nat × Nat}

/-- So many times. -/
def pmul (p : Pt) (x : Fs) : Pt := times (blist x) p
/-- v is a slice of the points l, which lie in a block of G'. -/
structure Pts (G' : Hp) (v : Value) (l : List Pt) : Prop where
  shape : ∃ ad cap, v = .slice ad l.length cap
  at_ : ∀ i (h : i < l.length), ∃ (b o cap : Nat) (cs : List Value) (e : TypeId) (fr : Nat × Nat), v = .slice (some ⟨b, o, none⟩) l.length cap ∧ (b, Obj.cells cs.toArray e fr) ∈ G' ∧ cut (o + i * 24) 24 cs = some (cellsP l[i])
def jsum (l : List Pt) : Jac := l.foldl (fun j p => jadd j p) (0, 0, 0)
def psum (l : List Pt) : Pt := point (jsum l)
theorem jsum_step {l : List Pt} {i : Nat} (h : i < l.length) : jsum (l.take (i + 1)) = jadd (jsum (l.take i)) l[i] := by
  unfold jsum
  rw [List.take_succ_eq_append_getElem h, List.foldl_append]
  rfl
theorem off_i {o i : Nat} : o + ((i : Nat) : Int).toNat * 24 = o + i * 24 := by simp
theorem pmul_def (p : Pt) (x : Fs) : encP (times (blist x) p) = encP (pmul p x) := rfl

theorem en45 : Vm.Enters Tryd.prog 45 := Vm.Enters.of fun _ _ => by kernel_rfl
theorem u64t : Tryd.prog.underlying 64 = some (.slice 59) := by kernel_rfl
theorem PMul_ok {p : Pt} {x : Fs} {w : World} (hG : Blocks (GH T) w)  : Vm.Pure Tryd.prog 37 #[encP p, encR x] w (encP (pmul p x)) := by
  refine pure_of_W (n := 11) (args := [encP p, encR x]) Tryd.func37 rfl Tryd.ntmps37 (Nat.le_of_ble_eq_true rfl) hG ?_
  refine sStart ?_
  refine sSeq ?_
  refine W.region ?_
  refine OpsW.fresh (fr_boxW59 rfl) rfl fun b2 => ?_
  refine OpsW.fresh (fr_boxW35 rfl) rfl fun b3 => ?_
  refine OpsW.fresh (fr_alloc z59r) rfl fun b4 => ?_
  refine sNext ?_
  refine W.keep (F' := [(4, _), (3, _), (2, _)]) ⟨rfl, rfl, rfl, trivial⟩ ?_
  refine sSeq ?_
  refine W.region ?_
  refine OpsW.det (det_loadW35 rfl (List.Mem.tail _ (List.Mem.head _))) rfl ?_
  refine OpsW.det (det_call en32 rfl (fun w hb ho => Cu.RBytes_ok ho.blocks)) rfl ?_
  refine OpsW.fresh (fr_alloc z52) rfl fun b5 => ?_
  refine OpsW.store sz52 rfl rfl rfl (rbytes_len x) (rbytes_one x) (Upd.here) (splice_52 x) ?_
  refine sNext ?_
  refine W.keep (F' := [(5, _), (4, _), (2, _)]) ⟨rfl, rfl, rfl, trivial⟩ ?_
  refine sSeq ?_
  refine W.draw mixed 3 [[], [], [0, 1], [0, 1, 2]] (cl_lt (by decide)) ?_
  refine HeadR.start (cl_lt (by decide)) ?_
  refine HeadR.det rfl (fun β hβ => (det_loadW59 rfl (List.Mem.tail _ (List.Mem.tail _ (List.Mem.tail _ (List.Mem.head _)))))) ?_
  refine HeadR.det rfl (fun β hβ => ((det_sliceArr (lo := none) (hi := none) (l := 0) (h := 32) u52 sz5 rfl rfl rfl (by decide) (by decide)).to (v := .slice (some ⟨b5, 0, none⟩) 32 32) rfl)) ?_
  refine HeadR.det rfl (fun β hβ => (det_call en45 rfl (fun w hb ho => Vm.Pure.same (Times_ok (G' := [(b5, blk (rbytes x) 52)]) (p := p) (blist_Bs x b5) (by rw [blist_len]; decide) (blocks_cons (hb _ (List.Mem.head _)) ho.blocks)) (pmul_def p x)))) ?_
  refine HeadR.done ⟨by kernel_rfl, fun β hβ => ?_⟩
  refine OpsW.norm (F' := [(8, _), (9, _), (10, _), (5, _), (4, _), (2, _)]) (H' := [(_, _), (_, _), (_, _), (_, _)]) rfl rfl ?_
  refine OpsW.storeW59 rfl rfl (Upd.there (Upd.here)) ?_
  refine sNext ?_
  refine W.keep (F' := [(4, _)]) ⟨rfl, trivial⟩ ?_
  refine sRet ?_
  exact done1 Tryd.results37 (rv_cellA ty59 rfl (List.Mem.tail _ (List.Mem.head _)) rfl) rfl
set_option maxRecDepth 100000 in
theorem PSum_ok {G' : Hp} {v : Value} {l : List Pt} (hB : Pts G' v l) (hl : l.length ≤ 1000000000000) {w : World} (hG : Blocks (G' ++ GH T) w)  : Vm.Pure Tryd.prog 40 #[v] w (encP (psum l)) := by
  obtain ⟨ad, cap, hvv⟩ := hB.shape
  refine pure_of_W (n := 18) (args := [v]) Tryd.func40 rfl Tryd.ntmps40 (Nat.le_of_ble_eq_true rfl) hG ?_
  refine sStart ?_
  refine sSeq ?_
  subst hvv
  refine W.region ?_
  refine OpsW.fresh (fr_alloc z59r) rfl fun b2 => ?_
  refine sNext ?_
  refine sSeq ?_
  refine W.region ?_
  refine OpsW.fresh (fr_alloc z94r) rfl fun b3 => ?_
  refine sNext ?_
  refine sSeq ?_
  refine sSeq ?_
  refine W.region ?_
  refine OpsW.det (det_move rfl) rfl ?_
  refine OpsW.det (det_len u64t rfl) rfl ?_
  refine OpsW.det (det_move rfl) rfl ?_
  refine sNext ?_
  refine W.keep (F' := [(8, _), (7, _), (6, _), (3, _), (2, _)]) ⟨rfl, rfl, rfl, rfl, rfl, trivial⟩ ?_
  refine sBlock ?_
  refine sLoop (σ := Nat) (fun i => [(8, .int .i64 (i : Nat)), (7, .int .i64 (l.length : Nat)), (6, .slice ad l.length cap), (3, .pointer (some ⟨b3, 0, none⟩)), (2, .pointer (some ⟨b2, 0, none⟩))]) (fun i => [(b3, blk (cellsJ (jsum (l.take i))) 94), (b2, blk (cellsP (0, 0)) 59)]) (fun i => i ≤ l.length) (fun i => l.length - i) 0 (Nat.zero_le _) ⟨rfl, rfl, rfl, rfl, rfl, trivial⟩ (List.Sublist.refl _) ?_
  intro i hi
  refine sSeq ?_
  refine W.region ?_
  refine OpsW.det (det_lss rfl rfl) rfl ?_
  refine sNext ?_
  refine sSeq ?_
  refine W.cond rfl (fun hc9 => ?_) (fun hc9 => ?_)
  · skip
    have hlt : i < l.length := by have h := hc9; simp only [decide_eq_true_eq] at h; omega
    obtain ⟨bk, o, cap', cs, e, fr, hv, hm, hcell⟩ := hB.at_ i hlt
    simp only [Value.slice.injEq] at hv
    obtain ⟨rfl, _, rfl⟩ := hv
    refine sSkip ?_
    refine sSeq ?_
    refine sBlock ?_
    refine sSeq ?_
    refine W.region ?_
    refine OpsW.det (det_indexAddr_sl u64t sz59 rfl rfl ⟨by omega, by omega⟩) rfl ?_
    refine OpsW.det (det_loadA_ro ty59 rfl (List.mem_append_left _ hm) (show cut (o + ((i : Nat) : Int).toNat * 24) 24 cs = some (cellsP l[i]) by rw [off_i]; exact hcell)) rfl ?_
    refine OpsW.fresh (fr_alloc z59r) rfl fun b5 => ?_
    refine OpsW.storeW59 rfl rfl (Upd.here) ?_
    refine sNext ?_
    refine W.keep (F' := [(5, _), (8, _), (7, _), (6, _), (3, _), (2, _)]) ⟨rfl, rfl, rfl, rfl, rfl, rfl, trivial⟩ ?_
    refine W.region ?_
    refine OpsW.det (det_loadW94 rfl (List.Mem.tail _ (List.Mem.head _))) rfl ?_
    refine OpsW.det (det_loadW59 rfl (List.Mem.head _)) rfl ?_
    refine OpsW.det (det_call en77 rfl (fun w hb ho => jadd_ok (fun p hp => ho.look (List.mem_append_right _ hp)))) rfl ?_
    refine OpsW.storeW94 rfl rfl (Upd.there (Upd.here)) ?_
    refine sLast ?_
    refine bNext ?_
    refine W.keep (F' := [(8, _), (7, _), (6, _), (3, _), (2, _)]) ⟨rfl, rfl, rfl, rfl, rfl, trivial⟩ ?_
    refine W.region ?_
    refine OpsW.det (det_addN (b := 1) rfl rfl (by omega)) rfl ?_
    refine OpsW.det (det_move rfl) rfl ?_
    refine sLast ?_
    exact rEnd (i + 1) hlt ⟨rfl, rfl, rfl, rfl, rfl, trivial⟩ (by rw [jsum_step hlt]; exact List.Sublist.cons _ (List.Sublist.refl _)) (step_lt hlt)
  · skip
    have hi4 : i = l.length := by have h := hc9; simp only [decide_eq_false_iff_not] at h; omega
    subst hi4
    refine sExit ?_
    refine xLoop ?_
    refine xHere ?_
    refine W.keep (F' := [(3, _), (2, _)]) ⟨rfl, rfl, trivial⟩ ?_
    refine sSeq ?_
    refine W.region ?_
    refine OpsW.det (det_loadW94 rfl (List.Mem.head _)) rfl ?_
    refine OpsW.det (det_call en78 rfl (fun w hb ho => point_ok (fun p hp => ho.look (List.mem_append_right _ hp)))) rfl ?_
    refine OpsW.storeW59 rfl rfl (Upd.there (Upd.here)) ?_
    refine sNext ?_
    refine W.keep (F' := [(2, _)]) ⟨rfl, trivial⟩ ?_
    refine sRet ?_
    exact done1 Tryd.results40 (rv_cellA ty59 rfl (List.Mem.tail _ (List.Mem.head _)) rfl) (congrArg (fun z => encP (psum z)) (List.take_length))

end Go.Cw

/- The second group: the generator, the turn, and which points are in the group: the walks. Conditions: none. -/
namespace Go.Cw
open Go Go.Vm Go.RowKit Go.Proofs Go.Cu
attribute [local irreducible] W OpsW Det Fresh New Writes Vm.Pure Makes Changes ExternTo BuildTo ZeroTo FieldTo IndexTo BinTo SliceTo Vm.Enters
set_option linter.unusedVariables false
set_option linter.unusedSimpArgs false
variable {T : Nat → TypeId × Nat × Nat}

def gX : List Nat := [19, 224, 43, 96, 82, 113, 159, 96, 125, 172, 211, 160, 136, 39, 79, 101, 89, 107, 208, 208, 153, 32, 182, 26, 181, 218, 97, 187, 220, 127, 80, 73, 51, 76, 241, 18, 19, 148, 93, 87, 229, 172, 125, 5, 93, 4, 43, 126, 2, 74, 162, 178, 240, 143, 10, 145, 38, 8, 5, 39, 45, 197, 16, 81, 198, 228, 122, 212, 250, 64, 59, 2, 180, 81, 11, 100, 122, 227, 209, 119, 11, 172, 3, 38, 168, 5, 187, 239, 212, 128, 86, 200, 193, 33, 189, 184]
def gY : List Nat := [6, 6, 196, 160, 46, 167, 52, 204, 50, 172, 210, 176, 43, 194, 139, 153, 203, 62, 40, 126, 133, 167, 99, 175, 38, 116, 146, 171, 87, 46, 153, 171, 63, 55, 13, 39, 92, 236, 29, 161, 170, 169, 7, 95, 240, 95, 121, 190, 12, 229, 213, 39, 114, 125, 110, 17, 140, 201, 205, 198, 218, 46, 53, 26, 173, 253, 155, 170, 140, 189, 211, 167, 109, 66, 154, 105, 81, 96, 209, 44, 146, 58, 201, 204, 59, 172, 162, 137, 225, 147, 84, 134, 8, 184, 40, 1]
def tX : List Nat := [26, 1, 17, 234, 57, 127, 230, 153, 236, 2, 64, 134, 99, 212, 222, 133, 170, 13, 133, 125, 137, 117, 154, 212, 137, 125, 41, 101, 15, 184, 95, 155, 64, 148, 39, 235, 79, 73, 255, 253, 139, 253, 0, 0, 0, 0, 170, 173, 0, 0, 0, 0, 0, 0, 0, 0, 0, 0, 0, 0, 0, 0, 0, 0, 0, 0, 0, 0, 0, 0, 0, 0, 0, 0, 0, 0, 0, 0, 0, 0, 0, 0, 0, 0, 0, 0, 0, 0, 0, 0, 0, 0, 0, 0, 0, 0]
def tY : List Nat := [6, 175, 14, 4, 55, 255, 64, 11, 104, 49, 227, 109, 107, 209, 127, 254, 72, 57, 93, 171, 194, 211, 67, 94, 119, 247, 110, 23, 0, 146, 65, 197, 238, 103, 153, 47, 114, 236, 5, 244, 200, 16, 132, 251, 237, 227, 204, 9, 19, 82, 3, 230, 1, 128, 166, 142, 226, 233, 196, 72, 215, 122, 44, 217, 28, 61, 237, 217, 48, 177, 207, 96, 239, 57, 100, 137, 246, 30, 180, 94, 48, 68, 102, 207, 62, 103, 250, 10, 241, 238, 123, 4, 18, 27, 222, 162]
def gen : Pt := ((read2 gX).1, (read2 gY).1)
def turnx : Fq2 := (read2 tX).1
def turny : Fq2 := (read2 tY).1
def turnP (p : Pt) : Pt := (conj2 p.1 * turnx, conj2 p.2 * turny)
def inB (p : Pt) : Bool := decide (turnP p = pneg (times sizeL p))
theorem gX_sl : SliceTo Tryd.prog 22 96 [(0, .int .u8 19), (1, .int .u8 224), (2, .int .u8 43), (3, .int .u8 96), (4, .int .u8 82), (5, .int .u8 113), (6, .int .u8 159), (7, .int .u8 96), (8, .int .u8 125), (9, .int .u8 172), (10, .int .u8 211), (11, .int .u8 160), (12, .int .u8 136), (13, .int .u8 39), (14, .int .u8 79), (15, .int .u8 101), (16, .int .u8 89), (17, .int .u8 107), (18, .int .u8 208), (19, .int .u8 208), (20, .int .u8 153), (21, .int .u8 32), (22, .int .u8 182), (23, .int .u8 26), (24, .int .u8 181), (25, .int .u8 218), (26, .int .u8 97), (27, .int .u8 187), (28, .int .u8 220), (29, .int .u8 127), (30, .int .u8 80), (31, .int .u8 73), (32, .int .u8 51), (33, .int .u8 76), (34, .int .u8 241), (35, .int .u8 18), (36, .int .u8 19), (37, .int .u8 148), (38, .int .u8 93), (39, .int .u8 87), (40, .int .u8 229), (41, .int .u8 172), (42, .int .u8 125), (43, .int .u8 5), (44, .int .u8 93), (45, .int .u8 4), (46, .int .u8 43), (47, .int .u8 126), (48, .int .u8 2), (49, .int .u8 74), (50, .int .u8 162), (51, .int .u8 178), (52, .int .u8 240), (53, .int .u8 143), (54, .int .u8 10), (55, .int .u8 145), (56, .int .u8 38), (57, .int .u8 8), (58, .int .u8 5), (59, .int .u8 39), (60, .int .u8 45), (61, .int .u8 197), (62, .int .u8 16), (63, .int .u8 81), (64, .int .u8 198), (65, .int .u8 228), (66, .int .u8 122), (67, .int .u8 212), (68, .int .u8 250), (69, .int .u8 64), (70, .int .u8 59), (71, .int .u8 2), (72, .int .u8 180), (73, .int .u8 81), (74, .int .u8 11), (75, .int .u8 100), (76, .int .u8 122), (77, .int .u8 227), (78, .int .u8 209), (79, .int .u8 119), (80, .int .u8 11), (81, .int .u8 172), (82, .int .u8 3), (83, .int .u8 38), (84, .int .u8 168), (85, .int .u8 5), (86, .int .u8 187), (87, .int .u8 239), (88, .int .u8 212), (89, .int .u8 128), (90, .int .u8 86), (91, .int .u8 200), (92, .int .u8 193), (93, .int .u8 33), (94, .int .u8 189), (95, .int .u8 184)] (bcells gX ++ []) 5 := SliceTo.of fun _ => by kernel_rfl
theorem gX_small : ∀ c ∈ gX, c < 256 := by decide
theorem gY_sl : SliceTo Tryd.prog 22 96 [(0, .int .u8 6), (1, .int .u8 6), (2, .int .u8 196), (3, .int .u8 160), (4, .int .u8 46), (5, .int .u8 167), (6, .int .u8 52), (7, .int .u8 204), (8, .int .u8 50), (9, .int .u8 172), (10, .int .u8 210), (11, .int .u8 176), (12, .int .u8 43), (13, .int .u8 194), (14, .int .u8 139), (15, .int .u8 153), (16, .int .u8 203), (17, .int .u8 62), (18, .int .u8 40), (19, .int .u8 126), (20, .int .u8 133), (21, .int .u8 167), (22, .int .u8 99), (23, .int .u8 175), (24, .int .u8 38), (25, .int .u8 116), (26, .int .u8 146), (27, .int .u8 171), (28, .int .u8 87), (29, .int .u8 46), (30, .int .u8 153), (31, .int .u8 171), (32, .int .u8 63), (33, .int .u8 55), (34, .int .u8 13), (35, .int .u8 39), (36, .int .u8 92), (37, .int .u8 236), (38, .int .u8 29), (39, .int .u8 161), (40, .int .u8 170), (41, .int .u8 169), (42, .int .u8 7), (43, .int .u8 95), (44, .int .u8 240), (45, .int .u8 95), (46, .int .u8 121), (47, .int .u8 190), (48, .int .u8 12), (49, .int .u8 229), (50, .int .u8 213), (51, .int .u8 39), (52, .int .u8 114), (53, .int .u8 125), (54, .int .u8 110), (55, .int .u8 17), (56, .int .u8 140), (57, .int .u8 201), (58, .int .u8 205), (59, .int .u8 198), (60, .int .u8 218), (61, .int .u8 46), (62, .int .u8 53), (63, .int .u8 26), (64, .int .u8 173), (65, .int .u8 253), (66, .int .u8 155), (67, .int .u8 170), (68, .int .u8 140), (69, .int .u8 189), (70, .int .u8 211), (71, .int .u8 167), (72, .int .u8 109), (73, .int .u8 66), (74, .int .u8 154), (75, .int .u8 105), (76, .int .u8 81), (77, .int .u8 96), (78, .int .u8 209), (79, .int .u8 44), (80, .int .u8 146), (81, .int .u8 58), (82, .int .u8 201), (83, .int .u8 204), (84, .int .u8 59), (85, .int .u8 172), (86, .int .u8 162), (87, .int .u8 137), (88, .int .u8 225), (89, .int .u8 147), (90, .int .u8 84), (91, .int .u8 134), (92, .int .u8 8), (93, .int .u8 184), (94, .int .u8 40), (95, .int .u8 1)] (bcells gY ++ []) 5 := SliceTo.of fun _ => by kernel_rfl
theorem gY_small : ∀ c ∈ gY, c < 256 := by decide
theorem tX_sl : SliceTo Tryd.prog 22 96 [(0, .int .u8 26), (1, .int .u8 1), (2, .int .u8 17), (3, .int .u8 234), (4, .int .u8 57), (5, .int .u8 127), (6, .int .u8 230), (7, .int .u8 153), (8, .int .u8 236), (9, .int .u8 2), (10, .int .u8 64), (11, .int .u8 134), (12, .int .u8 99), (13, .int .u8 212), (14, .int .u8 222), (15, .int .u8 133), (16, .int .u8 170), (17, .int .u8 13), (18, .int .u8 133), (19, .int .u8 125), (20, .int .u8 137), (21, .int .u8 117), (22, .int .u8 154), (23, .int .u8 212), (24, .int .u8 137), (25, .int .u8 125), (26, .int .u8 41), (27, .int .u8 101), (28, .int .u8 15), (29, .int .u8 184), (30, .int .u8 95), (31, .int .u8 155), (32, .int .u8 64), (33, .int .u8 148), (34, .int .u8 39), (35, .int .u8 235), (36, .int .u8 79), (37, .int .u8 73), (38, .int .u8 255), (39, .int .u8 253), (40, .int .u8 139), (41, .int .u8 253), (42, .int .u8 0), (43, .int .u8 0), (44, .int .u8 0), (45, .int .u8 0), (46, .int .u8 170), (47, .int .u8 173), (48, .int .u8 0), (49, .int .u8 0), (50, .int .u8 0), (51, .int .u8 0), (52, .int .u8 0), (53, .int .u8 0), (54, .int .u8 0), (55, .int .u8 0), (56, .int .u8 0), (57, .int .u8 0), (58, .int .u8 0), (59, .int .u8 0), (60, .int .u8 0), (61, .int .u8 0), (62, .int .u8 0), (63, .int .u8 0), (64, .int .u8 0), (65, .int .u8 0), (66, .int .u8 0), (67, .int .u8 0), (68, .int .u8 0), (69, .int .u8 0), (70, .int .u8 0), (71, .int .u8 0), (72, .int .u8 0), (73, .int .u8 0), (74, .int .u8 0), (75, .int .u8 0), (76, .int .u8 0), (77, .int .u8 0), (78, .int .u8 0), (79, .int .u8 0), (80, .int .u8 0), (81, .int .u8 0), (82, .int .u8 0), (83, .int .u8 0), (84, .int .u8 0), (85, .int .u8 0), (86, .int .u8 0), (87, .int .u8 0), (88, .int .u8 0), (89, .int .u8 0), (90, .int .u8 0), (91, .int .u8 0), (92, .int .u8 0), (93, .int .u8 0), (94, .int .u8 0), (95, .int .u8 0)] (bcells tX ++ []) 5 := SliceTo.of fun _ => by kernel_rfl
theorem tX_small : ∀ c ∈ tX, c < 256 := by decide
theorem tY_sl : SliceTo Tryd.prog 22 96 [(0, .int .u8 6), (1, .int .u8 175), (2, .int .u8 14), (3, .int .u8 4), (4, .int .u8 55), (5, .int .u8 255), (6, .int .u8 64), (7, .int .u8 11), (8, .int .u8 104), (9, .int .u8 49), (10, .int .u8 227), (11, .int .u8 109), (12, .int .u8 107), (13, .int .u8 209), (14, .int .u8 127), (15, .int .u8 254), (16, .int .u8 72), (17, .int .u8 57), (18, .int .u8 93), (19, .int .u8 171), (20, .int .u8 194), (21, .int .u8 211), (22, .int .u8 67), (23, .int .u8 94), (24, .int .u8 119), (25, .int .u8 247), (26, .int .u8 110), (27, .int .u8 23), (28, .int .u8 0), (29, .int .u8 146), (30, .int .u8 65), (31, .int .u8 197), (32, .int .u8 238), (33, .int .u8 103), (34, .int .u8 153), (35, .int .u8 47), (36, .int .u8 114), (37, .int .u8 236), (38, .int .u8 5), (39, .int .u8 244), (40, .int .u8 200), (41, .int .u8 16), (42, .int .u8 132), (43, .int .u8 251), (44, .int .u8 237), (45, .int .u8 227), (46, .int .u8 204), (47, .int .u8 9), (48, .int .u8 19), (49, .int .u8 82), (50, .int .u8 3), (51, .int .u8 230), (52, .int .u8 1), (53, .int .u8 128), (54, .int .u8 166), (55, .int .u8 142), (56, .int .u8 226), (57, .int .u8 233), (58, .int .u8 196), (59, .int .u8 72), (60, .int .u8 215), (61, .int .u8 122), (62, .int .u8 44), (63, .int .u8 217), (64, .int .u8 28), (65, .int .u8 61), (66, .int .u8 237), (67, .int .u8 217), (68, .int .u8 48), (69, .int .u8 177), (70, .int .u8 207), (71, .int .u8 96), (72, .int .u8 239), (73, .int .u8 57), (74, .int .u8 100), (75, .int .u8 137), (76, .int .u8 246), (77, .int .u8 30), (78, .int .u8 180), (79, .int .u8 94), (80, .int .u8 48), (81, .int .u8 68), (82, .int .u8 102), (83, .int .u8 207), (84, .int .u8 62), (85, .int .u8 103), (86, .int .u8 250), (87, .int .u8 10), (88, .int .u8 241), (89, .int .u8 238), (90, .int .u8 123), (91, .int .u8 4), (92, .int .u8 18), (93, .int .u8 27), (94, .int .u8 222), (95, .int .u8 162)] (bcells tY ++ []) 5 := SliceTo.of fun _ => by kernel_rfl
theorem tY_small : ∀ c ∈ tY, c < 256 := by decide

theorem en75 : Vm.Enters Tryd.prog 75 := Vm.Enters.of fun _ _ => by kernel_rfl
theorem en83 : Vm.Enters Tryd.prog 83 := Vm.Enters.of fun _ _ => by kernel_rfl
set_option maxRecDepth 100000 in
theorem Gen_ok  {w : World} (hG : Blocks (GH T) w)  : Vm.Pure Tryd.prog 36 #[] w (encP gen) := by
  refine pure_of_W (n := 18) (args := []) Tryd.func36 rfl Tryd.ntmps36 (Nat.le_of_ble_eq_true rfl) hG ?_
  refine sStart ?_
  refine sSeq ?_
  refine W.region ?_
  refine OpsW.fresh (fr_alloc z59r) rfl fun b0 => ?_
  refine sNext ?_
  refine sSeq ?_
  refine W.region ?_
  refine OpsW.fresh (fr_buildSlice rfl gX_sl) rfl fun b6 => ?_
  refine OpsW.det (det_call en75 rfl (fun w hb ho => Read_ok (G' := [(b6, blk (bcells gX ++ []) 5)]) (Bs.of gX_small (Nat.le_refl _)) (blocks_cons (hb _ (List.Mem.head _)) ho.blocks))) rfl ?_
  refine OpsW.det (det_move rfl) rfl ?_
  refine OpsW.det (det_extract rfl rfl) rfl ?_
  refine OpsW.det (det_extract rfl rfl) rfl ?_
  refine OpsW.fresh (fr_alloc z57r) rfl fun b1 => ?_
  refine OpsW.storeW57 rfl rfl (Upd.here) ?_
  refine OpsW.det (det_assign rfl) rfl ?_
  refine sNext ?_
  refine W.keep (F' := [(1, _), (0, _)]) ⟨rfl, rfl, trivial⟩ ?_
  refine sSeq ?_
  refine W.region ?_
  refine OpsW.fresh (fr_buildSlice rfl gY_sl) rfl fun b11 => ?_
  refine OpsW.det (det_call en75 rfl (fun w hb ho => Read_ok (G' := [(b11, blk (bcells gY ++ []) 5)]) (Bs.of gY_small (Nat.le_refl _)) (blocks_cons (hb _ (List.Mem.head _)) ho.blocks))) rfl ?_
  refine OpsW.det (det_move rfl) rfl ?_
  refine OpsW.det (det_extract rfl rfl) rfl ?_
  refine OpsW.det (det_extract rfl rfl) rfl ?_
  refine OpsW.fresh (fr_alloc z57r) rfl fun b3 => ?_
  refine OpsW.storeW57 rfl rfl (Upd.here) ?_
  refine OpsW.det (det_assign rfl) rfl ?_
  refine sNext ?_
  refine W.keep (F' := [(3, _), (1, _), (0, _)]) ⟨rfl, rfl, rfl, trivial⟩ ?_
  refine sSeq ?_
  refine W.region ?_
  refine OpsW.det (det_loadW57 rfl (List.Mem.tail _ (List.Mem.tail _ (List.Mem.head _)))) rfl ?_
  refine OpsW.det (det_loadW57 rfl (List.Mem.head _)) rfl ?_
  refine OpsW.det (det_build rfl bld59) rfl ?_
  refine OpsW.storeW59 rfl rfl (Upd.there (Upd.there (Upd.there (Upd.there (Upd.here))))) ?_
  refine sNext ?_
  refine W.keep (F' := [(0, _)]) ⟨rfl, trivial⟩ ?_
  refine sRet ?_
  exact done1 Tryd.results36 (rv_cellA ty59 rfl (List.Mem.tail _ (List.Mem.tail _ (List.Mem.tail _ (List.Mem.tail _ (List.Mem.head _))))) rfl) rfl
set_option maxRecDepth 100000 in
theorem Pturn_ok {p : Pt} {w : World} (hG : Blocks (GH T) w)  : Vm.Pure Tryd.prog 83 #[encP p] w (encP (turnP p)) := by
  refine pure_of_W (n := 28) (args := [encP p]) Tryd.func83 rfl Tryd.ntmps83 (Nat.le_of_ble_eq_true rfl) hG ?_
  refine sStart ?_
  refine sSeq ?_
  refine W.region ?_
  refine OpsW.fresh (fr_boxW59 rfl) rfl fun b1 => ?_
  refine OpsW.fresh (fr_alloc z59r) rfl fun b2 => ?_
  refine sNext ?_
  refine W.keep (F' := [(2, _), (1, _)]) ⟨rfl, rfl, trivial⟩ ?_
  refine sSeq ?_
  refine W.region ?_
  refine OpsW.fresh (fr_buildSlice rfl tX_sl) rfl fun b8 => ?_
  refine OpsW.det (det_call en75 rfl (fun w hb ho => Read_ok (G' := [(b8, blk (bcells tX ++ []) 5)]) (Bs.of tX_small (Nat.le_refl _)) (blocks_cons (hb _ (List.Mem.head _)) ho.blocks))) rfl ?_
  refine OpsW.det (det_move rfl) rfl ?_
  refine OpsW.det (det_extract rfl rfl) rfl ?_
  refine OpsW.det (det_extract rfl rfl) rfl ?_
  refine OpsW.fresh (fr_alloc z57r) rfl fun b3 => ?_
  refine OpsW.storeW57 rfl rfl (Upd.here) ?_
  refine OpsW.det (det_assign rfl) rfl ?_
  refine sNext ?_
  refine W.keep (F' := [(3, _), (2, _), (1, _)]) ⟨rfl, rfl, rfl, trivial⟩ ?_
  refine sSeq ?_
  refine W.region ?_
  refine OpsW.fresh (fr_buildSlice rfl tY_sl) rfl fun b13 => ?_
  refine OpsW.det (det_call en75 rfl (fun w hb ho => Read_ok (G' := [(b13, blk (bcells tY ++ []) 5)]) (Bs.of tY_small (Nat.le_refl _)) (blocks_cons (hb _ (List.Mem.head _)) ho.blocks))) rfl ?_
  refine OpsW.det (det_move rfl) rfl ?_
  refine OpsW.det (det_extract rfl rfl) rfl ?_
  refine OpsW.det (det_extract rfl rfl) rfl ?_
  refine OpsW.fresh (fr_alloc z57r) rfl fun b5 => ?_
  refine OpsW.storeW57 rfl rfl (Upd.here) ?_
  refine OpsW.det (det_assign rfl) rfl ?_
  refine sNext ?_
  refine W.keep (F' := [(5, _), (3, _), (2, _), (1, _)]) ⟨rfl, rfl, rfl, rfl, trivial⟩ ?_
  refine sSeq ?_
  refine W.draw mixed 11 [[], [0], [0, 1], [], [0, 1, 2, 3], [], [5], [0, 1, 2, 3, 4, 5, 6], [], [0, 1, 2, 3, 4, 5, 6, 7, 8], [0, 1, 2, 3, 4, 5, 6, 7, 8, 9], [0, 1, 2, 3, 4, 5, 6, 7, 8, 9, 10]] (cl_lt (by decide)) ?_
  refine HeadR.start (cl_lt (by decide)) ?_
  refine HeadR.det rfl (fun β hβ => (det_fieldAddr fl59_0 rfl)) ?_
  refine HeadR.det rfl (fun β hβ => (det_loadA ty57 rfl (List.Mem.tail _ (List.Mem.tail _ (List.Mem.tail _ (List.Mem.tail _ (List.Mem.tail _ (List.Mem.head _)))))) rfl)) ?_
  refine HeadR.det rfl (fun β hβ => (det_call en101 rfl (fun w hb ho => Conj_ok ho.blocks))) ?_
  refine HeadR.det rfl (fun β hβ => (det_loadW57 rfl (List.Mem.tail _ (List.Mem.tail _ (List.Mem.head _))))) ?_
  refine HeadR.det rfl (fun β hβ => (det_call en81 rfl (fun w hb ho => Mul_ok ho.blocks))) ?_
  refine HeadR.det rfl (fun β hβ => (det_fieldAddr fl59_1 rfl)) ?_
  refine HeadR.det rfl (fun β hβ => (det_loadA ty57 rfl (List.Mem.tail _ (List.Mem.tail _ (List.Mem.tail _ (List.Mem.tail _ (List.Mem.tail _ (List.Mem.head _)))))) rfl)) ?_
  refine HeadR.det rfl (fun β hβ => (det_call en101 rfl (fun w hb ho => Conj_ok ho.blocks))) ?_
  refine HeadR.det rfl (fun β hβ => (det_loadW57 rfl (List.Mem.head _))) ?_
  refine HeadR.det rfl (fun β hβ => (det_call en81 rfl (fun w hb ho => Mul_ok ho.blocks))) ?_
  refine HeadR.det rfl (fun β hβ => (det_build rfl bld59)) ?_
  refine HeadR.done ⟨by kernel_rfl, fun β hβ => ?_⟩
  refine OpsW.norm (F' := [(17, _), (18, _), (19, _), (20, _), (21, _), (22, _), (23, _), (24, _), (25, _), (26, _), (27, _), (5, _), (3, _), (2, _), (1, _)]) (H' := [(_, _), (_, _), (_, _), (_, _), (_, _), (_, _)]) rfl rfl ?_
  refine OpsW.storeW59 rfl rfl (Upd.there (Upd.there (Upd.there (Upd.there (Upd.here))))) ?_
  refine sNext ?_
  refine W.keep (F' := [(2, _)]) ⟨rfl, trivial⟩ ?_
  refine sRet ?_
  exact done1 Tryd.results83 (rv_cellA ty59 rfl (List.Mem.tail _ (List.Mem.tail _ (List.Mem.tail _ (List.Mem.tail _ (List.Mem.head _))))) rfl) rfl
theorem PIn_ok {p : Pt} {w : World} (hG : Blocks (GH T) w)  : Vm.Pure Tryd.prog 43 #[encP p] w (.bool (inB p)) := by
  refine pure_of_W (n := 10) (args := [encP p]) Tryd.func43 rfl Tryd.ntmps43 (Nat.le_of_ble_eq_true rfl) hG ?_
  refine sStart ?_
  refine sSeq ?_
  refine W.region ?_
  refine OpsW.fresh (fr_boxW59 rfl) rfl fun b1 => ?_
  refine OpsW.det (det_assign rfl) rfl ?_
  refine sNext ?_
  refine W.keep (F' := [(1, _)]) ⟨rfl, trivial⟩ ?_
  refine sSeq ?_
  refine W.draw mixed 8 [[], [0], [], [], [0, 1, 2, 3], [0, 1, 2, 3, 4], [0, 1, 2, 3, 4, 5], [0, 1, 2, 3, 4, 5, 6]] (cl_lt (by decide)) ?_
  refine HeadR.start (cl_lt (by decide)) ?_
  refine HeadR.det rfl (fun β hβ => (det_loadW59 rfl (List.Mem.head _))) ?_
  refine HeadR.det rfl (fun β hβ => (det_call en83 rfl (fun w hb ho => Pturn_ok ho.blocks))) ?_
  refine HeadR.det rfl (fun β hβ => (det_loadW59 rfl (List.Mem.head _))) ?_
  refine HeadR.fresh rfl (fun β hβ => (fr_buildSlice rfl sizeL_sl).new) ?_
  refine HeadR.det rfl (fun β hβ => (det_call en45 rfl (fun w hb ho => Times_ok (G' := [((β 6).1, blk (bcells sizeL ++ []) 5)]) (p := p) (Bs.of sizeL_small (Nat.le_refl _)) (by decide) (blocks_cons (hb _ (List.Mem.head _)) ho.blocks)))) ?_
  refine HeadR.det rfl (fun β hβ => (det_call en41 rfl (fun w hb ho => PNeg_ok ho.blocks))) ?_
  refine HeadR.det rfl (fun β hβ => (det_eql59 rfl rfl)) ?_
  refine HeadR.det rfl (fun β hβ => (det_assign rfl)) ?_
  refine HeadR.done ⟨by kernel_rfl, fun β hβ => ?_⟩
  refine OpsW.norm (F' := [(3, _), (4, _), (5, _), (6, .slice (some ⟨(β 6).1, 0, none⟩) 8 8), (7, _), (8, _), (9, _), (2, _), (1, _)]) (H' := [(_, _), (_, _)]) rfl rfl ?_
  generalize (β 6).1 = b6
  refine sNext ?_
  refine W.keep (F' := [(2, _)]) ⟨rfl, trivial⟩ ?_
  refine sRet ?_
  exact done1 Tryd.results43 (rv_tmp rfl) rfl

end Go.Cw

/- The second group's laws: what they share: the walks. Conditions: of the generator, what HeadOk says. -/
namespace Go.Cw
open Go Go.Vm Go.RowKit Go.Proofs Go.Cu
attribute [local irreducible] W OpsW Det Fresh New Writes Vm.Pure Makes Changes ExternTo BuildTo ZeroTo FieldTo IndexTo BinTo SliceTo Vm.Enters
set_option linter.unusedVariables false
set_option linter.unusedSimpArgs false
variable {T : Nat → TypeId × Nat × Nat}

def lambdaB (p q r : Pt) : Bool := decide ((p.1 + q.1 + r.1) * ((q.1 - p.1) * (q.1 - p.1)) = (q.2 - p.2) * (q.2 - p.2))
def threeB (p : Pt) : Bool :=
  let s := p.1 * p.1 * (p.1 * p.1)
  let u := p.1 * (p.2 * p.2)
  let n := s + s + s
  let nine := n + n + n
  let v := u + u + u
  let w := v + v
  decide (nine = w + w)
/-- What the head asks of the generator. -/
structure HeadOk : Prop where
  h1 : onB gen = true
  h2 : onB (padd gen gen) = true
  h3 : (!decide (padd gen gen = gen)) = true
  h4 : (!decide (padd gen gen = (0, 0))) = true
  h5 : decide (times [2] gen = padd gen gen) = true
  h6 : decide (padd gen (pneg gen) = (0, 0)) = true
  h7 : (!odd2 gen.1) = true

theorem en36 : Vm.Enters Tryd.prog 36 := Vm.Enters.of fun _ _ => by kernel_rfl
theorem en39 : Vm.Enters Tryd.prog 39 := Vm.Enters.of fun _ _ => by kernel_rfl
theorem en42 : Vm.Enters Tryd.prog 42 := Vm.Enters.of fun _ _ => by kernel_rfl
theorem en74 : Vm.Enters Tryd.prog 74 := Vm.Enters.of fun _ _ => by kernel_rfl
theorem lambda_ok {p q r : Pt} {w : World} (hG : Blocks (GH T) w)  : Vm.Pure Tryd.prog 91 #[encP p, encP q, encP r] w (.bool (lambdaB p q r)) := by
  refine pure_of_W (n := 33) (args := [encP p, encP q, encP r]) Tryd.func91 rfl Tryd.ntmps91 (Nat.le_of_ble_eq_true rfl) hG ?_
  refine sStart ?_
  refine sSeq ?_
  refine W.region ?_
  refine OpsW.fresh (fr_boxW59 rfl) rfl fun b3 => ?_
  refine OpsW.fresh (fr_boxW59 rfl) rfl fun b4 => ?_
  refine OpsW.fresh (fr_boxW59 rfl) rfl fun b5 => ?_
  refine OpsW.det (det_assign rfl) rfl ?_
  refine sNext ?_
  refine W.keep (F' := [(5, _), (4, _), (3, _)]) ⟨rfl, rfl, rfl, trivial⟩ ?_
  refine sSeq ?_
  refine W.region ?_
  refine OpsW.det (det_fieldAddr fl59_0 rfl) rfl ?_
  refine OpsW.det (det_loadA ty57 rfl (List.Mem.tail _ (List.Mem.head _)) rfl) rfl ?_
  refine OpsW.det (det_fieldAddr fl59_0 rfl) rfl ?_
  refine OpsW.det (det_loadA ty57 rfl (List.Mem.tail _ (List.Mem.tail _ (List.Mem.head _))) rfl) rfl ?_
  refine OpsW.det (det_call en89 rfl (fun w hb ho => Sub_ok ho.blocks)) rfl ?_
  refine OpsW.fresh (fr_alloc z57r) rfl fun b7 => ?_
  refine OpsW.storeW57 rfl rfl (Upd.here) ?_
  refine sNext ?_
  refine W.keep (F' := [(7, _), (5, _), (4, _), (3, _)]) ⟨rfl, rfl, rfl, rfl, trivial⟩ ?_
  refine sSeq ?_
  refine W.region ?_
  refine OpsW.det (det_fieldAddr fl59_1 rfl) rfl ?_
  refine OpsW.det (det_loadA ty57 rfl (List.Mem.tail _ (List.Mem.tail _ (List.Mem.head _))) rfl) rfl ?_
  refine OpsW.det (det_fieldAddr fl59_1 rfl) rfl ?_
  refine OpsW.det (det_loadA ty57 rfl (List.Mem.tail _ (List.Mem.tail _ (List.Mem.tail _ (List.Mem.head _)))) rfl) rfl ?_
  refine OpsW.det (det_call en89 rfl (fun w hb ho => Sub_ok ho.blocks)) rfl ?_
  refine OpsW.fresh (fr_alloc z57r) rfl fun b8 => ?_
  refine OpsW.storeW57 rfl rfl (Upd.here) ?_
  refine sNext ?_
  refine W.keep (F' := [(8, _), (7, _), (5, _), (4, _), (3, _)]) ⟨rfl, rfl, rfl, rfl, rfl, trivial⟩ ?_
  refine sSeq ?_
  refine W.draw mixed 15 [[], [0], [], [2], [0, 1, 2, 3], [], [5], [0, 1, 2, 3, 4, 5, 6], [], [0, 1, 2, 3, 4, 5, 6, 7, 8], [0, 1, 2, 3, 4, 5, 6, 7, 8, 9], [], [0, 1, 2, 3, 4, 5, 6, 7, 8, 9, 10, 11], [0, 1, 2, 3, 4, 5, 6, 7, 8, 9, 10, 11, 12], [0, 1, 2, 3, 4, 5, 6, 7, 8, 9, 10, 11, 12, 13]] (cl_lt (by decide)) ?_
  refine HeadR.start (cl_lt (by decide)) ?_
  refine HeadR.det rfl (fun β hβ => (det_fieldAddr fl59_0 rfl)) ?_
  refine HeadR.det rfl (fun β hβ => (det_loadA ty57 rfl (List.Mem.tail _ (List.Mem.tail _ (List.Mem.tail _ (List.Mem.tail _ (List.Mem.head _))))) rfl)) ?_
  refine HeadR.det rfl (fun β hβ => (det_fieldAddr fl59_0 rfl)) ?_
  refine HeadR.det rfl (fun β hβ => (det_loadA ty57 rfl (List.Mem.tail _ (List.Mem.tail _ (List.Mem.tail _ (List.Mem.head _)))) rfl)) ?_
  refine HeadR.det rfl (fun β hβ => (det_call en47 rfl (fun w hb ho => Add_ok ho.blocks))) ?_
  refine HeadR.det rfl (fun β hβ => (det_fieldAddr fl59_0 rfl)) ?_
  refine HeadR.det rfl (fun β hβ => (det_loadA ty57 rfl (List.Mem.tail _ (List.Mem.tail _ (List.Mem.head _))) rfl)) ?_
  refine HeadR.det rfl (fun β hβ => (det_call en47 rfl (fun w hb ho => Add_ok ho.blocks))) ?_
  refine HeadR.det rfl (fun β hβ => (det_loadW57 rfl (List.Mem.tail _ (List.Mem.head _)))) ?_
  refine HeadR.det rfl (fun β hβ => (det_call en80 rfl (fun w hb ho => Square_ok ho.blocks))) ?_
  refine HeadR.det rfl (fun β hβ => (det_call en81 rfl (fun w hb ho => Mul_ok ho.blocks))) ?_
  refine HeadR.det rfl (fun β hβ => (det_loadW57 rfl (List.Mem.head _))) ?_
  refine HeadR.det rfl (fun β hβ => (det_call en80 rfl (fun w hb ho => Square_ok ho.blocks))) ?_
  refine HeadR.det rfl (fun β hβ => (det_eql57 rfl rfl)) ?_
  refine HeadR.det rfl (fun β hβ => (det_assign rfl)) ?_
  refine HeadR.done ⟨by kernel_rfl, fun β hβ => ?_⟩
  refine OpsW.norm (F' := [(19, _), (20, _), (21, _), (22, _), (23, _), (24, _), (25, _), (26, _), (27, _), (28, _), (29, _), (30, _), (31, _), (32, _), (6, _), (8, _), (7, _), (5, _), (4, _), (3, _)]) (H' := [(_, _), (_, _), (_, _), (_, _), (_, _)]) rfl rfl ?_
  refine sNext ?_
  refine W.keep (F' := [(6, _)]) ⟨rfl, trivial⟩ ?_
  refine sRet ?_
  exact done1 Tryd.results91 (rv_tmp rfl) rfl
theorem three_ok {p : Pt} {w : World} (hG : Blocks (GH T) w)  : Vm.Pure Tryd.prog 90 #[encP p] w (.bool (threeB p)) := by
  refine pure_of_W (n := 40) (args := [encP p]) Tryd.func90 rfl Tryd.ntmps90 (Nat.le_of_ble_eq_true rfl) hG ?_
  refine sStart ?_
  refine sSeq ?_
  refine W.region ?_
  refine OpsW.fresh (fr_boxW59 rfl) rfl fun b1 => ?_
  refine OpsW.det (det_assign rfl) rfl ?_
  refine sNext ?_
  refine W.keep (F' := [(1, _)]) ⟨rfl, trivial⟩ ?_
  refine sSeq ?_
  refine W.region ?_
  refine OpsW.det (det_fieldAddr fl59_0 rfl) rfl ?_
  refine OpsW.det (det_loadA ty57 rfl (List.Mem.head _) rfl) rfl ?_
  refine OpsW.det (det_call en80 rfl (fun w hb ho => Square_ok ho.blocks)) rfl ?_
  refine OpsW.det (det_call en80 rfl (fun w hb ho => Square_ok ho.blocks)) rfl ?_
  refine OpsW.fresh (fr_alloc z57r) rfl fun b3 => ?_
  refine OpsW.storeW57 rfl rfl (Upd.here) ?_
  refine sNext ?_
  refine W.keep (F' := [(3, _), (1, _)]) ⟨rfl, rfl, trivial⟩ ?_
  refine sSeq ?_
  refine W.draw mixed 7 [[], [0], [], [2], [2, 3], [0, 1, 2, 3, 4], [], [0, 1, 2, 3, 4, 5, 6]] (cl_lt (by decide)) ?_
  refine HeadR.start (cl_lt (by decide)) ?_
  refine HeadR.det rfl (fun β hβ => (det_fieldAddr fl59_0 rfl)) ?_
  refine HeadR.det rfl (fun β hβ => (det_loadA ty57 rfl (List.Mem.tail _ (List.Mem.head _)) rfl)) ?_
  refine HeadR.det rfl (fun β hβ => (det_fieldAddr fl59_1 rfl)) ?_
  refine HeadR.det rfl (fun β hβ => (det_loadA ty57 rfl (List.Mem.tail _ (List.Mem.head _)) rfl)) ?_
  refine HeadR.det rfl (fun β hβ => (det_call en80 rfl (fun w hb ho => Square_ok ho.blocks))) ?_
  refine HeadR.det rfl (fun β hβ => (det_call en81 rfl (fun w hb ho => Mul_ok ho.blocks))) ?_
  refine HeadR.fresh rfl (fun β hβ => (fr_alloc z57r).new) ?_
  refine HeadR.done ⟨by kernel_rfl, fun β hβ => ?_⟩
  refine OpsW.norm (F' := [(11, _), (12, _), (13, _), (14, _), (15, _), (16, _), (4, .pointer (some ⟨(β 4).1, 0, none⟩)), (3, _), (1, _)]) (H' := [(_, _), (_, _), (_, _)]) rfl rfl ?_
  generalize (β 4).1 = b4
  refine OpsW.storeW57 rfl rfl (Upd.here) ?_
  refine sNext ?_
  refine W.keep (F' := [(4, _), (3, _)]) ⟨rfl, rfl, trivial⟩ ?_
  refine sSeq ?_
  refine W.draw mixed 6 [[], [], [0, 1], [], [0, 1, 2, 3], [], [0, 1, 2, 3, 4, 5]] (cl_lt (by decide)) ?_
  refine HeadR.start (cl_lt (by decide)) ?_
  refine HeadR.det rfl (fun β hβ => (det_loadW57 rfl (List.Mem.tail _ (List.Mem.head _)))) ?_
  refine HeadR.det rfl (fun β hβ => (det_loadW57 rfl (List.Mem.tail _ (List.Mem.head _)))) ?_
  refine HeadR.det rfl (fun β hβ => (det_call en47 rfl (fun w hb ho => Add_ok ho.blocks))) ?_
  refine HeadR.det rfl (fun β hβ => (det_loadW57 rfl (List.Mem.tail _ (List.Mem.head _)))) ?_
  refine HeadR.det rfl (fun β hβ => (det_call en47 rfl (fun w hb ho => Add_ok ho.blocks))) ?_
  refine HeadR.fresh rfl (fun β hβ => (fr_alloc z57r).new) ?_
  refine HeadR.done ⟨by kernel_rfl, fun β hβ => ?_⟩
  refine OpsW.norm (F' := [(17, _), (18, _), (19, _), (20, _), (21, _), (5, .pointer (some ⟨(β 5).1, 0, none⟩)), (4, _), (3, _)]) (H' := [(_, _), (_, _), (_, _), (_, _)]) rfl rfl ?_
  generalize (β 5).1 = b5
  refine OpsW.storeW57 rfl rfl (Upd.here) ?_
  refine sNext ?_
  refine W.keep (F' := [(5, _), (4, _)]) ⟨rfl, rfl, trivial⟩ ?_
  refine sSeq ?_
  refine W.draw mixed 5 [[], [], [0, 1], [], [0, 1, 2, 3], [0, 1, 2, 3, 4]] (cl_lt (by decide)) ?_
  refine HeadR.start (cl_lt (by decide)) ?_
  refine HeadR.det rfl (fun β hβ => (det_loadW57 rfl (List.Mem.head _))) ?_
  refine HeadR.det rfl (fun β hβ => (det_loadW57 rfl (List.Mem.head _))) ?_
  refine HeadR.det rfl (fun β hβ => (det_call en47 rfl (fun w hb ho => Add_ok ho.blocks))) ?_
  refine HeadR.det rfl (fun β hβ => (det_loadW57 rfl (List.Mem.head _))) ?_
  refine HeadR.det rfl (fun β hβ => (det_call en47 rfl (fun w hb ho => Add_ok ho.blocks))) ?_
  refine HeadR.done ⟨by kernel_rfl, fun β hβ => ?_⟩
  refine OpsW.norm (F' := [(22, _), (23, _), (24, _), (25, _), (26, _), (5, _), (4, _)]) (H' := [(_, _), (_, _), (_, _), (_, _)]) rfl rfl ?_
  refine OpsW.storeW57 rfl rfl (Upd.here) ?_
  refine sNext ?_
  refine W.keep (F' := [(5, _), (4, _)]) ⟨rfl, rfl, trivial⟩ ?_
  refine sSeq ?_
  refine W.draw mixed 6 [[], [], [0, 1], [], [0, 1, 2, 3], [], [0, 1, 2, 3, 4, 5]] (cl_lt (by decide)) ?_
  refine HeadR.start (cl_lt (by decide)) ?_
  refine HeadR.det rfl (fun β hβ => (det_loadW57 rfl (List.Mem.tail _ (List.Mem.head _)))) ?_
  refine HeadR.det rfl (fun β hβ => (det_loadW57 rfl (List.Mem.tail _ (List.Mem.head _)))) ?_
  refine HeadR.det rfl (fun β hβ => (det_call en47 rfl (fun w hb ho => Add_ok ho.blocks))) ?_
  refine HeadR.det rfl (fun β hβ => (det_loadW57 rfl (List.Mem.tail _ (List.Mem.head _)))) ?_
  refine HeadR.det rfl (fun β hβ => (det_call en47 rfl (fun w hb ho => Add_ok ho.blocks))) ?_
  refine HeadR.fresh rfl (fun β hβ => (fr_alloc z57r).new) ?_
  refine HeadR.done ⟨by kernel_rfl, fun β hβ => ?_⟩
  refine OpsW.norm (F' := [(27, _), (28, _), (29, _), (30, _), (31, _), (6, .pointer (some ⟨(β 6).1, 0, none⟩)), (5, _), (4, _)]) (H' := [(_, _), (_, _), (_, _), (_, _), (_, _)]) rfl rfl ?_
  generalize (β 6).1 = b6
  refine OpsW.storeW57 rfl rfl (Upd.here) ?_
  refine sNext ?_
  refine W.keep (F' := [(6, _), (5, _)]) ⟨rfl, rfl, trivial⟩ ?_
  refine sSeq ?_
  refine W.region ?_
  refine OpsW.det (det_loadW57 rfl (List.Mem.head _)) rfl ?_
  refine OpsW.det (det_loadW57 rfl (List.Mem.head _)) rfl ?_
  refine OpsW.det (det_call en47 rfl (fun w hb ho => Add_ok ho.blocks)) rfl ?_
  refine OpsW.storeW57 rfl rfl (Upd.here) ?_
  refine sNext ?_
  refine W.keep (F' := [(6, _), (5, _)]) ⟨rfl, rfl, trivial⟩ ?_
  refine sSeq ?_
  refine W.draw mixed 6 [[], [], [], [1, 2], [0, 1, 2, 3], [0, 1, 2, 3, 4]] (cl_lt (by decide)) ?_
  refine HeadR.start (cl_lt (by decide)) ?_
  refine HeadR.det rfl (fun β hβ => (det_loadW57 rfl (List.Mem.tail _ (List.Mem.head _)))) ?_
  refine HeadR.det rfl (fun β hβ => (det_loadW57 rfl (List.Mem.head _))) ?_
  refine HeadR.det rfl (fun β hβ => (det_loadW57 rfl (List.Mem.head _))) ?_
  refine HeadR.det rfl (fun β hβ => (det_call en47 rfl (fun w hb ho => Add_ok ho.blocks))) ?_
  refine HeadR.det rfl (fun β hβ => (det_eql57 rfl rfl)) ?_
  refine HeadR.det rfl (fun β hβ => (det_assign rfl)) ?_
  refine HeadR.done ⟨by kernel_rfl, fun β hβ => ?_⟩
  refine OpsW.norm (F' := [(35, _), (36, _), (37, _), (38, _), (39, _), (2, _), (6, _), (5, _)]) (H' := [(_, _), (_, _), (_, _), (_, _), (_, _)]) rfl rfl ?_
  refine sNext ?_
  refine W.keep (F' := [(2, _)]) ⟨rfl, trivial⟩ ?_
  refine sRet ?_
  exact done1 Tryd.results90 (rv_tmp rfl) rfl
theorem head_ok (hh : HeadOk) {w : World} (hG : Blocks (GH T) w)  : Vm.Pure Tryd.prog 34 #[] w (.bool true) := by
  refine pure_of_W (n := 44) (args := []) Tryd.func34 rfl Tryd.ntmps34 (Nat.le_of_ble_eq_true rfl) hG ?_
  refine sStart ?_
  refine sSeq ?_
  refine W.region ?_
  refine OpsW.det (det_assign rfl) rfl ?_
  refine sNext ?_
  refine W.keep (F' := []) trivial ?_
  refine sSeq ?_
  refine W.region ?_
  refine OpsW.det (det_call en36 rfl (fun w hb ho => Gen_ok ho.blocks)) rfl ?_
  refine OpsW.fresh (fr_alloc z59r) rfl fun b1 => ?_
  refine OpsW.storeW59 rfl rfl (Upd.here) ?_
  refine sNext ?_
  refine W.keep (F' := [(1, _)]) ⟨rfl, trivial⟩ ?_
  refine sSeq ?_
  refine W.region ?_
  refine OpsW.det (det_loadW59 rfl (List.Mem.head _)) rfl ?_
  refine OpsW.det (det_loadW59 rfl (List.Mem.head _)) rfl ?_
  refine OpsW.det (det_call en39 rfl (fun w hb ho => PAdd_ok ho.blocks)) rfl ?_
  refine OpsW.fresh (fr_alloc z59r) rfl fun b2 => ?_
  refine OpsW.storeW59 rfl rfl (Upd.here) ?_
  refine sNext ?_
  refine W.keep (F' := [(2, _), (1, _)]) ⟨rfl, rfl, trivial⟩ ?_
  refine sSeq ?_
  refine W.draw mixed 38 [[], [0], [0, 1], [0, 1, 2], [0, 1, 2, 3], [0, 1, 2, 3, 4], [0, 1, 2, 3, 4, 5], [0, 1, 2, 3, 4, 5, 6], [0, 1, 2, 3, 4, 5, 6], [0, 1, 2, 3, 4, 5, 6, 7, 8], [0, 1, 2, 3, 4, 5, 6, 7, 8, 9], [0, 1, 2, 3, 4, 5, 6, 7, 8, 9, 10], [0, 1, 2, 3, 4, 5, 6, 7, 8, 9, 10, 11], [0, 1, 2, 3, 4, 5, 6, 7, 8, 9, 10, 11], [0, 1, 2, 3, 4, 5, 6, 7, 8, 9, 10, 11, 12, 13], [0, 1, 2, 3, 4, 5, 6, 7, 8, 9, 10, 11, 12, 13, 14], [0, 1, 2, 3, 4, 5, 6, 7, 8, 9, 10, 11, 12, 13, 14, 15], [0, 1, 2, 3, 4, 5, 6, 7, 8, 9, 10, 11, 12, 13, 14, 15, 16], [0, 1, 2, 3, 4, 5, 6, 7, 8, 9, 10, 11, 12, 13, 14, 15, 16], [0, 1, 2, 3, 4, 5, 6, 7, 8, 9, 10, 11, 12, 13, 14, 15, 16, 17, 18], [0, 1, 2, 3, 4, 5, 6, 7, 8, 9, 10, 11, 12, 13, 14, 15, 16], [0, 1, 2, 3, 4, 5, 6, 7, 8, 9, 10, 11, 12, 13, 14, 15, 16, 17, 18, 19, 20], [0, 1, 2, 3, 4, 5, 6, 7, 8, 9, 10, 11, 12, 13, 14, 15, 16, 17, 18, 19, 20, 21], [0, 1, 2, 3, 4, 5, 6, 7, 8, 9, 10, 11, 12, 13, 14, 15, 16, 17, 18, 19, 20, 21, 22], [0, 1, 2, 3, 4, 5, 6, 7, 8, 9, 10, 11, 12, 13, 14, 15, 16, 17, 18, 19, 20, 21, 22, 23], [0, 1, 2, 3, 4, 5, 6, 7, 8, 9, 10, 11, 12, 13, 14, 15, 16, 17, 18, 19, 20, 21, 22, 23], [0, 1, 2, 3, 4, 5, 6, 7, 8, 9, 10, 11, 12, 13, 14, 15, 16, 17, 18, 19, 20, 21, 22, 23, 25], [0, 1, 2, 3, 4, 5, 6, 7, 8, 9, 10, 11, 12, 13, 14, 15, 16, 17, 18, 19, 20, 21, 22, 23, 24, 25, 26], [0, 1, 2, 3, 4, 5, 6, 7, 8, 9, 10, 11, 12, 13, 14, 15, 16, 17, 18, 19, 20, 21, 22, 23], [0, 1, 2, 3, 4, 5, 6, 7, 8, 9, 10, 11, 12, 13, 14, 15, 16, 17, 18, 19, 20, 21, 22, 23, 24, 25, 26, 27, 28], [0, 1, 2, 3, 4, 5, 6, 7, 8, 9, 10, 11, 12, 13, 14, 15, 16, 17, 18, 19, 20, 21, 22, 23, 24, 25, 26, 27, 28, 29], [0, 1, 2, 3, 4, 5, 6, 7, 8, 9, 10, 11, 12, 13, 14, 15, 16, 17, 18, 19, 20, 21, 22, 23, 24, 25, 26, 27, 28, 29, 30], [0, 1, 2, 3, 4, 5, 6, 7, 8, 9, 10, 11, 12, 13, 14, 15, 16, 17, 18, 19, 20, 21, 22, 23, 24, 25, 26, 27, 28, 29, 30, 31], [0, 1, 2, 3, 4, 5, 6, 7, 8, 9, 10, 11, 12, 13, 14, 15, 16, 17, 18, 19, 20, 21, 22, 23, 24, 25, 26, 27, 28, 29, 30, 31, 32], [0, 1, 2, 3, 4, 5, 6, 7, 8, 9, 10, 11, 12, 13, 14, 15, 16, 17, 18, 19, 20, 21, 22, 23, 24, 25, 26, 27, 28, 29, 30, 31, 32, 33], [0, 1, 2, 3, 4, 5, 6, 7, 8, 9, 10, 11, 12, 13, 14, 15, 16, 17, 18, 19, 20, 21, 22, 23, 24, 25, 26, 27, 28, 29, 30, 31, 32, 33, 34], [0, 1, 2, 3, 4, 5, 6, 7, 8, 9, 10, 11, 12, 13, 14, 15, 16, 17, 18, 19, 20, 21, 22, 23, 24, 25, 26, 27, 28, 29, 30, 31, 32, 33, 34, 35], [0, 1, 2, 3, 4, 5, 6, 7, 8, 9, 10, 11, 12, 13, 14, 15, 16, 17, 18, 19, 20, 21, 22, 23, 24, 25, 26, 27, 28, 29, 30, 31, 32, 33, 34, 35, 36]] (cl_lt (by decide)) ?_
  refine HeadR.start (cl_lt (by decide)) ?_
  refine HeadR.det rfl (fun β hβ => (det_loadW59 rfl (List.Mem.tail _ (List.Mem.head _)))) ?_
  refine HeadR.det rfl (fun β hβ => ((det_call en42 rfl (fun w hb ho => POn_ok (p := gen) ho.blocks)).to (congrArg Value.bool hh.h1))) ?_
  refine HeadR.det rfl (fun β hβ => (det_move rfl)) ?_
  refine HeadR.yes rfl rfl (fun _ _ => rfl) (fun β hβ => (det_loadW59 rfl (List.Mem.head _))) ?_
  refine HeadR.yes rfl rfl (fun _ _ => rfl) (fun β hβ => ((det_call en42 rfl (fun w hb ho => POn_ok (p := padd gen gen) ho.blocks)).to (congrArg Value.bool hh.h2))) ?_
  refine HeadR.det rfl (fun β hβ => (det_pick rfl rfl)) ?_
  refine HeadR.det rfl (fun β hβ => (det_move rfl)) ?_
  refine HeadR.yes rfl rfl (fun _ _ => rfl) (fun β hβ => (det_loadW59 rfl (List.Mem.head _))) ?_
  refine HeadR.yes rfl rfl (fun _ _ => rfl) (fun β hβ => (det_loadW59 rfl (List.Mem.tail _ (List.Mem.head _)))) ?_
  refine HeadR.yes rfl rfl (fun _ _ => rfl) (fun β hβ => ((det_neq59 (a := padd gen gen) (b := gen) rfl rfl).to (congrArg Value.bool hh.h3))) ?_
  refine HeadR.det rfl (fun β hβ => (det_pick rfl rfl)) ?_
  refine HeadR.det rfl (fun β hβ => (det_move rfl)) ?_
  refine HeadR.yes rfl rfl (fun _ _ => rfl) (fun β hβ => (det_loadW59 rfl (List.Mem.head _))) ?_
  refine HeadR.yes rfl rfl (fun _ _ => rfl) (fun β hβ => (det_zero bz59)) ?_
  refine HeadR.yes rfl rfl (fun _ _ => rfl) (fun β hβ => ((det_neq59 (a := padd gen gen) (b := (0, 0)) rfl rfl).to (congrArg Value.bool hh.h4))) ?_
  refine HeadR.det rfl (fun β hβ => (det_pick rfl rfl)) ?_
  refine HeadR.det rfl (fun β hβ => (det_move rfl)) ?_
  refine HeadR.yes rfl rfl (fun _ _ => rfl) (fun β hβ => (det_loadW59 rfl (List.Mem.tail _ (List.Mem.head _)))) ?_
  refine HeadR.yesFresh rfl rfl (fun _ _ => rfl) (fun β hβ => (fr_buildSlice rfl two_sl).new) ?_
  refine HeadR.yes rfl rfl (fun _ _ => rfl) (fun β hβ => (det_call en45 rfl (fun w hb ho => Times_ok (G' := [((β 25).1, blk (bcells [2] ++ []) 5)]) (p := gen) (Bs.of two_small (Nat.le_refl _)) (by decide) (blocks_cons (hb _ (List.Mem.head _)) ho.blocks)))) ?_
  refine HeadR.yes rfl rfl (fun _ _ => rfl) (fun β hβ => (det_loadW59 rfl (List.Mem.head _))) ?_
  refine HeadR.yes rfl rfl (fun _ _ => rfl) (fun β hβ => ((det_eql59 (a := times [2] gen) (b := padd gen gen) rfl rfl).to (congrArg Value.bool hh.h5))) ?_
  refine HeadR.det rfl (fun β hβ => (det_pick rfl rfl)) ?_
  refine HeadR.det rfl (fun β hβ => (det_move rfl)) ?_
  refine HeadR.yes rfl rfl (fun _ _ => rfl) (fun β hβ => (det_loadW59 rfl (List.Mem.tail _ (List.Mem.tail _ (List.Mem.head _))))) ?_
  refine HeadR.yes rfl rfl (fun _ _ => rfl) (fun β hβ => (det_loadW59 rfl (List.Mem.tail _ (List.Mem.tail _ (List.Mem.head _))))) ?_
  refine HeadR.yes rfl rfl (fun _ _ => rfl) (fun β hβ => (det_call en41 rfl (fun w hb ho => PNeg_ok ho.blocks))) ?_
  refine HeadR.yes rfl rfl (fun _ _ => rfl) (fun β hβ => (det_call en39 rfl (fun w hb ho => PAdd_ok ho.blocks))) ?_
  refine HeadR.yes rfl rfl (fun _ _ => rfl) (fun β hβ => (det_zero bz59)) ?_
  refine HeadR.yes rfl rfl (fun _ _ => rfl) (fun β hβ => ((det_eql59 (a := padd gen (pneg gen)) (b := (0, 0)) rfl rfl).to (congrArg Value.bool hh.h6))) ?_
  refine HeadR.det rfl (fun β hβ => (det_pick rfl rfl)) ?_
  refine HeadR.det rfl (fun β hβ => (det_move rfl)) ?_
  refine HeadR.yes rfl rfl (fun _ _ => rfl) (fun β hβ => (det_fieldAddr fl59_0 rfl)) ?_
  refine HeadR.yes rfl rfl (fun _ _ => rfl) (fun β hβ => (det_loadA ty57 rfl (List.Mem.tail _ (List.Mem.tail _ (List.Mem.head _))) rfl)) ?_
  refine HeadR.yes rfl rfl (fun _ _ => rfl) (fun β hβ => (det_call en74 rfl (fun w hb ho => Odd_ok ho.blocks))) ?_
  refine HeadR.yes rfl rfl (fun _ _ => rfl) (fun β hβ => ((det_not rfl).to (congrArg Value.bool hh.h7))) ?_
  refine HeadR.det rfl (fun β hβ => (det_pick rfl rfl)) ?_
  refine HeadR.det rfl (fun β hβ => (det_assign rfl)) ?_
  refine HeadR.done ⟨by kernel_rfl, fun β hβ => ?_⟩
  refine OpsW.norm (F' := ((7, _) :: (8, _) :: (9, _) :: (10, _) :: (11, _) :: (12, _) :: (13, _) :: (14, _) :: (15, _) :: (16, _) :: (17, _) :: (18, _) :: (19, _) :: (20, _) :: (21, _) :: (22, _) :: (23, _) :: (24, _) :: (25, .slice (some ⟨(β 25).1, 0, none⟩) 1 1) :: (26, _) :: (27, _) :: (28, _) :: (29, _) :: (30, _) :: (31, _) :: (32, _) :: (33, _) :: (34, _) :: (35, _) :: (36, _) :: (37, _) :: (38, _) :: (39, _) :: (40, _) :: (41, _) :: (42, _) :: (43, _) :: (0, _) :: (2, _) :: (1, _) :: [])) (H' := [(_, _), (_, _), (_, _)]) rfl rfl ?_
  generalize (β 25).1 = b25
  refine sNext ?_
  refine W.keep (F' := [(0, _)]) ⟨rfl, trivial⟩ ?_
  refine sRet ?_
  exact done1 Tryd.results34 (rv_tmp rfl) rfl

end Go.Cw

/- The second group's laws: G2Rules: the walk. Conditions: the rules that the points obey. -/
namespace Go.Cw
open Go Go.Vm Go.RowKit Go.Proofs Go.Cu
attribute [local irreducible] W OpsW Det Fresh New Writes Vm.Pure Makes Changes ExternTo BuildTo ZeroTo FieldTo IndexTo BinTo SliceTo Vm.Enters
set_option linter.unusedVariables false
set_option linter.unusedSimpArgs false
variable {T : Nat → TypeId × Nat × Nat}

structure RulesOk (p q r : Pt) : Prop where
  r1 : padd (padd p q) r = padd p (padd q r)
  r2 : psum [p, q, r] = padd (padd p q) r
  r3 : padd p (0, 0) = p
  r4 : padd (0, 0) p = p
  r5 : padd p (pneg p) = (0, 0)
  r6 : pneg (pneg p) = p
  r7 : pneg (padd p q) = padd (pneg p) (pneg q)
  r8 : psum [] = (0, 0)
  r9 : pneg (0, 0) = (0, 0)
  r10 : onB (0, 0) = true
theorem slice64 {p q r : Pt} : SliceTo Tryd.prog 64 3 [(0, encP p), (1, encP q), (2, encP r)] (cellsP p ++ cellsP q ++ cellsP r) 59 := SliceTo.of fun _ => by kernel_rfl
theorem pts3 {p q r : Pt} {b : Nat} : Pts [(b, blk (cellsP p ++ cellsP q ++ cellsP r) 59)] (.slice (some ⟨b, 0, none⟩) 3 3) [p, q, r] :=
  ⟨⟨_, _, rfl⟩, fun i h => ⟨b, 0, 3, _, 59, (0, 0), rfl, List.mem_singleton.2 rfl, by
    have h : i < 3 := h
    have : i = 0 ∨ i = 1 ∨ i = 2 := by omega
    rcases this with rfl | rfl | rfl <;> rfl⟩⟩
theorem pts0 : Pts [] (.slice none 0 0) [] := ⟨⟨_, _, rfl⟩, fun i h => absurd h (Nat.not_lt_zero _)⟩
/-- The point that bytes make of the generator. -/
def gp (l : List Nat) : Pt := pmul gen (wide l)
attribute [local irreducible] pmul times padd pneg psum wide gen

theorem en34 : Vm.Enters Tryd.prog 34 := Vm.Enters.of fun _ _ => by kernel_rfl
theorem en35 : Vm.Enters Tryd.prog 35 := Vm.Enters.of fun _ _ => by kernel_rfl
theorem en37 : Vm.Enters Tryd.prog 37 := Vm.Enters.of fun _ _ => by kernel_rfl
theorem en38 : Vm.Enters Tryd.prog 38 := Vm.Enters.of fun _ _ => by kernel_rfl
theorem en40 : Vm.Enters Tryd.prog 40 := Vm.Enters.of fun _ _ => by kernel_rfl
set_option maxHeartbeats 2000000 in
set_option maxRecDepth 100000 in
theorem G2Rules_ok {G' : Hp} {va vb vc : Value} {la lb lc : List Nat} (ha : Bs G' va la) (hb' : Bs G' vb lb) (hc' : Bs G' vc lc) (hh : HeadOk) (hr : RulesOk (gp la) (gp lb) (gp lc)) {w : World} (hG : Blocks (G' ++ GH T) w)  : Vm.Pure Tryd.prog 9 #[va, vb, vc] w (.bool true) := by
  obtain ⟨aa, ca, hva⟩ := ha.shape
  obtain ⟨ab, cb, hvb⟩ := hb'.shape
  obtain ⟨ac, cc, hvc⟩ := hc'.shape
  refine pure_of_W (n := 108) (args := [va, vb, vc]) Tryd.func9 rfl Tryd.ntmps9 (Nat.le_of_ble_eq_true rfl) hG ?_
  refine sStart ?_
  refine sSeq ?_
  subst hva
  subst hvb
  subst hvc
  refine W.region ?_
  refine OpsW.det (det_assign rfl) rfl ?_
  refine sNext ?_
  refine W.keep (F' := [(0, _), (1, _), (2, _)]) ⟨rfl, rfl, rfl, trivial⟩ ?_
  refine sSeq ?_
  refine sSeq ?_
  refine W.region ?_
  refine OpsW.det (det_call en34 rfl (fun w hb ho => head_ok hh (fun p hp => ho.look (List.mem_append_right _ hp)))) rfl ?_
  refine OpsW.det (det_not rfl) rfl ?_
  refine sNext ?_
  refine W.keep (F' := [(12, _), (0, _), (1, _), (2, _)]) ⟨rfl, rfl, rfl, rfl, trivial⟩ ?_
  refine W.cond_false rfl ?_
  refine sSkip ?_
  refine sSeq ?_
  refine sSeq ?_
  refine W.region ?_
  refine OpsW.det (det_move rfl) rfl ?_
  refine OpsW.det (det_move rfl) rfl ?_
  refine OpsW.det (det_move rfl) rfl ?_
  refine OpsW.det (det_call en35 rfl (fun w hb ho => long_ok (fun p hp => ho.look (List.mem_append_right _ hp)))) rfl ?_
  refine sNext ?_
  refine W.keep (F' := [(16, _), (0, _), (1, _), (2, _)]) ⟨rfl, rfl, rfl, rfl, trivial⟩ ?_
  refine W.cond rfl (fun hc16 => ?_) (fun hc16 => ?_)
  · skip
    refine sSeq ?_
    refine W.region ?_
    refine OpsW.det (det_assign rfl) rfl ?_
    refine sNext ?_
    refine W.keep (F' := [(6, _)]) ⟨rfl, trivial⟩ ?_
    refine sRet ?_
    exact done1 Tryd.results9 (rv_tmp rfl) rfl
  · skip
    have hl := not_long hc16
    refine sSkip ?_
    refine sSeq ?_
    refine W.region ?_
    refine OpsW.det (det_call en36 rfl (fun w hb ho => Gen_ok (fun p hp => ho.look (List.mem_append_right _ hp)))) rfl ?_
    refine OpsW.det (det_move rfl) rfl ?_
    refine OpsW.det (det_call en38 rfl (fun w hb ho => scalar_ok (G' := G') ha (Nat.le_trans hl.1 (by decide)) ho.blocks)) rfl ?_
    refine OpsW.det (det_call en37 rfl (fun w hb ho => PMul_ok (fun p hp => ho.look (List.mem_append_right _ hp)))) rfl ?_
    refine OpsW.fresh (fr_alloc z59r) rfl fun b7 => ?_
    refine OpsW.storeW59 rfl rfl (Upd.here) ?_
    refine sNext ?_
    refine W.keep (F' := [(7, _), (1, _), (2, _)]) ⟨rfl, rfl, rfl, trivial⟩ ?_
    refine sSeq ?_
    refine W.region ?_
    refine OpsW.det (det_call en36 rfl (fun w hb ho => Gen_ok (fun p hp => ho.look (List.mem_append_right _ hp)))) rfl ?_
    refine OpsW.det (det_move rfl) rfl ?_
    refine OpsW.det (det_call en38 rfl (fun w hb ho => scalar_ok (G' := G') hb' (Nat.le_trans hl.2.1 (by decide)) ho.blocks)) rfl ?_
    refine OpsW.det (det_call en37 rfl (fun w hb ho => PMul_ok (fun p hp => ho.look (List.mem_append_right _ hp)))) rfl ?_
    refine OpsW.fresh (fr_alloc z59r) rfl fun b8 => ?_
    refine OpsW.storeW59 rfl rfl (Upd.here) ?_
    refine sNext ?_
    refine W.keep (F' := [(8, _), (7, _), (2, _)]) ⟨rfl, rfl, rfl, trivial⟩ ?_
    refine sSeq ?_
    refine W.region ?_
    refine OpsW.det (det_call en36 rfl (fun w hb ho => Gen_ok (fun p hp => ho.look (List.mem_append_right _ hp)))) rfl ?_
    refine OpsW.det (det_move rfl) rfl ?_
    refine OpsW.det (det_call en38 rfl (fun w hb ho => scalar_ok (G' := G') hc' (Nat.le_trans hl.2.2 (by decide)) ho.blocks)) rfl ?_
    refine OpsW.det (det_call en37 rfl (fun w hb ho => PMul_ok (fun p hp => ho.look (List.mem_append_right _ hp)))) rfl ?_
    refine OpsW.fresh (fr_alloc z59r) rfl fun b9 => ?_
    refine OpsW.storeW59 rfl rfl (Upd.here) ?_
    refine sNext ?_
    refine W.keep (F' := [(9, _), (8, _), (7, _)]) ⟨rfl, rfl, rfl, trivial⟩ ?_
    refine sSeq ?_
    refine W.region ?_
    refine OpsW.det (det_zero bz59) rfl ?_
    refine OpsW.fresh (fr_alloc z59r) rfl fun b10 => ?_
    refine OpsW.storeW59 rfl rfl (Upd.here) ?_
    refine sNext ?_
    refine W.keep (F' := [(10, _), (9, _), (8, _), (7, _)]) ⟨rfl, rfl, rfl, rfl, trivial⟩ ?_
    refine sSeq ?_
    refine sSeq ?_
    refine W.draw mixed 46 [[], [], [0, 1], [], [0, 1, 2, 3], [], [], [], [0, 1, 2, 3, 4, 6, 7], [0, 1, 2, 3, 4, 5, 6, 7, 8], [0, 1, 2, 3, 4, 5, 6, 7, 8, 9], [0, 1, 2, 3, 4, 5, 6, 7, 8, 9, 10], [0, 1, 2, 3, 4, 5, 6, 7, 8, 9, 10, 11], [0, 1, 2, 3, 4, 5, 6, 7, 8, 9, 10, 11], [0, 1, 2, 3, 4, 5, 6, 7, 8, 9, 10, 11], [0, 1, 2, 3, 4, 5, 6, 7, 8, 9, 10, 11, 12, 13, 14], [0, 1, 2, 3, 4, 5, 6, 7, 8, 9, 10, 11, 12, 13, 14, 15], [0, 1, 2, 3, 4, 5, 6, 7, 8, 9, 10, 11], [0, 1, 2, 3, 4, 5, 6, 7, 8, 9, 10, 11], [0, 1, 2, 3, 4, 5, 6, 7, 8, 9, 10, 11, 12, 13, 14, 15, 16, 17, 18], [0, 1, 2, 3, 4, 5, 6, 7, 8, 9, 10, 11], [0, 1, 2, 3, 4, 5, 6, 7, 8, 9, 10, 11, 12, 13, 14, 15, 16, 17, 18, 19, 20], [0, 1, 2, 3, 4, 5, 6, 7, 8, 9, 10, 11, 12, 13, 14, 15, 16, 17, 18, 19, 20, 21], [0, 1, 2, 3, 4, 5, 6, 7, 8, 9, 10, 11, 12, 13, 14, 15, 16, 17, 18, 19, 20, 21, 22], [0, 1, 2, 3, 4, 5, 6, 7, 8, 9, 10, 11, 12, 13, 14, 15, 16, 17, 18, 19, 20, 21, 22, 23], [0, 1, 2, 3, 4, 5, 6, 7, 8, 9, 10, 11, 12, 13, 14, 15, 16, 17, 18, 19, 20, 21, 22, 23, 24], [0, 1, 2, 3, 4, 5, 6, 7, 8, 9, 10, 11, 12, 13, 14, 15, 16, 17, 18, 19, 20, 21, 22, 23, 24], [0, 1, 2, 3, 4, 5, 6, 7, 8, 9, 10, 11, 12, 13, 14, 15, 16, 17, 18, 19, 20, 21, 22, 23, 24, 25, 26], [0, 1, 2, 3, 4, 5, 6, 7, 8, 9, 10, 11, 12, 13, 14, 15, 16, 17, 18, 19, 20, 21, 22, 23, 24], [0, 1, 2, 3, 4, 5, 6, 7, 8, 9, 10, 11, 12, 13, 14, 15, 16, 17, 18, 19, 20, 21, 22, 23, 24, 25, 26, 27, 28], [0, 1, 2, 3, 4, 5, 6, 7, 8, 9, 10, 11, 12, 13, 14, 15, 16, 17, 18, 19, 20, 21, 22, 23, 24, 25, 26, 27, 28, 29], [0, 1, 2, 3, 4, 5, 6, 7, 8, 9, 10, 11, 12, 13, 14, 15, 16, 17, 18, 19, 20, 21, 22, 23, 24, 25, 26, 27, 28, 29, 30], [0, 1, 2, 3, 4, 5, 6, 7, 8, 9, 10, 11, 12, 13, 14, 15, 16, 17, 18, 19, 20, 21, 22, 23, 24, 25, 26, 27, 28, 29, 30, 31], [0, 1, 2, 3, 4, 5, 6, 7, 8, 9, 10, 11, 12, 13, 14, 15, 16, 17, 18, 19, 20, 21, 22, 23, 24, 25, 26, 27, 28, 29, 30, 31], [0, 1, 2, 3, 4, 5, 6, 7, 8, 9, 10, 11, 12, 13, 14, 15, 16, 17, 18, 19, 20, 21, 22, 23, 24, 25, 26, 27, 28, 29, 30, 31, 32, 33], [0, 1, 2, 3, 4, 5, 6, 7, 8, 9, 10, 11, 12, 13, 14, 15, 16, 17, 18, 19, 20, 21, 22, 23, 24, 25, 26, 27, 28, 29, 30, 31], [0, 1, 2, 3, 4, 5, 6, 7, 8, 9, 10, 11, 12, 13, 14, 15, 16, 17, 18, 19, 20, 21, 22, 23, 24, 25, 26, 27, 28, 29, 30, 31, 32, 33, 34, 35], [0, 1, 2, 3, 4, 5, 6, 7, 8, 9, 10, 11, 12, 13, 14, 15, 16, 17, 18, 19, 20, 21, 22, 23, 24, 25, 26, 27, 28, 29, 30, 31, 32, 33, 34, 35, 36], [0, 1, 2, 3, 4, 5, 6, 7, 8, 9, 10, 11, 12, 13, 14, 15, 16, 17, 18, 19, 20, 21, 22, 23, 24, 25, 26, 27, 28, 29, 30, 31, 32, 33, 34, 35, 36, 37], [0, 1, 2, 3, 4, 5, 6, 7, 8, 9, 10, 11, 12, 13, 14, 15, 16, 17, 18, 19, 20, 21, 22, 23, 24, 25, 26, 27, 28, 29, 30, 31, 32, 33, 34, 35, 36, 37, 38], [0, 1, 2, 3, 4, 5, 6, 7, 8, 9, 10, 11, 12, 13, 14, 15, 16, 17, 18, 19, 20, 21, 22, 23, 24, 25, 26, 27, 28, 29, 30, 31, 32, 33, 34, 35, 36, 37, 38], [0, 1, 2, 3, 4, 5, 6, 7, 8, 9, 10, 11, 12, 13, 14, 15, 16, 17, 18, 19, 20, 21, 22, 23, 24, 25, 26, 27, 28, 29, 30, 31, 32, 33, 34, 35, 36, 37, 38, 40], [0, 1, 2, 3, 4, 5, 6, 7, 8, 9, 10, 11, 12, 13, 14, 15, 16, 17, 18, 19, 20, 21, 22, 23, 24, 25, 26, 27, 28, 29, 30, 31, 32, 33, 34, 35, 36, 37, 38, 39, 40, 41], [0, 1, 2, 3, 4, 5, 6, 7, 8, 9, 10, 11, 12, 13, 14, 15, 16, 17, 18, 19, 20, 21, 22, 23, 24, 25, 26, 27, 28, 29, 30, 31, 32, 33, 34, 35, 36, 37, 38], [0, 1, 2, 3, 4, 5, 6, 7, 8, 9, 10, 11, 12, 13, 14, 15, 16, 17, 18, 19, 20, 21, 22, 23, 24, 25, 26, 27, 28, 29, 30, 31, 32, 33, 34, 35, 36, 37, 38, 39, 40, 41, 42, 43], [0, 1, 2, 3, 4, 5, 6, 7, 8, 9, 10, 11, 12, 13, 14, 15, 16, 17, 18, 19, 20, 21, 22, 23, 24, 25, 26, 27, 28, 29, 30, 31, 32, 33, 34, 35, 36, 37, 38, 39, 40, 41, 42, 43, 44]] (cl_lt (by decide)) ?_
    refine HeadR.start (cl_lt (by decide)) ?_
    refine HeadR.det rfl (fun β hβ => (det_loadW59 rfl (List.Mem.tail _ (List.Mem.tail _ (List.Mem.tail _ (List.Mem.head _)))))) ?_
    refine HeadR.det rfl (fun β hβ => (det_loadW59 rfl (List.Mem.tail _ (List.Mem.tail _ (List.Mem.head _))))) ?_
    refine HeadR.det rfl (fun β hβ => (det_call en39 rfl (fun w hb ho => PAdd_ok (fun p hp => ho.look (List.mem_append_right _ hp))))) ?_
    refine HeadR.det rfl (fun β hβ => (det_loadW59 rfl (List.Mem.tail _ (List.Mem.head _)))) ?_
    refine HeadR.det rfl (fun β hβ => (det_call en39 rfl (fun w hb ho => PAdd_ok (fun p hp => ho.look (List.mem_append_right _ hp))))) ?_
    refine HeadR.det rfl (fun β hβ => (det_loadW59 rfl (List.Mem.tail _ (List.Mem.tail _ (List.Mem.tail _ (List.Mem.head _)))))) ?_
    refine HeadR.det rfl (fun β hβ => (det_loadW59 rfl (List.Mem.tail _ (List.Mem.tail _ (List.Mem.head _))))) ?_
    refine HeadR.det rfl (fun β hβ => (det_loadW59 rfl (List.Mem.tail _ (List.Mem.head _)))) ?_
    refine HeadR.det rfl (fun β hβ => (det_call en39 rfl (fun w hb ho => PAdd_ok (fun p hp => ho.look (List.mem_append_right _ hp))))) ?_
    refine HeadR.det rfl (fun β hβ => (det_call en39 rfl (fun w hb ho => PAdd_ok (fun p hp => ho.look (List.mem_append_right _ hp))))) ?_
    refine HeadR.det rfl (fun β hβ => ((det_neq59 (a := padd (padd (gp la) (gp lb)) (gp lc)) (b := padd (gp la) (padd (gp lb) (gp lc))) rfl rfl).to (congrArg Value.bool (nb hr.r1)))) ?_
    refine HeadR.det rfl (fun β hβ => (det_move rfl)) ?_
    refine HeadR.yes rfl rfl (fun _ _ => rfl) (fun β hβ => (det_loadW59 rfl (List.Mem.tail _ (List.Mem.tail _ (List.Mem.tail _ (List.Mem.head _)))))) ?_
    refine HeadR.yes rfl rfl (fun _ _ => rfl) (fun β hβ => (det_loadW59 rfl (List.Mem.tail _ (List.Mem.tail _ (List.Mem.head _))))) ?_
    refine HeadR.yes rfl rfl (fun _ _ => rfl) (fun β hβ => (det_loadW59 rfl (List.Mem.tail _ (List.Mem.head _)))) ?_
    refine HeadR.yesFresh rfl rfl (fun _ _ => rfl) (fun β hβ => (fr_buildSlice rfl (slice64 (p := gp la) (q := gp lb) (r := gp lc))).new) ?_
    refine HeadR.yes rfl rfl (fun _ _ => rfl) (fun β hβ => (det_call en40 rfl (fun w hb ho => PSum_ok (G' := [((β 45).1, blk (cellsP (gp la) ++ cellsP (gp lb) ++ cellsP (gp lc)) 59)]) pts3 (by show 3 ≤ 1000000000000; decide) (blocks_cons (hb _ (List.Mem.head _)) (fun p hp => ho.look (List.mem_append_right _ hp)))))) ?_
    refine HeadR.yes rfl rfl (fun _ _ => rfl) (fun β hβ => (det_loadW59 rfl (List.Mem.tail _ (List.Mem.tail _ (List.Mem.tail _ (List.Mem.head _)))))) ?_
    refine HeadR.yes rfl rfl (fun _ _ => rfl) (fun β hβ => (det_loadW59 rfl (List.Mem.tail _ (List.Mem.tail _ (List.Mem.head _))))) ?_
    refine HeadR.yes rfl rfl (fun _ _ => rfl) (fun β hβ => (det_call en39 rfl (fun w hb ho => PAdd_ok (fun p hp => ho.look (List.mem_append_right _ hp))))) ?_
    refine HeadR.yes rfl rfl (fun _ _ => rfl) (fun β hβ => (det_loadW59 rfl (List.Mem.tail _ (List.Mem.head _)))) ?_
    refine HeadR.yes rfl rfl (fun _ _ => rfl) (fun β hβ => (det_call en39 rfl (fun w hb ho => PAdd_ok (fun p hp => ho.look (List.mem_append_right _ hp))))) ?_
    refine HeadR.yes rfl rfl (fun _ _ => rfl) (fun β hβ => ((det_neq59 (a := psum [gp la, gp lb, gp lc]) (b := padd (padd (gp la) (gp lb)) (gp lc)) rfl rfl).to (congrArg Value.bool (nb hr.r2)))) ?_
    refine HeadR.det rfl (fun β hβ => (det_pick rfl rfl)) ?_
    refine HeadR.det rfl (fun β hβ => (det_move rfl)) ?_
    refine HeadR.yes rfl rfl (fun _ _ => rfl) (fun β hβ => (det_loadW59 rfl (List.Mem.tail _ (List.Mem.tail _ (List.Mem.tail _ (List.Mem.tail _ (List.Mem.head _))))))) ?_
    refine HeadR.yes rfl rfl (fun _ _ => rfl) (fun β hβ => (det_loadW59 rfl (List.Mem.tail _ (List.Mem.head _)))) ?_
    refine HeadR.yes rfl rfl (fun _ _ => rfl) (fun β hβ => (det_call en39 rfl (fun w hb ho => PAdd_ok (fun p hp => ho.look (List.mem_append_right _ hp))))) ?_
    refine HeadR.yes rfl rfl (fun _ _ => rfl) (fun β hβ => (det_loadW59 rfl (List.Mem.tail _ (List.Mem.tail _ (List.Mem.tail _ (List.Mem.tail _ (List.Mem.head _))))))) ?_
    refine HeadR.yes rfl rfl (fun _ _ => rfl) (fun β hβ => ((det_neq59 (a := padd (gp la) (0, 0)) (b := gp la) rfl rfl).to (congrArg Value.bool (nb hr.r3)))) ?_
    refine HeadR.det rfl (fun β hβ => (det_pick rfl rfl)) ?_
    refine HeadR.det rfl (fun β hβ => (det_move rfl)) ?_
    refine HeadR.yes rfl rfl (fun _ _ => rfl) (fun β hβ => (det_loadW59 rfl (List.Mem.tail _ (List.Mem.head _)))) ?_
    refine HeadR.yes rfl rfl (fun _ _ => rfl) (fun β hβ => (det_loadW59 rfl (List.Mem.tail _ (List.Mem.tail _ (List.Mem.tail _ (List.Mem.tail _ (List.Mem.head _))))))) ?_
    refine HeadR.yes rfl rfl (fun _ _ => rfl) (fun β hβ => (det_call en39 rfl (fun w hb ho => PAdd_ok (fun p hp => ho.look (List.mem_append_right _ hp))))) ?_
    refine HeadR.yes rfl rfl (fun _ _ => rfl) (fun β hβ => (det_loadW59 rfl (List.Mem.tail _ (List.Mem.tail _ (List.Mem.tail _ (List.Mem.tail _ (List.Mem.head _))))))) ?_
    refine HeadR.yes rfl rfl (fun _ _ => rfl) (fun β hβ => ((det_neq59 (a := padd (0, 0) (gp la)) (b := gp la) rfl rfl).to (congrArg Value.bool (nb hr.r4)))) ?_
    refine HeadR.det rfl (fun β hβ => (det_pick rfl rfl)) ?_
    refine HeadR.det rfl (fun β hβ => (det_move rfl)) ?_
    refine HeadR.yes rfl rfl (fun _ _ => rfl) (fun β hβ => (det_loadW59 rfl (List.Mem.tail _ (List.Mem.tail _ (List.Mem.tail _ (List.Mem.tail _ (List.Mem.head _))))))) ?_
    refine HeadR.yes rfl rfl (fun _ _ => rfl) (fun β hβ => (det_loadW59 rfl (List.Mem.tail _ (List.Mem.tail _ (List.Mem.tail _ (List.Mem.tail _ (List.Mem.head _))))))) ?_
    refine HeadR.yes rfl rfl (fun _ _ => rfl) (fun β hβ => (det_call en41 rfl (fun w hb ho => PNeg_ok (fun p hp => ho.look (List.mem_append_right _ hp))))) ?_
    refine HeadR.yes rfl rfl (fun _ _ => rfl) (fun β hβ => (det_call en39 rfl (fun w hb ho => PAdd_ok (fun p hp => ho.look (List.mem_append_right _ hp))))) ?_
    refine HeadR.yes rfl rfl (fun _ _ => rfl) (fun β hβ => (det_loadW59 rfl (List.Mem.tail _ (List.Mem.head _)))) ?_
    refine HeadR.yes rfl rfl (fun _ _ => rfl) (fun β hβ => ((det_neq59 (a := padd (gp la) (pneg (gp la))) (b := (0, 0)) rfl rfl).to (congrArg Value.bool (nb hr.r5)))) ?_
    refine HeadR.det rfl (fun β hβ => (det_pick rfl rfl)) ?_
    refine HeadR.done ⟨by kernel_rfl, fun β hβ => ?_⟩
    refine OpsW.norm (F' := ((30, _) :: (31, _) :: (32, _) :: (33, _) :: (34, _) :: (35, _) :: (36, _) :: (37, _) :: (38, _) :: (39, _) :: (40, _) :: (41, _) :: (42, _) :: (43, _) :: (44, _) :: (45, .slice (some ⟨(β 45).1, 0, none⟩) 3 3) :: (46, _) :: (47, _) :: (48, _) :: (49, _) :: (50, _) :: (51, _) :: (52, _) :: (53, _) :: (54, _) :: (55, _) :: (56, _) :: (57, _) :: (58, _) :: (59, _) :: (60, _) :: (61, _) :: (62, _) :: (63, _) :: (64, _) :: (65, _) :: (66, _) :: (67, _) :: (68, _) :: (69, _) :: (70, _) :: (71, _) :: (72, _) :: (73, _) :: (74, _) :: (75, _) :: (10, _) :: (9, _) :: (8, _) :: (7, _) :: [])) (H' := [(_, _), (_, _), (_, _), (_, _), (_, _)]) rfl rfl ?_
    generalize (β 45).1 = b45
    refine sNext ?_
    refine W.keep (F' := [(75, _), (10, _), (8, _), (7, _)]) ⟨rfl, rfl, rfl, rfl, trivial⟩ ?_
    refine W.cond_false rfl ?_
    refine sSkip ?_
    refine sSeq ?_
    refine W.draw mixed 33 [[], [0], [0, 1], [], [0, 1, 2, 3], [0, 1, 2, 3, 4], [0, 1, 2, 3, 4, 5], [0, 1, 2, 3, 4, 5], [0, 1, 2, 3, 4, 5, 6, 7], [0, 1, 2, 3, 4, 5, 6, 7, 8], [0, 1, 2, 3, 4, 5], [0, 1, 2, 3, 4, 5, 6, 7, 8, 9, 10], [0, 1, 2, 3, 4, 5], [0, 1, 2, 3, 4, 5, 6, 7, 8, 9, 10, 11, 12], [0, 1, 2, 3, 4, 5, 6, 7, 8, 9, 10, 11, 12, 13], [0, 1, 2, 3, 4, 5, 6, 7, 8, 9, 10, 11, 12, 13, 14], [0, 1, 2, 3, 4, 5, 6, 7, 8, 9, 10, 11, 12, 13, 14, 15], [0, 1, 2, 3, 4, 5, 6, 7, 8, 9, 10, 11, 12, 13, 14, 15, 16], [0, 1, 2, 3, 4, 5, 6, 7, 8, 9, 10, 11, 12, 13, 14, 15, 16, 17], [0, 1, 2, 3, 4, 5, 6, 7, 8, 9, 10, 11, 12, 13, 14, 15, 16, 17], [0, 1, 2, 3, 4, 5, 6, 7, 8, 9, 10, 11, 12, 13, 14, 15, 16, 17, 18, 19], [0, 1, 2, 3, 4, 5, 6, 7, 8, 9, 10, 11, 12, 13, 14, 15, 16, 17, 18, 19, 20], [0, 1, 2, 3, 4, 5, 6, 7, 8, 9, 10, 11, 12, 13, 14, 15, 16, 17, 18, 19, 20, 21], [0, 1, 2, 3, 4, 5, 6, 7, 8, 9, 10, 11, 12, 13, 14, 15, 16, 17, 18, 19, 20, 21, 22], [0, 1, 2, 3, 4, 5, 6, 7, 8, 9, 10, 11, 12, 13, 14, 15, 16, 17, 18, 19, 20, 21, 22, 23], [0, 1, 2, 3, 4, 5, 6, 7, 8, 9, 10, 11, 12, 13, 14, 15, 16, 17, 18, 19, 20, 21, 22], [0, 1, 2, 3, 4, 5, 6, 7, 8, 9, 10, 11, 12, 13, 14, 15, 16, 17, 18, 19, 20, 21, 22, 23, 24, 25], [0, 1, 2, 3, 4, 5, 6, 7, 8, 9, 10, 11, 12, 13, 14, 15, 16, 17, 18, 19, 20, 21, 22, 23, 24, 25, 26], [0, 1, 2, 3, 4, 5, 6, 7, 8, 9, 10, 11, 12, 13, 14, 15, 16, 17, 18, 19, 20, 21, 22, 23, 24, 25, 26, 27], [0, 1, 2, 3, 4, 5, 6, 7, 8, 9, 10, 11, 12, 13, 14, 15, 16, 17, 18, 19, 20, 21, 22, 23, 24, 25, 26, 27, 28], [0, 1, 2, 3, 4, 5, 6, 7, 8, 9, 10, 11, 12, 13, 14, 15, 16, 17, 18, 19, 20, 21, 22, 23, 24, 25, 26, 27, 28, 29], [0, 1, 2, 3, 4, 5, 6, 7, 8, 9, 10, 11, 12, 13, 14, 15, 16, 17, 18, 19, 20, 21, 22, 23, 24, 25, 26, 27, 28, 29, 30], [0, 1, 2, 3, 4, 5, 6, 7, 8, 9, 10, 11, 12, 13, 14, 15, 16, 17, 18, 19, 20, 21, 22, 23, 24, 25, 26, 27, 28, 29, 30, 31]] (cl_lt (by decide)) ?_
    refine HeadR.start (cl_lt (by decide)) ?_
    refine HeadR.det rfl (fun β hβ => (det_loadW59 rfl (List.Mem.tail _ (List.Mem.tail _ (List.Mem.tail _ (List.Mem.tail _ (List.Mem.head _))))))) ?_
    refine HeadR.det rfl (fun β hβ => (det_call en41 rfl (fun w hb ho => PNeg_ok (fun p hp => ho.look (List.mem_append_right _ hp))))) ?_
    refine HeadR.det rfl (fun β hβ => (det_call en41 rfl (fun w hb ho => PNeg_ok (fun p hp => ho.look (List.mem_append_right _ hp))))) ?_
    refine HeadR.det rfl (fun β hβ => (det_loadW59 rfl (List.Mem.tail _ (List.Mem.tail _ (List.Mem.tail _ (List.Mem.tail _ (List.Mem.head _))))))) ?_
    refine HeadR.det rfl (fun β hβ => ((det_eql59 (a := pneg (pneg (gp la))) (b := gp la) rfl rfl).to (congrArg Value.bool (yb hr.r6)))) ?_
    refine HeadR.det rfl (fun β hβ => (det_move rfl)) ?_
    refine HeadR.yes rfl rfl (fun _ _ => rfl) (fun β hβ => (det_loadW59 rfl (List.Mem.tail _ (List.Mem.tail _ (List.Mem.tail _ (List.Mem.tail _ (List.Mem.head _))))))) ?_
    refine HeadR.yes rfl rfl (fun _ _ => rfl) (fun β hβ => (det_loadW59 rfl (List.Mem.tail _ (List.Mem.tail _ (List.Mem.tail _ (List.Mem.head _)))))) ?_
    refine HeadR.yes rfl rfl (fun _ _ => rfl) (fun β hβ => (det_call en39 rfl (fun w hb ho => PAdd_ok (fun p hp => ho.look (List.mem_append_right _ hp))))) ?_
    refine HeadR.yes rfl rfl (fun _ _ => rfl) (fun β hβ => (det_call en41 rfl (fun w hb ho => PNeg_ok (fun p hp => ho.look (List.mem_append_right _ hp))))) ?_
    refine HeadR.yes rfl rfl (fun _ _ => rfl) (fun β hβ => (det_loadW59 rfl (List.Mem.tail _ (List.Mem.tail _ (List.Mem.tail _ (List.Mem.tail _ (List.Mem.head _))))))) ?_
    refine HeadR.yes rfl rfl (fun _ _ => rfl) (fun β hβ => (det_call en41 rfl (fun w hb ho => PNeg_ok (fun p hp => ho.look (List.mem_append_right _ hp))))) ?_
    refine HeadR.yes rfl rfl (fun _ _ => rfl) (fun β hβ => (det_loadW59 rfl (List.Mem.tail _ (List.Mem.tail _ (List.Mem.tail _ (List.Mem.head _)))))) ?_
    refine HeadR.yes rfl rfl (fun _ _ => rfl) (fun β hβ => (det_call en41 rfl (fun w hb ho => PNeg_ok (fun p hp => ho.look (List.mem_append_right _ hp))))) ?_
    refine HeadR.yes rfl rfl (fun _ _ => rfl) (fun β hβ => (det_call en39 rfl (fun w hb ho => PAdd_ok (fun p hp => ho.look (List.mem_append_right _ hp))))) ?_
    refine HeadR.yes rfl rfl (fun _ _ => rfl) (fun β hβ => ((det_eql59 (a := pneg (padd (gp la) (gp lb))) (b := padd (pneg (gp la)) (pneg (gp lb))) rfl rfl).to (congrArg Value.bool (yb hr.r7)))) ?_
    refine HeadR.det rfl (fun β hβ => (det_pick rfl rfl)) ?_
    refine HeadR.det rfl (fun β hβ => (det_move rfl)) ?_
    refine HeadR.yes rfl rfl (fun _ _ => rfl) (fun β hβ => (det_call en40 rfl (fun w hb ho => PSum_ok (G' := []) pts0 (Nat.zero_le _) (fun p hp => ho.look (List.mem_append_right _ hp))))) ?_
    refine HeadR.yes rfl rfl (fun _ _ => rfl) (fun β hβ => (det_loadW59 rfl (List.Mem.tail _ (List.Mem.head _)))) ?_
    refine HeadR.yes rfl rfl (fun _ _ => rfl) (fun β hβ => ((det_eql59 (a := psum []) (b := (0, 0)) rfl rfl).to (congrArg Value.bool (yb hr.r8)))) ?_
    refine HeadR.det rfl (fun β hβ => (det_pick rfl rfl)) ?_
    refine HeadR.det rfl (fun β hβ => (det_move rfl)) ?_
    refine HeadR.yes rfl rfl (fun _ _ => rfl) (fun β hβ => (det_loadW59 rfl (List.Mem.tail _ (List.Mem.head _)))) ?_
    refine HeadR.yes rfl rfl (fun _ _ => rfl) (fun β hβ => (det_call en41 rfl (fun w hb ho => PNeg_ok (fun p hp => ho.look (List.mem_append_right _ hp))))) ?_
    refine HeadR.yes rfl rfl (fun _ _ => rfl) (fun β hβ => (det_loadW59 rfl (List.Mem.tail _ (List.Mem.head _)))) ?_
    refine HeadR.yes rfl rfl (fun _ _ => rfl) (fun β hβ => ((det_eql59 (a := pneg (0, 0)) (b := (0, 0)) rfl rfl).to (congrArg Value.bool (yb hr.r9)))) ?_
    refine HeadR.det rfl (fun β hβ => (det_pick rfl rfl)) ?_
    refine HeadR.det rfl (fun β hβ => (det_move rfl)) ?_
    refine HeadR.yes rfl rfl (fun _ _ => rfl) (fun β hβ => (det_loadW59 rfl (List.Mem.tail _ (List.Mem.head _)))) ?_
    refine HeadR.yes rfl rfl (fun _ _ => rfl) (fun β hβ => ((det_call en42 rfl (fun w hb ho => POn_ok (p := (0, 0)) (fun p hp => ho.look (List.mem_append_right _ hp)))).to (congrArg Value.bool (hr.r10)))) ?_
    refine HeadR.det rfl (fun β hβ => (det_pick rfl rfl)) ?_
    refine HeadR.det rfl (fun β hβ => (det_assign rfl)) ?_
    refine HeadR.done ⟨by kernel_rfl, fun β hβ => ?_⟩
    refine OpsW.norm (F' := ((76, _) :: (77, _) :: (78, _) :: (79, _) :: (80, _) :: (81, _) :: (82, _) :: (83, _) :: (84, _) :: (85, _) :: (86, _) :: (87, _) :: (88, _) :: (89, _) :: (90, _) :: (91, _) :: (92, _) :: (93, _) :: (94, _) :: (95, _) :: (96, _) :: (97, _) :: (98, _) :: (99, _) :: (100, _) :: (101, _) :: (102, _) :: (103, _) :: (104, _) :: (105, _) :: (106, _) :: (107, _) :: (6, _) :: (75, _) :: (10, _) :: (8, _) :: (7, _) :: [])) (H' := [(_, _), (_, _), (_, _), (_, _), (_, _)]) rfl rfl ?_
    refine sNext ?_
    refine W.keep (F' := [(6, _)]) ⟨rfl, trivial⟩ ?_
    refine sRet ?_
    exact done1 Tryd.results9 (rv_tmp rfl) rfl

end Go.Cw

/- The second group: its points are a group, what the walks compute is its sums and multiples, and the rules that the laws ask for. -/
namespace Go.Cw
open Go.Cu Go.Ec
set_option linter.unusedVariables false
set_option linter.unusedSimpArgs false
set_option linter.unusedSectionVars false
open CR
instance fourGood : Gd four where
  two := by decide +kernel
  three := by decide +kernel
  b := by decide +kernel
/-! ### What the walks compute -/
abbrev G2 := Gp four
theorem pneg_ok (P : G2) : pneg P.1 = (-P).1 := rfl
theorem small_one : small 1 0 = 1 := by decide +kernel
theorem tojac_g (p : Pt) : tojac p = gtoj p := by unfold tojac gtoj; rw [small_one]
theorem jdbl_g (j : Jac) : jdbl j = gdbl j := rfl
theorem jadd_g (j : Jac) (q : Pt) : jadd j q = gadd j q := by
  unfold jadd gadd
  rw [tojac_g]; rfl
theorem point_g (j : Jac) : point j = gpt j := rfl
theorem padd_ok (P Q : G2) : padd P.1 Q.1 = (P + Q).1 := by
  have h := (gadd_ok (JOk.toj P.2) Q.2).1
  rw [gpt_toj] at h
  unfold padd
  rw [tojac_g, jadd_g, point_g]
  exact h
theorem stp_one (p : Pt) (j : Jac) : stp p 1 j = gadd j p := jadd_g j p
theorem stp_neg (p : Pt) (j : Jac) : stp p (-1) j = gadd j (pneg p) := jadd_g j (pneg p)
theorem stp_ok {j : Jac} {x : G2} (P : G2) (d : Int) (hj : JOk four j) (h : gpt j = x.1) (hd : d = 0 ∨ d = 1 ∨ d = -1) {v : Nat} (hx : x = nmul (2 * v) P) {u : Nat} (hu : (u : Int) = 2 * v + d) :
    JOk four (stp P.1 d j) ∧ gpt (stp P.1 d j) = (nmul u P).1 := by
  rcases hd with rfl | rfl | rfl
  · have e : u = 2 * v := by omega
    rw [e, ← hx, show stp P.1 0 j = j from rfl]
    exact ⟨hj, h⟩
  · have e : u = 2 * v + 1 := by omega
    rw [e, nmul, ← hx, stp_one]
    exact step_add P hj h
  · have e : 2 * v = u + 1 := by omega
    have h1 := step_add (-P) hj h
    have e2 : x + -P = nmul u P := by rw [hx, e, nmul, AG.aassoc, a_neg, a_zero]
    rw [e2] at h1
    rw [stp_neg, pneg_ok]
    exact h1
theorem jl_ok {l : List Nat} (hs : ∀ c ∈ l, c < 256) (P : G2) : ∀ m, m ≤ 8 * l.length + 1 → JOk four (jl l P.1 m) ∧ gpt (jl l P.1 m) = (nmul (upv l (8 * l.length + 1 - m)) P).1
  | 0, _ => by
    rw [Nat.sub_zero, upv_top hs]
    exact jzero_ok
  | m + 1, h => by
    obtain ⟨h1, h2⟩ := jl_ok hs P m (by omega)
    obtain ⟨h3, h4⟩ := step_dbl h1 h2
    have hk := upv_step hs (8 * l.length - m)
    rw [show 8 * l.length - m + 1 = 8 * l.length + 1 - m by omega] at hk
    have := stp_ok P (dg l (8 * l.length - m)) h3 h4 (dg_cases _ _) (v := upv l (8 * l.length + 1 - m)) (by rw [Nat.mul_comm 2, nmul_mul, nmul_two]) hk
    rw [show 8 * l.length + 1 - (m + 1) = 8 * l.length - m by omega, jl, jdbl_g]
    exact this
theorem times_ok {l : List Nat} (hs : ∀ c ∈ l, c < 256) (P : G2) : times l P.1 = (nmul (beN l) P).1 := by
  have h := (jl_ok hs P (8 * l.length + 1) (Nat.le_refl _)).2
  rw [Nat.sub_self, upv_zero] at h
  exact h
theorem pmul_ok (P : G2) (x : Fs) : pmul P.1 x = (nmul x.val P).1 := by
  unfold pmul
  rw [times_ok (blist_small x), blist_val]
theorem psum_ok (l : List G2) : psum (l.map (·.1)) = (l.foldl (· + ·) 0).1 := by
  unfold psum jsum
  rw [show (fun (j : Jac) (p : Pt) => jadd j p) = gadd from funext fun j => funext fun p => jadd_g j p, point_g]
  exact (step_sums l jzero_ok.1 jzero_ok.2).2
theorem onB_ok {p : Pt} (h : On four p) : onB p = true := by
  unfold onB
  rcases h with h | h
  · rw [decide_eq_true h]; rfl
  · rw [decide_eq_true (show p.2 * p.2 = p.1 * p.1 * p.1 + four from h), Bool.or_true]
theorem on_of {p : Pt} (h : onB p = true) : On four p := by
  unfold onB at h
  rcases Bool.or_eq_true_iff.1 h with h | h
  · exact .inl (of_decide_eq_true h)
  · exact .inr (show p.2 * p.2 = p.1 * p.1 * p.1 + four from of_decide_eq_true h)

/-! ### The generator -/
theorem gen_on : onB gen = true := by decide +kernel
/-- The generator, as an element of the curve's group. -/
def gG : G2 := ⟨gen, on_of gen_on⟩
theorem gG_order : nmul rr gG = 0 := nmul_zero_of (f := 256) (by decide) (by decide +kernel)
theorem gp_ok (l : List Nat) : gp l = (nmul (wide l).val gG).1 := pmul_ok gG (wide l)
theorem gen_ne : gen ≠ (0, 0) := by decide +kernel
theorem gen_two : gen ≠ pneg gen := by decide +kernel
theorem headOk : HeadOk where
  h1 := gen_on
  h2 := onB_ok (by rw [show gen = gG.1 from rfl, padd_ok]; exact (gG + gG).2)
  h3 := by
    rw [show gen = gG.1 from rfl, padd_ok]
    refine Bool.not_eq_true' _ ▸ decide_eq_false fun h => gen_ne ?_
    have h1 : gG + gG = gG + 0 := by rw [a_zero]; exact Gp.ext h
    exact congrArg (fun x : G2 => x.1) (a_cancel h1)
  h4 := by
    rw [show gen = gG.1 from rfl, padd_ok]
    refine Bool.not_eq_true' _ ▸ decide_eq_false fun h => gen_two ?_
    have h1 : gG + gG = 0 := Gp.ext h
    exact congrArg (fun x : G2 => x.1) (a_neg_eq h1)
  h5 := decide_eq_true (by
    rw [show gen = gG.1 from rfl, times_ok two_small, padd_ok, show beN [2] = 2 from rfl, nmul_two])
  h6 := decide_eq_true (by
    rw [show gen = gG.1 from rfl, pneg_ok, padd_ok, a_neg]; rfl)
  h7 := by decide +kernel
theorem rulesOk (P Q R : G2) : RulesOk P.1 Q.1 R.1 where
  r1 := by rw [padd_ok, padd_ok, padd_ok, padd_ok, AG.aassoc]
  r2 := by
    rw [padd_ok, padd_ok]
    have := psum_ok [P, Q, R]
    simp only [List.map_cons, List.map_nil, List.foldl_cons, List.foldl_nil, AG.zero_a] at this
    exact this
  r3 := by have := padd_ok P 0; rw [a_zero] at this; exact this
  r4 := by have := padd_ok 0 P; rw [AG.zero_a] at this; exact this
  r5 := by rw [pneg_ok, padd_ok, a_neg]; rfl
  r6 := by rw [pneg_ok, pneg_ok, a_neg_neg]
  r7 := by rw [pneg_ok, pneg_ok, padd_ok, padd_ok, pneg_ok, a_neg_add]
  r8 := psum_ok []
  r9 := rfl
  r10 := by decide +kernel
theorem rulesOk_gp (a b c : List Nat) : RulesOk (gp a) (gp b) (gp c) := by
  rw [gp_ok, gp_ok, gp_ok]; exact rulesOk _ _ _
end Go.Cw

/- The second group's laws: G2Lists: the walk. Conditions: the rules that the points obey. -/
namespace Go.Cw
open Go Go.Vm Go.RowKit Go.Proofs Go.Cu
attribute [local irreducible] W OpsW Det Fresh New Writes Vm.Pure Makes Changes ExternTo BuildTo ZeroTo FieldTo IndexTo BinTo SliceTo Vm.Enters
set_option linter.unusedVariables false
set_option linter.unusedSimpArgs false
variable {T : Nat → TypeId × Nat × Nat}

abbrev cellsL (L : List Pt) : List Value := (L.map cellsP).flatten
theorem cellsP_length (p : Pt) : (cellsP p).length = 24 := rfl
theorem cellsP_all (p : Pt) : (cellsP p).all (·.oneCell') = true := rfl
def lpt (fl : Nat → Bool) (ls : List (List Nat)) (i : Nat) : Pt := if fl i = true then pneg (gp (ls.getD i [])) else gp (ls.getD i [])
def lpts (f : Nat → Pt) (n : Nat) : List Pt := (List.range n).map f
theorem lpts_succ (f : Nat → Pt) (n : Nat) : lpts f (n + 1) = lpts f n ++ [f n] := by unfold lpts; rw [List.range_succ, List.map_append]; rfl
theorem lpts_len (f : Nat → Pt) (n : Nat) : (lpts f n).length = n := by unfold lpts; rw [List.length_map, List.length_range]
def nsum (f : Nat → Pt) : Nat → Pt
  | 0 => (0, 0)
  | i + 1 => padd (nsum f i) (f i)
def bsum (f : Nat → Pt) (n : Nat) : Nat → Pt
  | 0 => (0, 0)
  | k + 1 => padd (bsum f n k) (f (n - 1 - k))
structure ListsOk (f : Nat → Pt) (g : Nat → Fs) (n : Nat) : Prop where
  l1 : psum (lpts f n) = nsum f n
  l2 : bsum f n n = nsum f n
  l3 : nsum f n = pmul gen (xsum g n)
  l4 : psum (lpts f n ++ [pneg (nsum f n)]) = (0, 0)
theorem lpt_yes {fl : Nat → Bool} {ls : List (List Nat)} {i : Nat} (h : i < ls.length) (hf : fl i = true) : lpt fl ls i = pneg (pmul gen (wide ls[i])) := by unfold lpt; rw [if_pos hf, getD_at h]; rfl
theorem lpt_no {fl : Nat → Bool} {ls : List (List Nat)} {i : Nat} (h : i < ls.length) (hf : fl i = false) : lpt fl ls i = pmul gen (wide ls[i]) := by unfold lpt; rw [if_neg (by rw [hf]; decide), getD_at h]; rfl
theorem sliceOne {p : Pt} : SliceTo Tryd.prog 64 1 [(0, encP p)] (cellsP p) 59 := SliceTo.of fun _ => by kernel_rfl
theorem sliceNil : SliceTo Tryd.prog 64 0 [] [] 59 := SliceTo.of fun _ => by kernel_rfl
theorem ptsL {L : List Pt} {sp : List Value} {b n cap : Nat} (hn : L.length = n) : Pts [(b, blk (cellsL L ++ sp) 59)] (.slice (some ⟨b, 0, none⟩) n cap) L := by
  subst hn
  exact ⟨⟨_, _, rfl⟩, fun i h => ⟨b, 0, cap, _, 59, (0, 0), rfl, List.mem_singleton.2 rfl, by rw [Nat.zero_add]; exact flat_cut cellsP_length sp h⟩⟩
theorem cellsL_snoc (L : List Pt) (q : Pt) : cellsL (L ++ [q]) = cellsL L ++ cellsP q := flat_snoc cellsP L q
theorem ptsL1 {q : Pt} {sp : List Value} {b cap : Nat} : Pts [(b, blk (cellsP q ++ sp) 59)] (.slice (some ⟨b, 0, none⟩) 1 cap) [q] := by
  have := ptsL (L := [q]) (sp := sp) (b := b) (cap := cap) (n := 1) rfl
  rwa [show cellsL [q] = cellsP q from List.append_nil _] at this
theorem back_at {f : Nat → Pt} {n k : Nat} {sp : List Value} (h : k < n) : cut (0 + ((n : Int) - 1 - (k : Nat)).toNat * 24) 24 (cellsL (lpts f n) ++ sp) = some (cellsP (f (n - 1 - k))) := by
  rw [show ((n : Int) - 1 - (k : Nat)).toNat = n - 1 - k by omega, Nat.zero_add, flat_cut cellsP_length sp (i := n - 1 - k) (by rw [lpts_len]; omega)]
  unfold lpts
  rw [List.getElem_map, List.getElem_range]
attribute [local irreducible] pmul times padd pneg psum wide gen sqrt2

theorem sl64 : TyS Tryd.prog 64 59 24 192 [.int .u64 0, .int .u64 0, .int .u64 0, .int .u64 0, .int .u64 0, .int .u64 0, .int .u64 0, .int .u64 0, .int .u64 0, .int .u64 0, .int .u64 0, .int .u64 0, .int .u64 0, .int .u64 0, .int .u64 0, .int .u64 0, .int .u64 0, .int .u64 0, .int .u64 0, .int .u64 0, .int .u64 0, .int .u64 0, .int .u64 0, .int .u64 0] := ⟨by kernel_rfl, by kernel_rfl, by kernel_rfl, ⟨(.agg #[.int .u64 0, .int .u64 0, .int .u64 0, .int .u64 0, .int .u64 0, .int .u64 0, .int .u64 0, .int .u64 0, .int .u64 0, .int .u64 0, .int .u64 0, .int .u64 0, .int .u64 0, .int .u64 0, .int .u64 0, .int .u64 0, .int .u64 0, .int .u64 0, .int .u64 0, .int .u64 0, .int .u64 0, .int .u64 0, .int .u64 0, .int .u64 0]), by kernel_rfl, by kernel_rfl⟩, rfl, by decide⟩
set_option maxHeartbeats 8000000 in
set_option maxRecDepth 100000 in
theorem G2Lists_ok {G' : Hp} {v : Value} {ls : List (List Nat)} {how : Int} (hB : Bss G' v ls) (hh : HeadOk) (hr : ListsOk (lpt (flipB how) ls) (lsc (flipB how) ls) ls.length) {w : World} (hG : Blocks (G' ++ GH T) w)  : Vm.Pure Tryd.prog 10 #[v, .int .i64 how] w (.bool true) := by
  obtain ⟨ad, capk, hvv⟩ := hB.shape
  refine pure_of_W (n := 103) (args := [v, .int .i64 how]) Tryd.func10 rfl Tryd.ntmps10 (Nat.le_of_ble_eq_true rfl) hG ?_
  refine sStart ?_
  refine sSeq ?_
  subst hvv
  refine W.region ?_
  refine OpsW.det (det_assign rfl) rfl ?_
  refine sNext ?_
  refine W.keep (F' := [(0, _), (1, _)]) ⟨rfl, rfl, trivial⟩ ?_
  refine sSeq ?_
  refine sSeq ?_
  refine W.region ?_
  refine OpsW.det (det_call en34 rfl (fun w hb ho => head_ok hh (fun p hp => ho.look (List.mem_append_right _ hp)))) rfl ?_
  refine OpsW.det (det_not rfl) rfl ?_
  refine sNext ?_
  refine W.keep (F' := [(16, _), (0, _), (1, _)]) ⟨rfl, rfl, rfl, trivial⟩ ?_
  refine W.cond_false rfl ?_
  refine sSkip ?_
  refine sSeq ?_
  refine sSeq ?_
  refine W.region ?_
  refine OpsW.det (det_move rfl) rfl ?_
  refine OpsW.det (det_len u44 rfl) rfl ?_
  refine OpsW.det (det_gtr rfl rfl) rfl ?_
  refine sNext ?_
  refine W.keep (F' := [(19, _), (0, _), (1, _)]) ⟨rfl, rfl, rfl, trivial⟩ ?_
  refine W.cond rfl (fun hc19 => ?_) (fun hc19 => ?_)
  · skip
    refine sSeq ?_
    refine W.region ?_
    refine OpsW.det (det_assign rfl) rfl ?_
    refine sNext ?_
    refine W.keep (F' := [(4, _)]) ⟨rfl, trivial⟩ ?_
    refine sRet ?_
    exact done1 Tryd.results10 (rv_tmp rfl) rfl
  · skip
    have h6 : ls.length ≤ 6 := by have h := hc19; simp only [decide_eq_false_iff_not] at h; omega
    refine sSkip ?_
    refine sSeq ?_
    refine W.region ?_
    refine OpsW.fresh (fr_buildSlice rfl sliceNil) rfl fun b20 => ?_
    refine OpsW.det (det_assign rfl) rfl ?_
    refine sNext ?_
    refine W.keep (F' := [(5, _), (0, _), (1, _)]) ⟨rfl, rfl, rfl, trivial⟩ ?_
    refine sSeq ?_
    refine W.region ?_
    refine OpsW.det (det_zero bz59) rfl ?_
    refine OpsW.fresh (fr_alloc z59r) rfl fun b6 => ?_
    refine OpsW.storeW59 rfl rfl (Upd.here) ?_
    refine sNext ?_
    refine W.keep (F' := [(6, _), (5, _), (0, _), (1, _)]) ⟨rfl, rfl, rfl, rfl, trivial⟩ ?_
    refine sSeq ?_
    refine W.region ?_
    refine OpsW.det (det_zero bz35) rfl ?_
    refine OpsW.fresh (fr_alloc z35r) rfl fun b7 => ?_
    refine OpsW.storeW35 rfl rfl (Upd.here) ?_
    refine sNext ?_
    refine W.keep (F' := [(7, _), (6, _), (5, _), (0, _), (1, _)]) ⟨rfl, rfl, rfl, rfl, rfl, trivial⟩ ?_
    refine sSeq ?_
    refine sSeq ?_
    refine W.region ?_
    refine OpsW.det (det_move rfl) rfl ?_
    refine OpsW.det (det_len u44 rfl) rfl ?_
    refine OpsW.det (det_move rfl) rfl ?_
    refine sNext ?_
    refine W.keep (F' := [(25, _), (24, _), (23, _), (7, _), (6, _), (5, _), (1, _)]) ⟨rfl, rfl, rfl, rfl, rfl, rfl, rfl, trivial⟩ ?_
    refine sBlock ?_
    refine W.perm (H' := [(b20, _), (b7, _), (b6, _)]) ((List.Perm.swap _ _ _).trans ((List.Perm.swap _ _ _).cons _)) ?_
    refine sLoop (σ := Nat × Nat × Nat × List Value) (fun s => [(25, .int .i64 (s.1 : Nat)), (24, .int .i64 (ls.length : Nat)), (23, .slice ad ls.length capk), (7, .pointer (some ⟨b7, 0, none⟩)), (6, .pointer (some ⟨b6, 0, none⟩)), (5, .slice (some ⟨s.2.1, 0, none⟩) s.1 s.2.2.1), (1, .int .i64 how)]) (fun s => [(s.2.1, blk (cellsL (lpts (lpt (flipB how) ls) s.1) ++ s.2.2.2) 59), (b7, blk (cellsR (xsum (lsc (flipB how) ls) s.1)) 35), (b6, blk (cellsP (nsum (lpt (flipB how) ls) s.1)) 59)]) (fun s => s.1 ≤ ls.length ∧ (cellsL (lpts (lpt (flipB how) ls) s.1) ++ s.2.2.2).length = s.2.2.1 * 24 ∧ s.2.2.1 ≤ maxLen) (fun s => ls.length - s.1) (0, b20, 0, []) ⟨Nat.zero_le _, rfl, Nat.zero_le _⟩ ⟨rfl, rfl, rfl, rfl, rfl, rfl, rfl, trivial⟩ (List.Sublist.cons_cons _ (List.Sublist.refl _)) ?_
    rintro ⟨i, bs, cap, sp⟩ ⟨hi, h2, h3⟩
    change i ≤ ls.length at hi
    change (cellsL (lpts (lpt (flipB how) ls) i) ++ sp).length = cap * 24 at h2
    change cap ≤ maxLen at h3
    refine W.norm (F' := [(25, .int .i64 (i : Nat)), (24, .int .i64 (ls.length : Nat)), (23, .slice ad ls.length capk), (7, .pointer (some ⟨b7, 0, none⟩)), (6, .pointer (some ⟨b6, 0, none⟩)), (5, .slice (some ⟨bs, 0, none⟩) i cap), (1, .int .i64 how)]) (H' := [(bs, blk (cellsL (lpts (lpt (flipB how) ls) i) ++ sp) 59), (b7, blk (cellsR (xsum (lsc (flipB how) ls) i)) 35), (b6, blk (cellsP (nsum (lpt (flipB how) ls) i)) 59)]) rfl rfl ?_
    refine sSeq ?_
    refine W.region ?_
    refine OpsW.det (det_lss rfl rfl) rfl ?_
    refine sNext ?_
    refine sSeq ?_
    refine W.cond rfl (fun hc26 => ?_) (fun hc26 => ?_)
    · skip
      have hlt : i < ls.length := by have h := hc26; simp only [decide_eq_true_eq] at h; omega
      obtain ⟨bk, o, cap', cs, e, fr, u, hv, hm, hcell, hBu⟩ := hB.at_ i hlt
      simp only [Value.slice.injEq] at hv
      obtain ⟨rfl, _, rfl⟩ := hv
      obtain ⟨adu, capu, rfl⟩ := hBu.shape
      refine sSkip ?_
      refine sSeq ?_
      refine sBlock ?_
      refine sSeq ?_
      refine W.region ?_
      refine OpsW.det (det_move rfl) rfl ?_
      refine OpsW.det (det_indexAddr_sl u44 sz22 rfl rfl ⟨by omega, by omega⟩) rfl ?_
      refine OpsW.det (det_loadC_ro tc22 rfl (List.mem_append_left _ hm) (show cs[o + ((i : Nat) : Int).toNat * 1]? = some (.slice adu ls[i].length capu) by rw [Int.toNat_natCast, Nat.mul_one]; exact hcell)) rfl ?_
      refine OpsW.det (det_assign rfl) rfl ?_
      refine OpsW.det (det_assign rfl) rfl ?_
      refine sNext ?_
      refine W.keep (F' := [(9, _), (8, _), (25, _), (24, _), (23, _), (7, _), (6, _), (5, _), (1, _)]) ⟨rfl, rfl, rfl, rfl, rfl, rfl, rfl, rfl, rfl, trivial⟩ ?_
      refine sSeq ?_
      refine sSeq ?_
      refine W.region ?_
      refine OpsW.det (det_move rfl) rfl ?_
      refine OpsW.det (det_len u22 rfl) rfl ?_
      refine OpsW.det (det_gtr rfl rfl) rfl ?_
      refine sNext ?_
      refine W.keep (F' := [(32, _), (9, _), (8, _), (25, _), (24, _), (23, _), (7, _), (6, _), (5, _), (1, _)]) ⟨rfl, rfl, rfl, rfl, rfl, rfl, rfl, rfl, rfl, rfl, trivial⟩ ?_
      refine W.cond rfl (fun hc32 => ?_) (fun hc32 => ?_)
      · skip
        refine sSeq ?_
        refine W.region ?_
        refine OpsW.det (det_assign rfl) rfl ?_
        refine sNext ?_
        refine W.keep (F' := [(4, _)]) ⟨rfl, trivial⟩ ?_
        refine sRet ?_
        refine retBlk ?_
        refine retLoop ?_
        refine retBlk ?_
        exact done1 Tryd.results10 (rv_tmp rfl) rfl
      · skip
        have hl : ls[i].length ≤ 100 := by have h := hc32; simp only [decide_eq_false_iff_not] at h; omega
        refine sSkip ?_
        refine sSeq ?_
        refine W.region ?_
        refine OpsW.det (det_move rfl) rfl ?_
        refine OpsW.det (det_call en38 rfl (fun w hb ho => scalar_ok (G' := G') hBu (Nat.le_trans hl (by decide)) ho.blocks)) rfl ?_
        refine OpsW.fresh (fr_alloc z35r) rfl fun b10 => ?_
        refine OpsW.storeW35 rfl rfl (Upd.here) ?_
        refine sNext ?_
        refine W.keep (F' := [(10, _), (8, _), (25, _), (24, _), (23, _), (7, _), (6, _), (5, _), (1, _)]) ⟨rfl, rfl, rfl, rfl, rfl, rfl, rfl, rfl, rfl, trivial⟩ ?_
        refine sSeq ?_
        refine W.draw mixed 4 [[], [], [0, 1], [], [0, 1, 2, 3]] (cl_lt (by decide)) ?_
        refine HeadR.start (cl_lt (by decide)) ?_
        refine HeadR.det rfl (fun β hβ => (det_call en36 rfl (fun w hb ho => Gen_ok (fun p hp => ho.look (List.mem_append_right _ hp))))) ?_
        refine HeadR.det rfl (fun β hβ => (det_loadW35 rfl (List.Mem.head _))) ?_
        refine HeadR.det rfl (fun β hβ => (det_call en37 rfl (fun w hb ho => PMul_ok (fun p hp => ho.look (List.mem_append_right _ hp))))) ?_
        refine HeadR.fresh rfl (fun β hβ => (fr_alloc z59r).new) ?_
        refine HeadR.done ⟨by kernel_rfl, fun β hβ => ?_⟩
        refine OpsW.norm (F' := [(35, _), (36, _), (37, _), (11, .pointer (some ⟨(β 11).1, 0, none⟩)), (10, _), (8, _), (25, _), (24, _), (23, _), (7, _), (6, _), (5, _), (1, _)]) (H' := [(_, _), (_, _), (_, _), (_, _), (_, _)]) rfl rfl ?_
        generalize (β 11).1 = b11
        refine OpsW.storeW59 rfl rfl (Upd.here) ?_
        refine sNext ?_
        refine W.keep (F' := [(11, _), (10, _), (8, _), (25, _), (24, _), (23, _), (7, _), (6, _), (5, _), (1, _)]) ⟨rfl, rfl, rfl, rfl, rfl, rfl, rfl, rfl, rfl, rfl, trivial⟩ ?_
        refine sSeq ?_
        refine sSeq ?_
        refine W.region ?_
        refine OpsW.det (det_move rfl) rfl ?_
        refine OpsW.det (det_move rfl) rfl ?_
        refine OpsW.det ((det_and (a := (i : Int)) (b := 7) rfl rfl).to (v := .int .i64 ((i % 8 : Nat) : Int)) (by rw [and7 (by omega)])) rfl ?_
        refine OpsW.det ((det_conv u3 u46 rfl).to (v := u64 (i % 8)) (by rw [wrap_u64 (by omega)]; rfl)) rfl ?_
        refine OpsW.det (det_shr (b := ((i % 8 : Nat) : Int)) rfl rfl (by omega)) rfl ?_
        refine OpsW.det (det_and rfl rfl) rfl ?_
        refine OpsW.det ((det_eql (b := 1) rfl rfl).to (v := .bool (flipB how i)) rfl) rfl ?_
        refine sNext ?_
        refine W.keep (F' := [(44, _), (11, _), (10, _), (25, _), (24, _), (23, _), (7, _), (6, _), (5, _), (1, _)]) ⟨rfl, rfl, rfl, rfl, rfl, rfl, rfl, rfl, rfl, rfl, trivial⟩ ?_
        refine W.cond rfl (fun hc44 => ?_) (fun hc44 => ?_)
        · skip
          refine sSeq ?_
          refine W.region ?_
          refine OpsW.det (det_loadW59 rfl (List.Mem.head _)) rfl ?_
          refine OpsW.det (det_call en41 rfl (fun w hb ho => PNeg_ok (fun p hp => ho.look (List.mem_append_right _ hp)))) rfl ?_
          refine OpsW.storeW59 rfl rfl (Upd.here) ?_
          refine sNext ?_
          refine W.keep (F' := [(11, _), (10, _), (25, _), (24, _), (23, _), (7, _), (6, _), (5, _), (1, _)]) ⟨rfl, rfl, rfl, rfl, rfl, rfl, rfl, rfl, rfl, trivial⟩ ?_
          refine W.region ?_
          refine OpsW.det (det_loadW35 rfl (List.Mem.tail _ (List.Mem.head _))) rfl ?_
          refine OpsW.det (det_call en27 rfl (fun w hb ho => Cu.RNeg_ok (fun p hp => ho.look (List.mem_append_right _ hp)))) rfl ?_
          refine OpsW.storeW35 rfl rfl (Upd.there (Upd.here)) ?_
          refine sNext ?_
          refine W.keep (F' := [(11, _), (10, _), (25, _), (24, _), (23, _), (7, _), (6, _), (5, _), (1, _)]) ⟨rfl, rfl, rfl, rfl, rfl, rfl, rfl, rfl, rfl, trivial⟩ ?_
          refine sSeq ?_
          refine W.region ?_
          refine OpsW.det (det_move rfl) rfl ?_
          refine OpsW.det (det_loadW59 rfl (List.Mem.head _)) rfl ?_
          refine OpsW.fresh (fr_buildSlice rfl (sliceOne (p := (pneg (pmul gen (wide ls[i])))))) rfl fun b51 => ?_
          refine OpsW.front3 ?_
          refine OpsW.append (hp := [(bs, blk (cellsL (lpts (lpt (flipB how) ls) i) ++ sp) 59)]) (xs := cellsL (lpts (lpt (flipB how) ls) i)) (len := i) (news := cellsP (pneg (pmul gen (wide ls[i])))) sl64 rfl (.at_ (by rw [flat_len cellsP_length, lpts_len]) h2 h3) rfl (.inl (List.Mem.tail _ (List.Mem.head _))) rfl (fun j u hj => by rw [Nat.zero_add]; exact hj) (cellsP_all _) (max_le (by omega)) (room_le (by omega) (by decide)) rfl ?_
          intro v' hp' hsl
          obtain ⟨bn, capn, spn, rfl, rfl, h2n, h3n⟩ := isSl_pos hsl (Nat.succ_pos _)
          refine OpsW.norm (F' := [(52, .slice (some ⟨bn, 0, none⟩) (i + 1) capn), (51, _), (50, _), (49, _), (11, _), (10, _), (25, _), (24, _), (23, _), (7, _), (6, _), (5, _), (1, _)]) (H' := [(_, _), (_, _), (_, _), (_, _), (_, _), (_, _)]) rfl rfl ?_
          refine OpsW.det (det_assign rfl) rfl ?_
          refine sNext ?_
          refine W.keep (F' := [(5, _), (11, _), (10, _), (25, _), (24, _), (23, _), (7, _), (6, _), (1, _)]) ⟨rfl, rfl, rfl, rfl, rfl, rfl, rfl, rfl, rfl, trivial⟩ ?_
          refine sSeq ?_
          refine W.region ?_
          refine OpsW.det (det_loadW59 rfl (List.Mem.tail _ (List.Mem.tail _ (List.Mem.tail _ (List.Mem.tail _ (List.Mem.tail _ (List.Mem.head _))))))) rfl ?_
          refine OpsW.det (det_loadW59 rfl (List.Mem.tail _ (List.Mem.tail _ (List.Mem.head _)))) rfl ?_
          refine OpsW.det (det_call en39 rfl (fun w hb ho => PAdd_ok (fun p hp => ho.look (List.mem_append_right _ hp)))) rfl ?_
          refine OpsW.storeW59 rfl rfl (Upd.there (Upd.there (Upd.there (Upd.there (Upd.there (Upd.here)))))) ?_
          refine sNext ?_
          refine W.keep (F' := [(5, _), (10, _), (25, _), (24, _), (23, _), (7, _), (6, _), (1, _)]) ⟨rfl, rfl, rfl, rfl, rfl, rfl, rfl, rfl, trivial⟩ ?_
          refine W.region ?_
          refine OpsW.det (det_loadW35 rfl (List.Mem.tail _ (List.Mem.tail _ (List.Mem.tail _ (List.Mem.tail _ (List.Mem.head _)))))) rfl ?_
          refine OpsW.det (det_loadW35 rfl (List.Mem.tail _ (List.Mem.tail _ (List.Mem.tail _ (List.Mem.head _))))) rfl ?_
          refine OpsW.det (det_call en28 rfl (fun w hb ho => Cu.RAdd_ok (fun p hp => ho.look (List.mem_append_right _ hp)))) rfl ?_
          refine OpsW.storeW35 rfl rfl (Upd.there (Upd.there (Upd.there (Upd.there (Upd.here))))) ?_
          refine sLast ?_
          refine bNext ?_
          refine W.keep (F' := [(5, _), (25, _), (24, _), (23, _), (7, _), (6, _), (1, _)]) ⟨rfl, rfl, rfl, rfl, rfl, rfl, rfl, trivial⟩ ?_
          refine W.region ?_
          refine OpsW.det (det_addN (b := 1) rfl rfl (by omega)) rfl ?_
          refine OpsW.det (det_move rfl) rfl ?_
          refine sLast ?_
          have e1 : cellsL (lpts (lpt (flipB how) ls) (i + 1)) = cellsL (lpts (lpt (flipB how) ls) i) ++ cellsP (pneg (pmul gen (wide ls[i]))) := by rw [lpts_succ, cellsL_snoc, lpt_yes hlt hc44]
          have e2 : xsum (lsc (flipB how) ls) (i + 1) = xsum (lsc (flipB how) ls) i + (0 - wide ls[i]) := by rw [xsum, lsc_yes hlt hc44]
          have e3 : nsum (lpt (flipB how) ls) (i + 1) = padd (nsum (lpt (flipB how) ls) i) (pneg (pmul gen (wide ls[i]))) := by rw [nsum, lpt_yes hlt hc44]
          refine rEnd (i + 1, bn, capn, spn) ⟨hlt, ?_, h3n⟩ ⟨rfl, rfl, rfl, rfl, rfl, rfl, rfl, trivial⟩ ?_ (step_lt hlt)
          · show (cellsL (lpts (lpt (flipB how) ls) (i + 1)) ++ spn).length = capn * 24
            rw [e1]; exact h2n
          · show List.Sublist [(bn, blk (cellsL (lpts (lpt (flipB how) ls) (i + 1)) ++ spn) 59), (b7, blk (cellsR (xsum (lsc (flipB how) ls) (i + 1))) 35), (b6, blk (cellsP (nsum (lpt (flipB how) ls) (i + 1))) 59)] _
            rw [e1, e2, e3]
            exact List.Sublist.cons_cons _ (List.Sublist.cons _ (List.Sublist.cons _ (List.Sublist.cons _ (List.Sublist.refl _))))
        · skip
          refine sSkip ?_
          refine sSeq ?_
          refine W.region ?_
          refine OpsW.det (det_move rfl) rfl ?_
          refine OpsW.det (det_loadW59 rfl (List.Mem.head _)) rfl ?_
          refine OpsW.fresh (fr_buildSlice rfl (sliceOne (p := (pmul gen (wide ls[i]))))) rfl fun b51 => ?_
          refine OpsW.front3 ?_
          refine OpsW.append (hp := [(bs, blk (cellsL (lpts (lpt (flipB how) ls) i) ++ sp) 59)]) (xs := cellsL (lpts (lpt (flipB how) ls) i)) (len := i) (news := cellsP (pmul gen (wide ls[i]))) sl64 rfl (.at_ (by rw [flat_len cellsP_length, lpts_len]) h2 h3) rfl (.inl (List.Mem.tail _ (List.Mem.head _))) rfl (fun j u hj => by rw [Nat.zero_add]; exact hj) (cellsP_all _) (max_le (by omega)) (room_le (by omega) (by decide)) rfl ?_
          intro v' hp' hsl
          obtain ⟨bn, capn, spn, rfl, rfl, h2n, h3n⟩ := isSl_pos hsl (Nat.succ_pos _)
          refine OpsW.norm (F' := [(52, .slice (some ⟨bn, 0, none⟩) (i + 1) capn), (51, _), (50, _), (49, _), (44, _), (11, _), (10, _), (25, _), (24, _), (23, _), (7, _), (6, _), (5, _), (1, _)]) (H' := [(_, _), (_, _), (_, _), (_, _), (_, _), (_, _)]) rfl rfl ?_
          refine OpsW.det (det_assign rfl) rfl ?_
          refine sNext ?_
          refine W.keep (F' := [(5, _), (11, _), (10, _), (25, _), (24, _), (23, _), (7, _), (6, _), (1, _)]) ⟨rfl, rfl, rfl, rfl, rfl, rfl, rfl, rfl, rfl, trivial⟩ ?_
          refine sSeq ?_
          refine W.region ?_
          refine OpsW.det (det_loadW59 rfl (List.Mem.tail _ (List.Mem.tail _ (List.Mem.tail _ (List.Mem.tail _ (List.Mem.tail _ (List.Mem.head _))))))) rfl ?_
          refine OpsW.det (det_loadW59 rfl (List.Mem.tail _ (List.Mem.tail _ (List.Mem.head _)))) rfl ?_
          refine OpsW.det (det_call en39 rfl (fun w hb ho => PAdd_ok (fun p hp => ho.look (List.mem_append_right _ hp)))) rfl ?_
          refine OpsW.storeW59 rfl rfl (Upd.there (Upd.there (Upd.there (Upd.there (Upd.there (Upd.here)))))) ?_
          refine sNext ?_
          refine W.keep (F' := [(5, _), (10, _), (25, _), (24, _), (23, _), (7, _), (6, _), (1, _)]) ⟨rfl, rfl, rfl, rfl, rfl, rfl, rfl, rfl, trivial⟩ ?_
          refine W.region ?_
          refine OpsW.det (det_loadW35 rfl (List.Mem.tail _ (List.Mem.tail _ (List.Mem.tail _ (List.Mem.tail _ (List.Mem.head _)))))) rfl ?_
          refine OpsW.det (det_loadW35 rfl (List.Mem.tail _ (List.Mem.tail _ (List.Mem.tail _ (List.Mem.head _))))) rfl ?_
          refine OpsW.det (det_call en28 rfl (fun w hb ho => Cu.RAdd_ok (fun p hp => ho.look (List.mem_append_right _ hp)))) rfl ?_
          refine OpsW.storeW35 rfl rfl (Upd.there (Upd.there (Upd.there (Upd.there (Upd.here))))) ?_
          refine sLast ?_
          refine bNext ?_
          refine W.keep (F' := [(5, _), (25, _), (24, _), (23, _), (7, _), (6, _), (1, _)]) ⟨rfl, rfl, rfl, rfl, rfl, rfl, rfl, trivial⟩ ?_
          refine W.region ?_
          refine OpsW.det (det_addN (b := 1) rfl rfl (by omega)) rfl ?_
          refine OpsW.det (det_move rfl) rfl ?_
          refine sLast ?_
          have e1 : cellsL (lpts (lpt (flipB how) ls) (i + 1)) = cellsL (lpts (lpt (flipB how) ls) i) ++ cellsP (pmul gen (wide ls[i])) := by rw [lpts_succ, cellsL_snoc, lpt_no hlt hc44]
          have e2 : xsum (lsc (flipB how) ls) (i + 1) = xsum (lsc (flipB how) ls) i + (wide ls[i]) := by rw [xsum, lsc_no hlt hc44]
          have e3 : nsum (lpt (flipB how) ls) (i + 1) = padd (nsum (lpt (flipB how) ls) i) (pmul gen (wide ls[i])) := by rw [nsum, lpt_no hlt hc44]
          refine rEnd (i + 1, bn, capn, spn) ⟨hlt, ?_, h3n⟩ ⟨rfl, rfl, rfl, rfl, rfl, rfl, rfl, trivial⟩ ?_ (step_lt hlt)
          · show (cellsL (lpts (lpt (flipB how) ls) (i + 1)) ++ spn).length = capn * 24
            rw [e1]; exact h2n
          · show List.Sublist [(bn, blk (cellsL (lpts (lpt (flipB how) ls) (i + 1)) ++ spn) 59), (b7, blk (cellsR (xsum (lsc (flipB how) ls) (i + 1))) 35), (b6, blk (cellsP (nsum (lpt (flipB how) ls) (i + 1))) 59)] _
            rw [e1, e2, e3]
            exact List.Sublist.cons_cons _ (List.Sublist.cons _ (List.Sublist.cons _ (List.Sublist.cons _ (List.Sublist.refl _))))
    · skip
      have hi4 : i = ls.length := by have h := hc26; simp only [decide_eq_false_iff_not] at h; omega
      subst hi4
      refine sExit ?_
      refine xLoop ?_
      refine xHere ?_
      refine W.keep (F' := [(7, _), (6, _), (5, _)]) ⟨rfl, rfl, rfl, trivial⟩ ?_
      refine sSeq ?_
      refine W.region ?_
      refine OpsW.det (det_zero bz59) rfl ?_
      refine OpsW.fresh (fr_alloc z59r) rfl fun b12 => ?_
      refine OpsW.storeW59 rfl rfl (Upd.here) ?_
      refine sNext ?_
      refine W.keep (F' := [(12, _), (7, _), (6, _), (5, _)]) ⟨rfl, rfl, rfl, rfl, trivial⟩ ?_
      refine sSeq ?_
      refine sSeq ?_
      refine W.region ?_
      refine OpsW.det (det_move rfl) rfl ?_
      refine OpsW.det (det_len u64t rfl) rfl ?_
      refine OpsW.det (det_subZ (a := (ls.length : Int)) (b := 1) (c := (ls.length : Int) - 1 - ((0 : Nat) : Int)) rfl rfl (by omega) (by omega)) rfl ?_
      refine OpsW.det (det_assign rfl) rfl ?_
      refine sNext ?_
      refine W.keep (F' := [(13, _), (12, _), (7, _), (6, _), (5, _)]) ⟨rfl, rfl, rfl, rfl, rfl, trivial⟩ ?_
      refine sBlock ?_
      refine sLoop (σ := Nat) (fun k => [(13, .int .i64 ((ls.length : Int) - 1 - ((k : Nat) : Int))), (12, .pointer (some ⟨b12, 0, none⟩)), (7, .pointer (some ⟨b7, 0, none⟩)), (6, .pointer (some ⟨b6, 0, none⟩)), (5, .slice (some ⟨bs, 0, none⟩) ls.length cap)]) (fun k => [(b12, blk (cellsP (bsum (lpt (flipB how) ls) ls.length k)) 59), (bs, blk (cellsL (lpts (lpt (flipB how) ls) ls.length) ++ sp) 59), (b7, blk (cellsR (xsum (lsc (flipB how) ls) ls.length)) 35), (b6, blk (cellsP (nsum (lpt (flipB how) ls) ls.length)) 59)]) (fun k => k ≤ ls.length) (fun k => ls.length - k) 0 (Nat.zero_le _) ⟨rfl, rfl, rfl, rfl, rfl, trivial⟩ (List.Sublist.refl _) ?_
      intro k hkl
      refine sSeq ?_
      refine sSeq ?_
      refine W.region ?_
      refine OpsW.det (det_move rfl) rfl ?_
      refine OpsW.det (det_geq (a := (ls.length : Int) - 1 - ((k : Nat) : Int)) (b := 0) rfl rfl) rfl ?_
      refine sNext ?_
      refine W.keep (F' := [(65, _), (13, _), (12, _), (7, _), (6, _), (5, _)]) ⟨rfl, rfl, rfl, rfl, rfl, rfl, trivial⟩ ?_
      refine W.cond rfl (fun hc65 => ?_) (fun hc65 => ?_)
      · skip
        have hk : k < ls.length := by have h := hc65; simp only [decide_eq_true_eq] at h; omega
        refine sSkip ?_
        refine sSeq ?_
        refine sBlock ?_
        refine W.draw mixed 6 [[], [], [], [1, 2], [1, 2, 3], [0, 1, 2, 3, 4], [0, 1, 2, 3, 4, 5]] (cl_lt (by decide)) ?_
        refine HeadR.start (cl_lt (by decide)) ?_
        refine HeadR.det rfl (fun β hβ => (det_loadW59 rfl (List.Mem.head _))) ?_
        refine HeadR.det rfl (fun β hβ => (det_move rfl)) ?_
        refine HeadR.det rfl (fun β hβ => (det_move rfl)) ?_
        refine HeadR.det rfl (fun β hβ => (det_indexAddr_sl u64t sz59 rfl rfl ⟨by omega, by omega⟩)) ?_
        refine HeadR.det rfl (fun β hβ => (det_loadA ty59 rfl (List.Mem.tail _ (List.Mem.head _)) (back_at (f := (lpt (flipB how) ls)) hk))) ?_
        refine HeadR.det rfl (fun β hβ => (det_call en39 rfl (fun w hb ho => PAdd_ok (fun p hp => ho.look (List.mem_append_right _ hp))))) ?_
        refine HeadR.done ⟨by kernel_rfl, fun β hβ => ?_⟩
        refine OpsW.norm (F' := [(68, _), (69, _), (70, _), (71, _), (72, _), (73, _), (65, _), (13, _), (12, _), (7, _), (6, _), (5, _)]) (H' := [(_, _), (_, _), (_, _), (_, _)]) rfl rfl ?_
        refine OpsW.storeW59 rfl rfl (Upd.here) ?_
        refine sLast ?_
        refine bNext ?_
        refine W.keep (F' := [(13, _), (12, _), (7, _), (6, _), (5, _)]) ⟨rfl, rfl, rfl, rfl, rfl, trivial⟩ ?_
        refine W.region ?_
        refine OpsW.det (det_move rfl) rfl ?_
        refine OpsW.det (det_subZ (a := (ls.length : Int) - 1 - ((k : Nat) : Int)) (b := 1) (c := (ls.length : Int) - 1 - ((k + 1 : Nat) : Int)) rfl rfl (by omega) (by omega)) rfl ?_
        refine OpsW.det (det_assign rfl) rfl ?_
        refine sLast ?_
        exact rEnd (k + 1) hk ⟨rfl, rfl, rfl, rfl, rfl, trivial⟩ (List.Sublist.refl _) (step_lt hk)
      · skip
        have hkn : k = ls.length := by have h := hc65; simp only [decide_eq_false_iff_not] at h; omega
        subst hkn
        refine sExit ?_
        refine xLoop ?_
        refine xHere ?_
        refine W.keep (F' := [(12, _), (7, _), (6, _), (5, _)]) ⟨rfl, rfl, rfl, rfl, trivial⟩ ?_
        refine sSeq ?_
        rcases Nat.eq_zero_or_pos ls.length with h0 | h0
        · skip
          have hr4 : psum (([] : List Pt) ++ [(pneg (nsum (lpt (flipB how) ls) ls.length))]) = (0, 0) := by have := hr.l4; rwa [show lpts (lpt (flipB how) ls) ls.length = [] by rw [h0]; rfl] at this
          refine W.draw mixed 6 [[], [], [0, 1], [], [0, 1, 2, 3], [0, 1, 2, 3, 4], [0, 1, 2, 3, 4, 5], [0, 1, 2, 3, 4, 5, 6]] (cl_lt (by decide)) ?_
          refine HeadR.start (cl_lt (by decide)) ?_
          refine HeadR.fresh rfl (fun β hβ => (fr_buildSlice rfl sliceNil).new) ?_
          refine HeadR.det rfl (fun β hβ => (det_move rfl)) ?_
          refine HeadR.fresh rfl (fun β hβ => (new_append0 sl64 rfl rfl h0)) ?_
          refine HeadR.det rfl (fun β hβ => (det_loadW59 rfl (List.Mem.tail _ (List.Mem.tail _ (List.Mem.tail _ (List.Mem.head _)))))) ?_
          refine HeadR.det rfl (fun β hβ => (det_call en41 rfl (fun w hb ho => PNeg_ok (fun p hp => ho.look (List.mem_append_right _ hp))))) ?_
          refine HeadR.fresh rfl (fun β hβ => (fr_buildSlice rfl (sliceOne (p := (pneg (nsum (lpt (flipB how) ls) ls.length))))).new) ?_
          refine HeadR.done ⟨by kernel_rfl, fun β hβ => ?_⟩
          refine OpsW.norm (F' := [(74, .slice (some ⟨(β 74).1, 0, none⟩) 0 0), (75, _), (76, .slice (some ⟨(β 76).1, 0, none⟩) 0 0), (77, _), (78, _), (79, .slice (some ⟨(β 79).1, 0, none⟩) 1 1), (12, _), (7, _), (6, _), (5, _)]) (H' := [(_, _), (_, _), (_, _), (_, _), (_, _), (_, _)]) rfl rfl ?_
          generalize (β 74).1 = b74
          generalize (β 76).1 = b76
          generalize (β 79).1 = b79
          refine OpsW.new (new_append sl64 (news := cellsP (pneg (nsum (lpt (flipB how) ls) ls.length))) rfl rfl (.inl (List.Mem.tail _ (List.Mem.head _))) rfl (fun j u hj => by rw [Nat.zero_add]; exact hj) Nat.zero_lt_one (max_le (by decide)) (room_le (by decide) (by decide))) rfl fun p80 hp80 => ?_
          refine OpsW.norm (F' := [(80, .slice (some ⟨p80.1, 0, none⟩) 1 p80.2.1), (74, _), (75, _), (76, _), (77, _), (78, _), (79, _), (12, _), (7, _), (6, _), (5, _)]) (H' := [(p80.1, blk (cellsP (pneg (nsum (lpt (flipB how) ls) ls.length)) ++ p80.2.2) 59), (_, _), (_, _), (_, _), (_, _), (_, _), (_, _)]) rfl rfl ?_
          refine OpsW.det (det_assign rfl) rfl ?_
          refine sNext ?_
          refine W.keep (F' := [(14, _), (12, _), (7, _), (6, _), (5, _)]) ⟨rfl, rfl, rfl, rfl, rfl, trivial⟩ ?_
          refine sSeq ?_
          refine W.draw mixed 23 [[], [0], [], [0, 1, 2], [0, 1, 2, 3], [0, 1, 2, 3, 4], [0, 1, 2, 3, 4], [0, 1, 2, 3, 4, 5, 6], [0, 1, 2, 3, 4, 5, 6, 7], [0, 1, 2, 3, 4, 5, 6, 7, 8], [0, 1, 2, 3, 4, 5, 6, 7, 8, 9], [0, 1, 2, 3, 4, 5, 6, 7, 8, 9], [0, 1, 2, 3, 4, 5, 6, 7, 8, 9], [0, 1, 2, 3, 4, 5, 6, 7, 8, 9, 11, 12], [0, 1, 2, 3, 4, 5, 6, 7, 8, 9, 10, 11, 12, 13], [0, 1, 2, 3, 4, 5, 6, 7, 8, 9, 10, 11, 12, 13, 14], [0, 1, 2, 3, 4, 5, 6, 7, 8, 9, 10, 11, 12, 13, 14, 15], [0, 1, 2, 3, 4, 5, 6, 7, 8, 9, 10, 11, 12, 13, 14, 15, 16], [0, 1, 2, 3, 4, 5, 6, 7, 8, 9, 10, 11, 12, 13, 14, 15, 16, 17], [0, 1, 2, 3, 4, 5, 6, 7, 8, 9, 10, 11, 12, 13, 14, 15, 16], [0, 1, 2, 3, 4, 5, 6, 7, 8, 9, 10, 11, 12, 13, 14, 15, 16, 17, 18, 19], [0, 1, 2, 3, 4, 5, 6, 7, 8, 9, 10, 11, 12, 13, 14, 15, 16, 17, 18, 19, 20], [0, 1, 2, 3, 4, 5, 6, 7, 8, 9, 10, 11, 12, 13, 14, 15, 16, 17, 18, 19, 20, 21]] (cl_lt (by decide)) ?_
          refine HeadR.start (cl_lt (by decide)) ?_
          refine HeadR.det rfl (fun β hβ => (det_move rfl)) ?_
          refine HeadR.det rfl (fun β hβ => (det_call en40 rfl (fun w hb ho => PSum_ok (G' := [(bs, blk (cellsL (lpts (lpt (flipB how) ls) ls.length) ++ sp) 59)]) (l := lpts (lpt (flipB how) ls) ls.length) (ptsL (lpts_len _ _)) (Nat.le_trans (show _ ≤ 100 by rw [lpts_len]; omega) (by decide)) (blocks_cons (hb _ (by repeat (first | exact List.Mem.head _ | apply List.Mem.tail))) (fun p hp => ho.look (List.mem_append_right _ hp)))))) ?_
          refine HeadR.det rfl (fun β hβ => (det_loadW59 rfl (List.Mem.tail _ (List.Mem.tail _ (List.Mem.tail _ (List.Mem.tail _ (List.Mem.tail _ (List.Mem.tail _ (List.Mem.head _))))))))) ?_
          refine HeadR.det rfl (fun β hβ => (Det.to (det_eql59 rfl rfl) (congrArg Value.bool (yb hr.l1)))) ?_
          refine HeadR.det rfl (fun β hβ => (det_move rfl)) ?_
          refine HeadR.yes rfl rfl (fun _ _ => rfl) (fun β hβ => (det_loadW59 rfl (List.Mem.tail _ (List.Mem.tail _ (List.Mem.tail _ (List.Mem.head _)))))) ?_
          refine HeadR.yes rfl rfl (fun _ _ => rfl) (fun β hβ => (det_loadW59 rfl (List.Mem.tail _ (List.Mem.tail _ (List.Mem.tail _ (List.Mem.tail _ (List.Mem.tail _ (List.Mem.tail _ (List.Mem.head _))))))))) ?_
          refine HeadR.yes rfl rfl (fun _ _ => rfl) (fun β hβ => (Det.to (det_eql59 rfl rfl) (congrArg Value.bool (yb hr.l2)))) ?_
          refine HeadR.det rfl (fun β hβ => (det_pick rfl rfl)) ?_
          refine HeadR.det rfl (fun β hβ => (det_move rfl)) ?_
          refine HeadR.yes rfl rfl (fun _ _ => rfl) (fun β hβ => (det_loadW59 rfl (List.Mem.tail _ (List.Mem.tail _ (List.Mem.tail _ (List.Mem.tail _ (List.Mem.tail _ (List.Mem.tail _ (List.Mem.head _))))))))) ?_
          refine HeadR.yes rfl rfl (fun _ _ => rfl) (fun β hβ => (det_call en36 rfl (fun w hb ho => Gen_ok (fun p hp => ho.look (List.mem_append_right _ hp))))) ?_
          refine HeadR.yes rfl rfl (fun _ _ => rfl) (fun β hβ => (det_loadW35 rfl (List.Mem.tail _ (List.Mem.tail _ (List.Mem.tail _ (List.Mem.tail _ (List.Mem.tail _ (List.Mem.head _)))))))) ?_
          refine HeadR.yes rfl rfl (fun _ _ => rfl) (fun β hβ => (det_call en37 rfl (fun w hb ho => PMul_ok (fun p hp => ho.look (List.mem_append_right _ hp))))) ?_
          refine HeadR.yes rfl rfl (fun _ _ => rfl) (fun β hβ => (Det.to (det_eql59 rfl rfl) (congrArg Value.bool (yb hr.l3)))) ?_
          refine HeadR.det rfl (fun β hβ => (det_pick rfl rfl)) ?_
          refine HeadR.det rfl (fun β hβ => (det_move rfl)) ?_
          refine HeadR.yes rfl rfl (fun _ _ => rfl) (fun β hβ => (det_move rfl)) ?_
          refine HeadR.yes rfl rfl (fun _ _ => rfl) (fun β hβ => (det_call en40 rfl (fun w hb ho => PSum_ok (G' := [(p80.1, blk (cellsP (pneg (nsum (lpt (flipB how) ls) ls.length)) ++ p80.2.2) 59)]) (l := [(pneg (nsum (lpt (flipB how) ls) ls.length))]) ptsL1 (by show 1 ≤ 1000000000000; decide) (blocks_cons (hb _ (by repeat (first | exact List.Mem.head _ | apply List.Mem.tail))) (fun p hp => ho.look (List.mem_append_right _ hp)))))) ?_
          refine HeadR.yes rfl rfl (fun _ _ => rfl) (fun β hβ => (det_zero bz59)) ?_
          refine HeadR.yes rfl rfl (fun _ _ => rfl) (fun β hβ => (Det.to (det_eql59 rfl rfl) (congrArg Value.bool (yb hr4)))) ?_
          refine HeadR.det rfl (fun β hβ => (det_pick rfl rfl)) ?_
          refine HeadR.det rfl (fun β hβ => (det_assign rfl)) ?_
          refine HeadR.done ⟨by kernel_rfl, fun β hβ => ?_⟩
          refine OpsW.norm (F' := [(81, _), (82, _), (83, _), (84, _), (85, _), (86, _), (87, _), (88, _), (89, _), (90, _), (91, _), (92, _), (93, _), (94, _), (95, _), (96, _), (97, _), (98, _), (99, _), (100, _), (101, _), (102, _), (4, _), (14, _), (12, _), (7, _), (6, _), (5, _)]) (H' := [(_, _), (_, _), (_, _), (_, _), (_, _), (_, _), (_, _)]) rfl rfl ?_
          refine sNext ?_
          refine W.keep (F' := [(4, _)]) ⟨rfl, trivial⟩ ?_
          refine sRet ?_
          exact done1 Tryd.results10 (rv_tmp rfl) rfl
        · skip
          have hr4 := hr.l4
          refine W.draw mixed 6 [[], [], [0, 1], [], [0, 1, 2, 3], [0, 1, 2, 3, 4], [0, 1, 2, 3, 4, 5], [0, 1, 2, 3, 4, 5, 6]] (cl_lt (by decide)) ?_
          refine HeadR.start (cl_lt (by decide)) ?_
          refine HeadR.fresh rfl (fun β hβ => (fr_buildSlice rfl sliceNil).new) ?_
          refine HeadR.det rfl (fun β hβ => (det_move rfl)) ?_
          refine HeadR.fresh rfl (fun β hβ => (new_append sl64 (news := cellsL (lpts (lpt (flipB how) ls) ls.length)) rfl rfl (.inl (by exact (by repeat (first | exact List.Mem.head _ | apply List.Mem.tail)))) (by rw [flat_len cellsP_length, lpts_len]) (fun j u hj => by rw [Nat.zero_add, List.getElem?_append_left (List.getElem?_eq_some_iff.1 hj).1]; exact hj) h0 (max_le (by omega)) (room_le (by omega) (by decide)))) ?_
          refine HeadR.det rfl (fun β hβ => (det_loadW59 rfl (List.Mem.tail _ (List.Mem.tail _ (List.Mem.tail _ (List.Mem.head _)))))) ?_
          refine HeadR.det rfl (fun β hβ => (det_call en41 rfl (fun w hb ho => PNeg_ok (fun p hp => ho.look (List.mem_append_right _ hp))))) ?_
          refine HeadR.fresh rfl (fun β hβ => (fr_buildSlice rfl (sliceOne (p := (pneg (nsum (lpt (flipB how) ls) ls.length))))).new) ?_
          refine HeadR.done ⟨by kernel_rfl, fun β hβ => ?_⟩
          refine OpsW.norm (F' := [(74, .slice (some ⟨(β 74).1, 0, none⟩) 0 0), (75, _), (76, .slice (some ⟨(β 76).1, 0, none⟩) ls.length (β 76).2.1), (77, _), (78, _), (79, .slice (some ⟨(β 79).1, 0, none⟩) 1 1), (12, _), (7, _), (6, _), (5, _)]) (H' := [(_, _), (_, _), (_, _), (_, _), (_, _), (_, _), (_, _)]) rfl rfl ?_
          generalize (β 74).1 = b74
          obtain ⟨h76, h76'⟩ := hβ.2
          generalize (β 76).1 = b76 at h76 ⊢
          generalize (β 76).2.2 = sp76 at h76 ⊢
          generalize (β 76).2.1 = cap76 at h76 ⊢
          generalize (β 79).1 = b79
          refine OpsW.front1 ?_
          refine OpsW.append (hp := [(b76, blk (cellsL (lpts (lpt (flipB how) ls) ls.length) ++ sp76) 59)]) (xs := cellsL (lpts (lpt (flipB how) ls) ls.length)) (len := ls.length) (news := cellsP (pneg (nsum (lpt (flipB how) ls) ls.length))) sl64 rfl (.at_ (by rw [flat_len cellsP_length, lpts_len]) h76.1 h76.2.2) rfl (.inl (List.Mem.tail _ (List.Mem.tail _ (List.Mem.head _)))) rfl (fun j u hj => by rw [Nat.zero_add]; exact hj) (cellsP_all _) (max_le (by omega)) (room_le (by omega) (by decide)) rfl ?_
          intro v' hp' hsl
          obtain ⟨bn, capn, spn, rfl, rfl, h2n, h3n⟩ := isSl_pos hsl (Nat.succ_pos _)
          rw [← cellsL_snoc] at h2n hsl ⊢
          refine OpsW.norm (F' := [(80, .slice (some ⟨bn, 0, none⟩) (ls.length + 1) capn), (74, _), (75, _), (76, _), (77, _), (78, _), (79, _), (12, _), (7, _), (6, _), (5, _)]) (H' := [(bn, blk (cellsL ((lpts (lpt (flipB how) ls) ls.length) ++ [(pneg (nsum (lpt (flipB how) ls) ls.length))]) ++ spn) 59), (_, _), (_, _), (_, _), (_, _), (_, _), (_, _)]) rfl rfl ?_
          refine OpsW.det (det_assign rfl) rfl ?_
          refine sNext ?_
          refine W.keep (F' := [(14, _), (12, _), (7, _), (6, _), (5, _)]) ⟨rfl, rfl, rfl, rfl, rfl, trivial⟩ ?_
          refine sSeq ?_
          refine W.draw mixed 23 [[], [0], [], [0, 1, 2], [0, 1, 2, 3], [0, 1, 2, 3, 4], [0, 1, 2, 3, 4], [0, 1, 2, 3, 4, 5, 6], [0, 1, 2, 3, 4, 5, 6, 7], [0, 1, 2, 3, 4, 5, 6, 7, 8], [0, 1, 2, 3, 4, 5, 6, 7, 8, 9], [0, 1, 2, 3, 4, 5, 6, 7, 8, 9], [0, 1, 2, 3, 4, 5, 6, 7, 8, 9], [0, 1, 2, 3, 4, 5, 6, 7, 8, 9, 11, 12], [0, 1, 2, 3, 4, 5, 6, 7, 8, 9, 10, 11, 12, 13], [0, 1, 2, 3, 4, 5, 6, 7, 8, 9, 10, 11, 12, 13, 14], [0, 1, 2, 3, 4, 5, 6, 7, 8, 9, 10, 11, 12, 13, 14, 15], [0, 1, 2, 3, 4, 5, 6, 7, 8, 9, 10, 11, 12, 13, 14, 15, 16], [0, 1, 2, 3, 4, 5, 6, 7, 8, 9, 10, 11, 12, 13, 14, 15, 16, 17], [0, 1, 2, 3, 4, 5, 6, 7, 8, 9, 10, 11, 12, 13, 14, 15, 16], [0, 1, 2, 3, 4, 5, 6, 7, 8, 9, 10, 11, 12, 13, 14, 15, 16, 17, 18, 19], [0, 1, 2, 3, 4, 5, 6, 7, 8, 9, 10, 11, 12, 13, 14, 15, 16, 17, 18, 19, 20], [0, 1, 2, 3, 4, 5, 6, 7, 8, 9, 10, 11, 12, 13, 14, 15, 16, 17, 18, 19, 20, 21]] (cl_lt (by decide)) ?_
          refine HeadR.start (cl_lt (by decide)) ?_
          refine HeadR.det rfl (fun β hβ => (det_move rfl)) ?_
          refine HeadR.det rfl (fun β hβ => (det_call en40 rfl (fun w hb ho => PSum_ok (G' := [(bs, blk (cellsL (lpts (lpt (flipB how) ls) ls.length) ++ sp) 59)]) (l := lpts (lpt (flipB how) ls) ls.length) (ptsL (lpts_len _ _)) (Nat.le_trans (show _ ≤ 100 by rw [lpts_len]; omega) (by decide)) (blocks_cons (hb _ (by repeat (first | exact List.Mem.head _ | apply List.Mem.tail))) (fun p hp => ho.look (List.mem_append_right _ hp)))))) ?_
          refine HeadR.det rfl (fun β hβ => (det_loadW59 rfl (List.Mem.tail _ (List.Mem.tail _ (List.Mem.tail _ (List.Mem.tail _ (List.Mem.tail _ (List.Mem.tail _ (List.Mem.head _))))))))) ?_
          refine HeadR.det rfl (fun β hβ => (Det.to (det_eql59 rfl rfl) (congrArg Value.bool (yb hr.l1)))) ?_
          refine HeadR.det rfl (fun β hβ => (det_move rfl)) ?_
          refine HeadR.yes rfl rfl (fun _ _ => rfl) (fun β hβ => (det_loadW59 rfl (List.Mem.tail _ (List.Mem.tail _ (List.Mem.tail _ (List.Mem.head _)))))) ?_
          refine HeadR.yes rfl rfl (fun _ _ => rfl) (fun β hβ => (det_loadW59 rfl (List.Mem.tail _ (List.Mem.tail _ (List.Mem.tail _ (List.Mem.tail _ (List.Mem.tail _ (List.Mem.tail _ (List.Mem.head _))))))))) ?_
          refine HeadR.yes rfl rfl (fun _ _ => rfl) (fun β hβ => (Det.to (det_eql59 rfl rfl) (congrArg Value.bool (yb hr.l2)))) ?_
          refine HeadR.det rfl (fun β hβ => (det_pick rfl rfl)) ?_
          refine HeadR.det rfl (fun β hβ => (det_move rfl)) ?_
          refine HeadR.yes rfl rfl (fun _ _ => rfl) (fun β hβ => (det_loadW59 rfl (List.Mem.tail _ (List.Mem.tail _ (List.Mem.tail _ (List.Mem.tail _ (List.Mem.tail _ (List.Mem.tail _ (List.Mem.head _))))))))) ?_
          refine HeadR.yes rfl rfl (fun _ _ => rfl) (fun β hβ => (det_call en36 rfl (fun w hb ho => Gen_ok (fun p hp => ho.look (List.mem_append_right _ hp))))) ?_
          refine HeadR.yes rfl rfl (fun _ _ => rfl) (fun β hβ => (det_loadW35 rfl (List.Mem.tail _ (List.Mem.tail _ (List.Mem.tail _ (List.Mem.tail _ (List.Mem.tail _ (List.Mem.head _)))))))) ?_
          refine HeadR.yes rfl rfl (fun _ _ => rfl) (fun β hβ => (det_call en37 rfl (fun w hb ho => PMul_ok (fun p hp => ho.look (List.mem_append_right _ hp))))) ?_
          refine HeadR.yes rfl rfl (fun _ _ => rfl) (fun β hβ => (Det.to (det_eql59 rfl rfl) (congrArg Value.bool (yb hr.l3)))) ?_
          refine HeadR.det rfl (fun β hβ => (det_pick rfl rfl)) ?_
          refine HeadR.det rfl (fun β hβ => (det_move rfl)) ?_
          refine HeadR.yes rfl rfl (fun _ _ => rfl) (fun β hβ => (det_move rfl)) ?_
          refine HeadR.yes rfl rfl (fun _ _ => rfl) (fun β hβ => (det_call en40 rfl (fun w hb ho => PSum_ok (G' := [(bn, blk (cellsL ((lpts (lpt (flipB how) ls) ls.length) ++ [(pneg (nsum (lpt (flipB how) ls) ls.length))]) ++ spn) 59)]) (l := (lpts (lpt (flipB how) ls) ls.length) ++ [(pneg (nsum (lpt (flipB how) ls) ls.length))]) (ptsL (by rw [List.length_append, lpts_len]; rfl)) (Nat.le_trans (show _ ≤ 100 by rw [List.length_append, lpts_len]; show ls.length + 1 ≤ 100; omega) (by decide)) (blocks_cons (hb _ (by repeat (first | exact List.Mem.head _ | apply List.Mem.tail))) (fun p hp => ho.look (List.mem_append_right _ hp)))))) ?_
          refine HeadR.yes rfl rfl (fun _ _ => rfl) (fun β hβ => (det_zero bz59)) ?_
          refine HeadR.yes rfl rfl (fun _ _ => rfl) (fun β hβ => (Det.to (det_eql59 rfl rfl) (congrArg Value.bool (yb hr4)))) ?_
          refine HeadR.det rfl (fun β hβ => (det_pick rfl rfl)) ?_
          refine HeadR.det rfl (fun β hβ => (det_assign rfl)) ?_
          refine HeadR.done ⟨by kernel_rfl, fun β hβ => ?_⟩
          refine OpsW.norm (F' := [(81, _), (82, _), (83, _), (84, _), (85, _), (86, _), (87, _), (88, _), (89, _), (90, _), (91, _), (92, _), (93, _), (94, _), (95, _), (96, _), (97, _), (98, _), (99, _), (100, _), (101, _), (102, _), (4, _), (14, _), (12, _), (7, _), (6, _), (5, _)]) (H' := [(_, _), (_, _), (_, _), (_, _), (_, _), (_, _), (_, _)]) rfl rfl ?_
          refine sNext ?_
          refine W.keep (F' := [(4, _)]) ⟨rfl, trivial⟩ ?_
          refine sRet ?_
          exact done1 Tryd.results10 (rv_tmp rfl) rfl

end Go.Cw

/- The second group: lists of points that are made of the generator: their sums, in any order. -/
namespace Go.Cw
open Go.Cu Go.Ec
open Go Go.Vm
set_option linter.unusedVariables false
set_option linter.unusedSimpArgs false
set_option linter.unusedSectionVars false
open CR
def fG (fl : Nat → Bool) (ls : List (List Nat)) (i : Nat) : G2 := nmul (lsc fl ls i).val gG
theorem lpt_ok (fl : Nat → Bool) (ls : List (List Nat)) (i : Nat) : lpt fl ls i = (fG fl ls i).1 := by
  unfold lpt fG lsc
  by_cases h : fl i = true
  · rw [if_pos h, if_pos h, gp_ok, pneg_ok]
    refine congrArg (fun z : G2 => z.1) (a_neg_eq ?_).symm
    rw [Zp.sub_val, Zp.zero_val, nmul_mod gG_order, Nat.zero_add, ← nmul_add]
    have hl := (wide (ls.getD i [])).lt
    generalize wide (ls.getD i []) = x at hl
    rw [show x.val + (rr - x.val) = rr by omega, gG_order]
  · rw [if_neg h, if_neg h, gp_ok]
theorem lpt_fun (fl : Nat → Bool) (ls : List (List Nat)) : lpt fl ls = fun i => (fG fl ls i).1 := funext (lpt_ok fl ls)
theorem nsum_ok (f : Nat → G2) : ∀ n, nsum (fun i => (f i).1) n = (gsum f n).1
  | 0 => rfl
  | n + 1 => by rw [nsum, nsum_ok f n, padd_ok, gsum]
theorem bsum_ok (f : Nat → G2) (n : Nat) : ∀ k, bsum (fun i => (f i).1) n k = (gback f n k).1
  | 0 => rfl
  | k + 1 => by rw [bsum, bsum_ok f n k, padd_ok, gback]
theorem lpts_ok (f : Nat → G2) (n : Nat) : lpts (fun i => (f i).1) n = ((List.range n).map f).map (·.1) := by
  unfold lpts; rw [List.map_map]; rfl
theorem xsum_ok (g : Nat → Fs) : ∀ n, gsum (fun i => nmul (g i).val gG) n = nmul (xsum g n).val gG
  | 0 => by rw [xsum, Zp.zero_val]; rfl
  | n + 1 => by rw [gsum, xsum_ok g n, xsum, Zp.add_val, nmul_mod gG_order, nmul_add]
theorem listsOk (fl : Nat → Bool) (ls : List (List Nat)) (n : Nat) : ListsOk (lpt fl ls) (lsc fl ls) n := by
  have hx : nmul (xsum (lsc fl ls) n).val gG = gsum (fG fl ls) n := (xsum_ok (lsc fl ls) n).symm
  rw [lpt_fun]
  refine ⟨?_, ?_, ?_, ?_⟩
  · rw [lpts_ok, psum_ok, fold_sum, nsum_ok]
  · rw [bsum_ok, gback_all, nsum_ok]
  · rw [nsum_ok, ← hx]; exact (pmul_ok gG _).symm
  · rw [nsum_ok, pneg_ok, lpts_ok]
    have := psum_ok ((List.range n).map (fG fl ls) ++ [-gsum (fG fl ls) n])
    rw [List.map_append, List.map_cons, List.map_nil, List.foldl_append, fold_sum] at this
    rw [this]
    show (gsum (fG fl ls) n + -gsum (fG fl ls) n).1 = (0, 0)
    rw [a_neg]; rfl
end Go.Cw
