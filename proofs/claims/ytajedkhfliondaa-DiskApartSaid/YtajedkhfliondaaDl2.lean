/-
  What was synced is there behind any loss of power: the walk. Conditions: as many bytes as memory has.
-/
import Derived.Test.YtajedkhfliondaaDl1
namespace Go.Dk
open Go Go.Vm Go.RowKit Go.Proofs Go.Cu
attribute [local irreducible] W OpsW Det Fresh New Writes Vm.Pure Makes Changes ExternTo BuildTo ZeroTo FieldTo IndexTo BinTo SliceTo Vm.Enters
set_option linter.unusedVariables false
set_option linter.unusedSimpArgs false

theorem bs_take {G' : Hp} {ad : Option Addr} {n c : Nat} {l : List Nat} (h : Bs G' (.slice ad n c) l) {k : Nat} (hk : k ≤ l.length) : Bs G' (.slice ad k c) (l.take k) := by
  have hl : (l.take k).length = k := by rw [List.length_take]; omega
  refine ⟨⟨ad, c, by rw [hl]⟩, fun x hx => h.small x (List.mem_of_mem_take hx), fun h0 => ?_⟩
  obtain ⟨b, o, cap, cs, e, fr, h1, h2, h3, h4⟩ := h.all (by omega)
  injection h1 with h5 h6 h7
  subst h5
  subst h7
  exact ⟨b, o, c, cs, e, fr, by rw [hl], h2, by omega, fun i hi => by rw [List.getElem_take]; exact h4 i (by omega)⟩
theorem ok_one {s : Nm} {d : List Nat} {k room st fu : Nat} {dn : Bool} (h1 : k ≤ d.length) (h2 : d.length ≤ maxRoom) (h3 : ∀ c ∈ d, c < 256) (h4 : k ≤ room) (h5 : room ≤ maxRoom) (h6 : fu ≤ 9223372036854775807) : AD.ok ⟨[⟨s, d, k⟩], room, st, fu, dn⟩ := by
  refine ⟨by simp, fun f hf => ?_, fun f hf => ?_, fun f hf => ?_, by show total [⟨s, d, k⟩] ≤ room; rw [total_one]; exact h4, h5, by show 1 ≤ 32; decide, h6⟩
  all_goals
    rw [List.mem_singleton.1 hf]
    first | assumption | exact Nat.le_trans h2 max_big
theorem ds1 {a : List Nat} (ha : a.length ≤ 65536) : append (fresh 4194304) [120] a = (⟨[⟨[120], a, 0⟩], 4194304, 1, 0, false⟩, 0) :=
  append_new (s := [120]) (b := a) (room := 4194304) (st := 0) (fu := 0) (by decide) (by unfold maxRoom; omega)
theorem ds2 {a : List Nat} (ha : a.length ≤ 65536) : sync ⟨[⟨[120], a, 0⟩], 4194304, 1, 0, false⟩ [120] = (⟨[⟨[120], a, a.length⟩], 4194304, 2, 0, false⟩, 0) :=
  sync_one (by decide) (by omega) (by decide)
theorem if_zero {p : Bool} (h : (((if p = true then 0 else 2 : Nat) : Int) == 0) = true) : p = true := by cases p <;> simp at h ⊢
theorem if_two {p : Bool} (h : (((if p = true then 0 else 2 : Nat) : Int) == 0) = false) : p = false := by cases p <;> simp at h ⊢
theorem stp_st {st fu : Nat} {dn : Bool} : (stp st fu dn).2.1 ≤ st + 1 ∧ (stp st fu dn).2.2.1 ≤ fu := by unfold stp; split <;> simp
theorem small_app {a b : List Nat} (ha : ∀ c ∈ a, c < 256) (hb : ∀ c ∈ b, c < 256) : ∀ c ∈ a ++ b, c < 256 := fun c hc => (List.mem_append.1 hc).elim (ha c) (hb c)
theorem small_take {a : List Nat} {n : Nat} (ha : ∀ c ∈ a, c < 256) : ∀ c ∈ a.take n, c < 256 := fun c hc => ha c (List.mem_of_mem_take hc)
theorem Ints.nil {G' : Hp} : Ints G' (.slice none ([] : List Int).length 0) [] := ⟨⟨_, _, rfl⟩, fun h => absurd h (Nat.lt_irrefl 0)⟩
theorem tk_tk {a : List Nat} {n : Nat} (h : n ≤ a.length) : (a.take n).take n = a.take n ∧ (a.take n).length = n := by rw [List.take_take, Nat.min_self, List.length_take]; exact ⟨rfl, by omega⟩

theorem en11 : Vm.Enters Try.prog 11 := Vm.Enters.of fun _ _ => by kernel_rfl
theorem en13 : Vm.Enters Try.prog 13 := Vm.Enters.of fun _ _ => by kernel_rfl
theorem en9 : Vm.Enters Try.prog 9 := Vm.Enters.of fun _ _ => by kernel_rfl
theorem DiskSafe_ok {G' : Hp} {va vb vc : Value} {a b c : List Nat} (hBa : Bs G' va a) (hBb : Bs G' vb b) (hBc : Bs G' vc c) (hla : a.length ≤ 140737488355328) (hlb : b.length ≤ 140737488355328) (hlc : c.length ≤ 140737488355328) {k z : Int} (hk : k ≤ 9223372036854775807) (hz : -9223372036854775808 ≤ z ∧ z ≤ 9223372036854775807) {w : World} (hG : Blocks G' w)  : Vm.Pure Try.prog 3 #[va, vb, vc, .int .i64 k, .int .i64 z] w (.bool true) := by
  obtain ⟨ada, ca, hva⟩ := hBa.shape
  obtain ⟨adb, cb, hvb⟩ := hBb.shape
  obtain ⟨adc, cc, hvc⟩ := hBc.shape
  have hsa := hBa.small
  have hsb := hBb.small
  have hsc := hBc.small
  have hs71 : ∀ z ∈ a ++ b ++ c, z < 256 := small_app (small_app hsa hsb) hsc
  refine pure_of_W (n := 127) (args := [va, vb, vc, .int .i64 k, .int .i64 z]) Try.func3 rfl Try.ntmps3 (Nat.le_of_ble_eq_true rfl) hG ?_
  refine sStart ?_
  refine sSeq ?_
  subst hva
  subst hvb
  subst hvc
  refine W.region ?_
  refine OpsW.det (det_assign rfl) rfl ?_
  refine sNext ?_
  refine W.keep (F' := [(0, _), (1, _), (2, _), (3, _), (4, _)]) ⟨rfl, rfl, rfl, rfl, rfl, trivial⟩ ?_
  refine sSeq ?_
  refine W.region ?_
  refine OpsW.change (Hf := []) en8 rfl (fun w hb hbn ho hbm => New_ok nob) rfl (fun v18 H18 hS18 => ?_)
  obtain ⟨bD, rfl, hD0⟩ := hS18
  refine OpsW.det (det_assign rfl) rfl ?_
  refine sNext ?_
  refine W.keep (F' := [(11, _), (0, _), (1, _), (2, _), (3, _), (4, _)]) ⟨rfl, rfl, rfl, rfl, rfl, rfl, trivial⟩ ?_
  refine sSeq ?_
  refine sSeq ?_
  refine W.region ?_
  refine OpsW.det (det_move rfl) rfl ?_
  refine OpsW.det (Det.to (det_nilPtr u23 rfl rfl) (congrArg Value.bool (rfl))) rfl ?_
  refine OpsW.det (det_move rfl) rfl ?_
  refine OpsW.guard_yes rfl rfl ?_
  refine OpsW.det (Det.to (det_call en9 rfl (fun w hb ho => head17_ok nob)) (congrArg Value.bool (rfl))) rfl ?_
  refine OpsW.guard_yes rfl rfl ?_
  refine OpsW.det (det_not rfl) rfl ?_
  refine OpsW.det (det_pick rfl rfl) rfl ?_
  refine sNext ?_
  refine W.keep (F' := [(24, _), (11, _), (0, _), (1, _), (2, _), (3, _), (4, _)]) ⟨rfl, rfl, rfl, rfl, rfl, rfl, rfl, trivial⟩ ?_
  refine W.cond_false rfl ?_
  refine sSkip ?_
  refine sSeq ?_
  refine sSeq ?_
  refine W.region ?_
  refine OpsW.det (det_move rfl) rfl ?_
  refine OpsW.det (det_len u22 rfl) rfl ?_
  refine OpsW.det (det_move rfl) rfl ?_
  refine OpsW.det (det_len u22 rfl) rfl ?_
  refine OpsW.det (det_addN rfl rfl (by omega)) rfl ?_
  refine OpsW.det (det_move rfl) rfl ?_
  refine OpsW.det (det_len u22 rfl) rfl ?_
  refine OpsW.det (det_addN rfl rfl (by omega)) rfl ?_
  refine OpsW.det (det_gtr rfl rfl) rfl ?_
  refine sNext ?_
  refine W.keep (F' := [(33, _), (11, _), (0, _), (1, _), (2, _), (3, _), (4, _)]) ⟨rfl, rfl, rfl, rfl, rfl, rfl, rfl, trivial⟩ ?_
  refine W.cond rfl (fun hc33 => ?_) (fun hc33 => ?_)
  · skip
    refine sSeq ?_
    refine W.region ?_
    refine OpsW.det (det_assign rfl) rfl ?_
    refine sNext ?_
    refine W.keep (F' := [(10, _)]) ⟨rfl, trivial⟩ ?_
    refine sRet ?_
    exact done1 Try.results3 (rv_tmp rfl) rfl
  · skip
    have hsum : a.length + b.length + c.length ≤ 65536 := by have h := hc33; simp only [decide_eq_false_iff_not] at h; omega
    refine sSkip ?_
    refine sSeq ?_
    refine sSeq ?_
    refine W.region ?_
    refine OpsW.det (det_move rfl) rfl ?_
    refine OpsW.det (det_move rfl) rfl ?_
    refine OpsW.new (new_call en11 rfl (fun w hb ho => Copy_ok hBa (by omega) ho.blocks)) rfl fun p36 hp36 => ?_
    refine OpsW.changeM (Hl := [(_, _)]) (Hd := H18) (Hr := []) en10 rfl (fun w hb hbn ho hbm => Append_ok hD0 (fresh_ok _) (Nat.le_of_ble_eq_true rfl) (by decide) ((Bs.of (l := a) (spare := []) (e := 5) (fr := (0, 0)) hsa (Nat.le_refl _)).mono (fun p hp => by rw [List.mem_singleton.1 hp]; exact (List.Mem.head _))) (by omega) (bl_left (Hl := [(_, _)]) hb) (bl_mid (Hl := [(_, _)]) hb) (nd_mid (Hl := [(_, _)]) hbn) (nd_dis (Hl := [(_, _)]) hbn)) rfl (fun v37 H37 hS37 => ?_)
    obtain ⟨hv37, hD1⟩ := hS37
    rw [ds1 (by omega)] at hv37 hD1
    subst hv37
    refine OpsW.norm (H' := ((_, _) :: (H37 ++ []))) rfl rfl ?_
    refine OpsW.det (Det.to (det_neq rfl rfl) (congrArg Value.bool (rfl))) rfl ?_
    refine OpsW.det (det_move rfl) rfl ?_
    refine OpsW.guard_yes rfl rfl ?_
    refine OpsW.det (det_move rfl) rfl ?_
    refine OpsW.guard_yes rfl rfl ?_
    refine OpsW.changeM (Hl := [(_, _)]) (Hd := H37) (Hr := []) en12 rfl (fun w hb hbn ho hbm => Sync_ok hD1 (ok_one (Nat.zero_le _) (by unfold maxRoom; omega) hsa (Nat.zero_le _) (by decide) (by omega)) (Nat.le_of_ble_eq_true rfl) (by decide) nob (bl_mid (Hl := [(_, _)]) hb) (nd_mid (Hl := [(_, _)]) hbn)) rfl (fun v41 H41 hS41 => ?_)
    obtain ⟨hv41, hD2⟩ := hS41
    rw [ds2 (by omega)] at hv41 hD2
    subst hv41
    refine OpsW.norm (H' := ((_, _) :: (H41 ++ []))) rfl rfl ?_
    refine OpsW.guard_yes rfl rfl ?_
    refine OpsW.det (Det.to (det_neq rfl rfl) (congrArg Value.bool (rfl))) rfl ?_
    refine OpsW.det (det_pick rfl rfl) rfl ?_
    refine sNext ?_
    refine W.keep (F' := [(43, _), (11, _), (0, _), (1, _), (2, _), (3, _), (4, _)]) ⟨rfl, rfl, rfl, rfl, rfl, rfl, rfl, trivial⟩ ?_
    refine W.cond_false rfl ?_
    refine sSkip ?_
    refine sSeq ?_
    refine W.region ?_
    refine OpsW.det (det_move rfl) rfl ?_
    refine OpsW.det (det_move rfl) rfl ?_
    refine OpsW.changeM (Hl := [(_, _)]) (Hd := H41) (Hr := []) en13 rfl (fun w hb hbn ho hbm => Fuse_ok hD2 (ok_one (Nat.le_refl _) (by unfold maxRoom; omega) hsa (by omega) (by decide) (by omega)) (Nat.le_of_ble_eq_true rfl) nob (bl_mid (Hl := [(_, _)]) hb) (nd_mid (Hl := [(_, _)]) hbn)) rfl (fun v46 H46 hS46 => ?_)
    obtain ⟨hv46, hD3⟩ := hS46
    subst hv46
    obtain ⟨F, hF⟩ : ∃ F, F = (max 0 k).toNat := ⟨_, rfl⟩
    have hFl : F ≤ 9223372036854775807 := by omega
    have hD3 : DiskIs bD ⟨[⟨[120], a, a.length⟩], 4194304, 2, F, false⟩ H46 := by rw [hF]; exact hD3
    refine OpsW.norm (H' := ((_, _) :: (H46 ++ []))) rfl rfl ?_
    refine sNext ?_
    refine W.keep (F' := [(11, _), (0, _), (1, _), (2, _), (4, _)]) ⟨rfl, rfl, rfl, rfl, rfl, trivial⟩ ?_
    refine sSeq ?_
    refine W.region ?_
    refine OpsW.det (det_move rfl) rfl ?_
    refine OpsW.det (det_move rfl) rfl ?_
    refine OpsW.new (new_call en11 rfl (fun w hb ho => Copy_ok hBb (by omega) ho.blocks)) rfl fun p49 hp49 => ?_
    refine OpsW.changeM (Hl := [(_, _), (_, _)]) (Hd := H46) (Hr := []) en10 rfl (fun w hb hbn ho hbm => Append_ok hD3 (ok_one (Nat.le_refl _) (by unfold maxRoom; omega) hsa (by omega) (by decide) hFl) (Nat.le_of_ble_eq_true rfl) (by decide) ((Bs.of (l := b) (spare := []) (e := 5) (fr := (0, 0)) hsb (Nat.le_refl _)).mono (fun p hp => by rw [List.mem_singleton.1 hp]; exact (List.Mem.head _))) (by omega) (bl_left (Hl := [(_, _), (_, _)]) hb) (bl_mid (Hl := [(_, _), (_, _)]) hb) (nd_mid (Hl := [(_, _), (_, _)]) hbn) (nd_dis (Hl := [(_, _), (_, _)]) hbn)) rfl (fun v50 H50 hS50 => ?_)
    obtain ⟨hv50, hD4⟩ := hS50
    rw [append_one (s := [120]) (by decide) (by unfold maxRoom; omega)] at hv50 hD4
    subst hv50
    refine OpsW.norm (H' := ((_, _) :: (_, _) :: (H50 ++ []))) rfl rfl ?_
    refine OpsW.det (det_assign rfl) rfl ?_
    refine sNext ?_
    refine W.keep (F' := [(12, _), (11, _), (0, _), (1, _), (2, _), (4, _)]) ⟨rfl, rfl, rfl, rfl, rfl, rfl, trivial⟩ ?_
    refine sSeq ?_
    refine W.region ?_
    refine OpsW.det (det_assign rfl) rfl ?_
    refine sNext ?_
    refine sSeq ?_
    refine sSeq ?_
    refine W.region ?_
    refine OpsW.det (det_move rfl) rfl ?_
    refine OpsW.det (det_eql rfl rfl) rfl ?_
    refine sNext ?_
    refine W.keep (F' := [(52, _), (13, _), (12, _), (11, _), (0, _), (1, _), (2, _), (4, _)]) ⟨rfl, rfl, rfl, rfl, rfl, rfl, rfl, rfl, trivial⟩ ?_
    refine W.cond rfl (fun hc52 => ?_) (fun hc52 => ?_)
    · skip
      have hp := if_zero hc52
      obtain ⟨hF1, hstp⟩ := stp_on hp
      rw [hstp] at hD4
      have hD4 : DiskIs bD ⟨[⟨[120], a ++ b, a.length⟩], 4194304, 3, F - 1, false⟩ H50 := hD4
      refine W.region ?_
      refine OpsW.det (det_move rfl) rfl ?_
      refine OpsW.det (det_move rfl) rfl ?_
      refine OpsW.new (new_call en11 rfl (fun w hb ho => Copy_ok hBc (by omega) ho.blocks)) rfl fun p55 hp55 => ?_
      refine OpsW.changeM (Hl := [(_, _), (_, _), (_, _)]) (Hd := H50) (Hr := []) en10 rfl (fun w hb hbn ho hbm => Append_ok hD4 (ok_one (by rw [List.length_append]; omega) (by rw [List.length_append]; unfold maxRoom; omega) (small_app hsa hsb) (by omega) (by decide) (by omega)) (Nat.le_of_ble_eq_true rfl) (by decide) ((Bs.of (l := c) (spare := []) (e := 5) (fr := (0, 0)) hsc (Nat.le_refl _)).mono (fun p hp => by rw [List.mem_singleton.1 hp]; exact (List.Mem.head _))) (by omega) (bl_left (Hl := [(_, _), (_, _), (_, _)]) hb) (bl_mid (Hl := [(_, _), (_, _), (_, _)]) hb) (nd_mid (Hl := [(_, _), (_, _), (_, _)]) hbn) (nd_dis (Hl := [(_, _), (_, _), (_, _)]) hbn)) rfl (fun v56 H56 hS56 => ?_)
      obtain ⟨hv56, hD5a⟩ := hS56
      rw [append_one (s := [120]) (by decide) (by rw [List.length_append]; unfold maxRoom; omega)] at hv56 hD5a
      subst hv56
      obtain ⟨st5, fu5, dn5, Dt, hD5, hst5, hfu5, hDt⟩ : ∃ st fu dn Dt, DiskIs bD ⟨[⟨[120], Dt, a.length⟩], 4194304, st, fu, dn⟩ H56 ∧ st ≤ 4 ∧ fu ≤ 9223372036854775807 ∧ Dt = a ++ b ++ c := ⟨_, _, _, _, hD5a, by have := @stp_st 2 F false; have := @stp_st 3 (F - 1) false; omega, by have := @stp_st 2 F false; have := @stp_st 3 (F - 1) false; omega, rfl⟩
      have hDl : a.length ≤ Dt.length ∧ Dt.length ≤ a.length + b.length + c.length := by rw [hDt]; simp only [List.length_append]; omega
      have hDs : ∀ z ∈ Dt, z < 256 := by rw [hDt]; exact hs71
      have hpre : ∀ m, m ≤ Dt.length → Dt.take m = (a ++ b ++ c).take m := by intro m hm; rw [hDt] at hm ⊢; 
      obtain ⟨n, hn1, hn2, hcr, _⟩ := crash_one (s := [120]) (d := Dt) (k := a.length) (room := 4194304) (st := st5) (fu := fu5) (dn := dn5) (keep := [z]) hDl.1
      have hnl : (Dt.take n).length = n := by rw [List.length_take]; omega
      refine OpsW.norm (H' := ((_, _) :: (_, _) :: (_, _) :: (H56 ++ []))) rfl rfl ?_
      refine OpsW.det (det_assign rfl) rfl ?_
      refine sNext ?_
      refine W.keep (F' := [(13, _), (12, _), (11, _), (0, _), (1, _), (2, _), (4, _)]) ⟨rfl, rfl, rfl, rfl, rfl, rfl, rfl, trivial⟩ ?_
      refine sSeq ?_
      refine W.region ?_
      refine OpsW.det (det_move rfl) rfl ?_
      refine OpsW.det (det_move rfl) rfl ?_
      refine OpsW.fresh (fr_buildSlice rfl slice32) rfl fun b59 => ?_
      refine OpsW.changeM (Hl := [(_, _), (_, _), (_, _), (_, _)]) (Hd := H56) (Hr := []) en14 rfl (fun w hb hbn ho hbm => Crash_ok hD5 (ok_one hDl.1 (by unfold maxRoom; omega) hDs (by omega) (by decide) hfu5) (by show st5 < 4611686018427387904; omega) (Ints.lit.mono (fun p hp => by rw [List.mem_singleton.1 hp]; exact (List.Mem.head _))) (Nat.le_of_ble_eq_true rfl) (fun y hy => by rw [List.mem_singleton.1 hy]; exact hz) (bl_left (Hl := [(_, _), (_, _), (_, _), (_, _)]) hb) (bl_mid (Hl := [(_, _), (_, _), (_, _), (_, _)]) hb) (nd_mid (Hl := [(_, _), (_, _), (_, _), (_, _)]) hbn) (nd_dis (Hl := [(_, _), (_, _), (_, _), (_, _)]) hbn)) rfl (fun v60 H60 hS60 => ?_)
      obtain ⟨hv60, hD6⟩ := hS60
      rw [hcr] at hD6
      subst hv60
      refine OpsW.norm (H' := ((_, _) :: (_, _) :: (_, _) :: (_, _) :: (H60 ++ []))) rfl rfl ?_
      refine sNext ?_
      refine W.keep (F' := [(13, _), (12, _), (11, _), (0, _), (1, _), (2, _)]) ⟨rfl, rfl, rfl, rfl, rfl, rfl, trivial⟩ ?_
      refine sSeq ?_
      refine W.region ?_
      refine OpsW.det (det_move rfl) rfl ?_
      refine OpsW.change (Hf := []) en15 rfl (fun w hb hbn ho hbm => Read_d hD6 (ok_one (by rw [List.length_take]; omega) (by rw [List.length_take]; unfold maxRoom; omega) (small_take hDs) (by omega) (by decide) (by omega)) (by decide) (bl_mid (Hl := [(_, _), (_, _), (_, _), (_, _)]) hb)) rfl (fun v63 H63 hS63 => ?_)
      obtain ⟨adr, capr, hpr, nr, hvr, hnr, hownr, hsubr⟩ := hS63
      rw [readA_one (s := [120]) (by decide)] at hvr hnr hownr
      dsimp only at hvr hnr hownr
      subst hvr
      subst hnr
      refine OpsW.tuck (Hl := [(_, _), (_, _), (_, _), (_, _)]) (Hd := H60) (Hr := []) (hp := hpr) hsubr ?_
      refine OpsW.norm (H' := ((_, _) :: (_, _) :: (_, _) :: (_, _) :: (H60 ++ (hpr ++ [])))) rfl rfl ?_
      refine OpsW.det (det_move rfl) rfl ?_
      refine OpsW.det (det_extract rfl rfl) rfl ?_
      refine OpsW.det (det_extract rfl rfl) rfl ?_
      refine OpsW.det (det_assign rfl) rfl ?_
      refine OpsW.det (det_assign rfl) rfl ?_
      refine sNext ?_
      refine W.keep (F' := [(15, _), (14, _), (13, _), (12, _), (11, _), (0, _), (1, _), (2, _)]) ⟨rfl, rfl, rfl, rfl, rfl, rfl, rfl, rfl, trivial⟩ ?_
      refine sSeq ?_
      refine W.region ?_
      refine OpsW.det (det_move rfl) rfl ?_
      refine OpsW.new (new_call en11 rfl (fun w hb ho => Copy_ok hBa (by omega) ho.blocks)) rfl fun p67 hp67 => ?_
      refine OpsW.det (det_move rfl) rfl ?_
      refine OpsW.appendOwn (hp := [(p67.1, blk (bcells a ++ []) 5)]) Go.Cu.ty22 rfl (.at_ (bcells_length a) (Nat.le_refl _) (by rw [List.append_nil, bcells_length]; exact Nat.le_refl _) (by show a.length ≤ 9223372036854775807; omega)) rfl (hBb.src (fun p hp => .inr hp)) (bcells_one b) (by show a.length + b.length ≤ 9223372036854775807; omega) (by omega) rfl (fun ad69 cap69 hp69 hown69 => ?_)
      refine OpsW.det (det_move rfl) rfl ?_
      refine OpsW.appendOwn (hp := hp69) Go.Cu.ty22 rfl hown69 rfl (hBc.src (fun p hp => .inr hp)) (bcells_one c) (by show a.length + b.length + c.length ≤ 9223372036854775807; omega) (by omega) rfl (fun ad71 cap71 hp71 hown71 => ?_)
      rw [← bcells_app, ← bcells_app] at hown71
      refine OpsW.tuck (Hl := [(_, _), (_, _), (_, _), (_, _)]) (Hd := H60) (Hr := (hpr ++ [])) (hp := hp71) (List.Sublist.refl _) ?_
      have hall : Bs hp71 (.slice ad71 (a.length + b.length + c.length) cap71) (a ++ b ++ c) := Bs.own hs71 hown71
      refine OpsW.det (det_assign rfl) rfl ?_
      refine sNext ?_
      refine W.keep (F' := [(16, _), (15, _), (14, _), (13, _), (12, _), (11, _), (0, _), (1, _)]) ⟨rfl, rfl, rfl, rfl, rfl, rfl, rfl, rfl, trivial⟩ ?_
      refine sSeq ?_
      refine sSeq ?_
      refine W.region ?_
      refine OpsW.det (det_move rfl) rfl ?_
      refine OpsW.det (Det.to (det_neq rfl rfl) (congrArg Value.bool (rfl))) rfl ?_
      refine OpsW.det (det_move rfl) rfl ?_
      refine OpsW.guard_yes rfl rfl ?_
      refine OpsW.det (det_move rfl) rfl ?_
      refine OpsW.guard_yes rfl rfl ?_
      refine OpsW.det (det_len u22 rfl) rfl ?_
      refine OpsW.guard_yes rfl rfl ?_
      refine OpsW.det (det_move rfl) rfl ?_
      refine OpsW.guard_yes rfl rfl ?_
      refine OpsW.det (det_len u22 rfl) rfl ?_
      refine OpsW.guard_yes rfl rfl ?_
      refine OpsW.det (Det.to (det_lss rfl rfl) (congrArg Value.bool (decide_eq_false (by rw [hnl]; omega)))) rfl ?_
      refine OpsW.det (det_pick rfl rfl) rfl ?_
      refine OpsW.det (det_move rfl) rfl ?_
      refine OpsW.guard_yes rfl rfl ?_
      refine OpsW.det (det_move rfl) rfl ?_
      refine OpsW.guard_yes rfl rfl ?_
      refine OpsW.det (det_len u22 rfl) rfl ?_
      refine OpsW.guard_yes rfl rfl ?_
      refine OpsW.det (det_move rfl) rfl ?_
      refine OpsW.guard_yes rfl rfl ?_
      refine OpsW.det (det_len u22 rfl) rfl ?_
      refine OpsW.guard_yes rfl rfl ?_
      refine OpsW.det (Det.to (det_gtr rfl rfl) (congrArg Value.bool (decide_eq_false (by rw [hnl]; omega)))) rfl ?_
      refine OpsW.det (det_pick rfl rfl) rfl ?_
      refine OpsW.det (det_move rfl) rfl ?_
      refine OpsW.guard_yes rfl rfl ?_
      refine OpsW.det (det_move rfl) rfl ?_
      refine OpsW.guard_yes rfl rfl ?_
      refine OpsW.det (det_move rfl) rfl ?_
      refine OpsW.guard_yes rfl rfl ?_
      refine OpsW.det (det_move rfl) rfl ?_
      refine OpsW.guard_yes rfl rfl ?_
      refine OpsW.det (det_len u22 rfl) rfl ?_
      refine OpsW.guard_yes rfl rfl ?_
      refine OpsW.det (det_sliceTo u22 sz5 rfl rfl (by have := hown71.cap; omega) hown71.spot) rfl ?_
      refine OpsW.guard_yes rfl rfl ?_
      refine OpsW.det (Det.to (det_call en16 rfl (fun w hb ho => same_ok ((Bs.own (small_take hDs) hownr).mono (fun p hp => List.mem_append_right [(_, _), (_, _), (_, _), (_, _)] (List.mem_append_right _ (List.mem_append_right _ (List.mem_append_left _ hp))))) ((bs_take hall (k := (Dt.take n).length) (by simp only [List.length_append]; omega)).mono (fun p hp => List.mem_append_right [(_, _), (_, _), (_, _), (_, _)] (List.mem_append_right _ (List.mem_append_left _ hp)))) (by omega) hb)) (congrArg Value.bool (decide_eq_true (by rw [hnl]; exact hpre n hn2)))) rfl ?_
      refine OpsW.guard_yes rfl rfl ?_
      refine OpsW.det (det_not rfl) rfl ?_
      refine OpsW.det (det_pick rfl rfl) rfl ?_
      refine sNext ?_
      refine W.keep (F' := [(96, _), (14, _), (13, _), (12, _), (11, _), (0, _), (1, _)]) ⟨rfl, rfl, rfl, rfl, rfl, rfl, rfl, trivial⟩ ?_
      refine W.cond_false rfl ?_
      refine sSkip ?_
      refine sSeq ?_
      refine sSeq ?_
      refine W.region ?_
      refine OpsW.det (det_move rfl) rfl ?_
      refine OpsW.test (det_neq rfl rfl) rfl (fun hc98 => ?_) (fun hc98 => ?_)
      · skip
        refine OpsW.det (det_move rfl) rfl ?_
        refine OpsW.guard_yes rfl rfl ?_
        refine OpsW.det (det_move rfl) rfl ?_
        refine OpsW.guard_yes rfl rfl ?_
        refine OpsW.det (Det.to (det_neq rfl rfl) (congrArg Value.bool (by rw [show (stp 2 F false).1 = true from hp]))) rfl ?_
        refine OpsW.det (det_pick rfl rfl) rfl ?_
        refine OpsW.det (det_move rfl) rfl ?_
        refine OpsW.guard_no rfl rfl rfl ?_
        refine OpsW.guard_no rfl rfl rfl ?_
        refine OpsW.guard_no rfl rfl rfl ?_
        refine OpsW.guard_no rfl rfl rfl ?_
        refine OpsW.guard_no rfl rfl rfl ?_
        refine OpsW.guard_no rfl rfl rfl ?_
        refine OpsW.guard_no rfl rfl rfl ?_
        refine OpsW.guard_no rfl rfl rfl ?_
        refine OpsW.det (det_pick rfl rfl) rfl ?_
        refine sNext ?_
        refine W.keep (F' := [(112, _), (14, _), (11, _)]) ⟨rfl, rfl, rfl, trivial⟩ ?_
        refine W.cond_false rfl ?_
        refine sSkip ?_
        refine sSeq ?_
        refine W.region ?_
        refine OpsW.det (det_move rfl) rfl ?_
        refine OpsW.changeM (Hl := [(_, _), (_, _), (_, _), (_, _)]) (Hd := H60) (Hr := (hp71 ++ (hpr ++ []))) en14 rfl (fun w hb hbn ho hbm => Crash_ok (G' := []) hD6 (ok_one (by rw [List.length_take]; omega) (by rw [List.length_take]; unfold maxRoom; omega) (small_take hDs) (by omega) (by decide) (by omega)) (by show st5 < 4611686018427387904; omega) Ints.nil (by decide) (fun _ h => by cases h) nob (bl_mid (Hl := [(_, _), (_, _), (_, _), (_, _)]) hb) (nd_mid (Hl := [(_, _), (_, _), (_, _), (_, _)]) hbn) (fun _ h => by cases h)) rfl (fun v114 H114 hS114 => ?_)
        obtain ⟨hv114, hD7⟩ := hS114
        obtain ⟨n2, hn3, hn4, hcr2, hn5⟩ := crash_one (s := [120]) (d := Dt.take n) (k := n) (room := 4194304) (st := st5) (fu := 0) (dn := false) (keep := []) (by rw [hnl]; exact Nat.le_refl _)
        rw [hcr2, hn5 hnl.symm, (tk_tk hn2).1] at hD7
        subst hv114
        refine OpsW.norm (H' := ((_, _) :: (_, _) :: (_, _) :: (_, _) :: (H114 ++ (hp71 ++ (hpr ++ []))))) rfl rfl ?_
        refine sNext ?_
        refine W.keep (F' := [(14, _), (11, _)]) ⟨rfl, rfl, trivial⟩ ?_
        refine sSeq ?_
        refine W.region ?_
        refine OpsW.det (det_move rfl) rfl ?_
        refine OpsW.change (Hf := []) en15 rfl (fun w hb hbn ho hbm => Read_d hD7 (ok_one (by rw [List.length_take]; omega) (by rw [List.length_take]; unfold maxRoom; omega) (small_take hDs) (by omega) (by decide) (by omega)) (by decide) (bl_mid (Hl := [(_, _), (_, _), (_, _), (_, _)]) hb)) rfl (fun v117 H117 hS117 => ?_)
        obtain ⟨adq, capq, hpq, nq, hvq, hnq, hownq, hsubq⟩ := hS117
        rw [readA_one (s := [120]) (by decide)] at hvq hnq hownq
        dsimp only at hvq hnq hownq
        subst hvq
        subst hnq
        refine OpsW.tuck (Hl := [(_, _), (_, _), (_, _), (_, _)]) (Hd := H114) (Hr := (hp71 ++ (hpr ++ []))) (hp := hpq) hsubq ?_
        refine OpsW.norm (H' := ((_, _) :: (_, _) :: (_, _) :: (_, _) :: (H114 ++ (hpq ++ (hp71 ++ (hpr ++ [])))))) rfl rfl ?_
        refine OpsW.det (det_move rfl) rfl ?_
        refine OpsW.det (det_extract rfl rfl) rfl ?_
        refine OpsW.det (det_extract rfl rfl) rfl ?_
        refine OpsW.det (det_assign rfl) rfl ?_
        refine OpsW.det (det_assign rfl) rfl ?_
        refine sNext ?_
        refine W.keep (F' := [(15, _), (17, _), (14, _)]) ⟨rfl, rfl, rfl, trivial⟩ ?_
        refine sSeq ?_
        refine W.region ?_
        refine OpsW.det (det_move rfl) rfl ?_
        refine OpsW.det (Det.to (det_eql rfl rfl) (congrArg Value.bool (rfl))) rfl ?_
        refine OpsW.det (det_move rfl) rfl ?_
        refine OpsW.guard_yes rfl rfl ?_
        refine OpsW.det (det_move rfl) rfl ?_
        refine OpsW.guard_yes rfl rfl ?_
        refine OpsW.det (det_move rfl) rfl ?_
        refine OpsW.guard_yes rfl rfl ?_
        refine OpsW.det (Det.to (det_call en16 rfl (fun w hb ho => same_ok ((Bs.own (small_take hDs) hownq).mono (fun p hp => List.mem_append_right [(_, _), (_, _), (_, _), (_, _)] (List.mem_append_right _ (List.mem_append_left _ hp)))) ((Bs.own (small_take hDs) hownr).mono (fun p hp => List.mem_append_right [(_, _), (_, _), (_, _), (_, _)] (List.mem_append_right _ (List.mem_append_right _ (List.mem_append_right _ (List.mem_append_left _ hp)))))) (by omega) hb)) (congrArg Value.bool (decide_eq_true rfl))) rfl ?_
        refine OpsW.det (det_pick rfl rfl) rfl ?_
        refine OpsW.det (det_assign rfl) rfl ?_
        refine sNext ?_
        refine W.keep (F' := [(10, _)]) ⟨rfl, trivial⟩ ?_
        refine sRet ?_
        exact done1 Try.results3 (rv_tmp rfl) rfl
      · skip
        refine OpsW.det (det_move rfl) rfl ?_
        refine OpsW.guard_no rfl rfl rfl ?_
        refine OpsW.guard_no rfl rfl rfl ?_
        refine OpsW.det (det_pick rfl rfl) rfl ?_
        refine OpsW.det (det_move rfl) rfl ?_
        refine OpsW.guard_no rfl rfl rfl ?_
        refine OpsW.guard_no rfl rfl rfl ?_
        refine OpsW.guard_no rfl rfl rfl ?_
        refine OpsW.guard_no rfl rfl rfl ?_
        refine OpsW.guard_no rfl rfl rfl ?_
        refine OpsW.guard_no rfl rfl rfl ?_
        refine OpsW.guard_no rfl rfl rfl ?_
        refine OpsW.guard_no rfl rfl rfl ?_
        refine OpsW.det (det_pick rfl rfl) rfl ?_
        refine sNext ?_
        refine W.keep (F' := [(112, _), (14, _), (11, _)]) ⟨rfl, rfl, rfl, trivial⟩ ?_
        refine W.cond_false rfl ?_
        refine sSkip ?_
        refine sSeq ?_
        refine W.region ?_
        refine OpsW.det (det_move rfl) rfl ?_
        refine OpsW.changeM (Hl := [(_, _), (_, _), (_, _), (_, _)]) (Hd := H60) (Hr := (hp71 ++ (hpr ++ []))) en14 rfl (fun w hb hbn ho hbm => Crash_ok (G' := []) hD6 (ok_one (by rw [List.length_take]; omega) (by rw [List.length_take]; unfold maxRoom; omega) (small_take hDs) (by omega) (by decide) (by omega)) (by show st5 < 4611686018427387904; omega) Ints.nil (by decide) (fun _ h => by cases h) nob (bl_mid (Hl := [(_, _), (_, _), (_, _), (_, _)]) hb) (nd_mid (Hl := [(_, _), (_, _), (_, _), (_, _)]) hbn) (fun _ h => by cases h)) rfl (fun v114 H114 hS114 => ?_)
        obtain ⟨hv114, hD7⟩ := hS114
        obtain ⟨n2, hn3, hn4, hcr2, hn5⟩ := crash_one (s := [120]) (d := Dt.take n) (k := n) (room := 4194304) (st := st5) (fu := 0) (dn := false) (keep := []) (by rw [hnl]; exact Nat.le_refl _)
        rw [hcr2, hn5 hnl.symm, (tk_tk hn2).1] at hD7
        subst hv114
        refine OpsW.norm (H' := ((_, _) :: (_, _) :: (_, _) :: (_, _) :: (H114 ++ (hp71 ++ (hpr ++ []))))) rfl rfl ?_
        refine sNext ?_
        refine W.keep (F' := [(14, _), (11, _)]) ⟨rfl, rfl, trivial⟩ ?_
        refine sSeq ?_
        refine W.region ?_
        refine OpsW.det (det_move rfl) rfl ?_
        refine OpsW.change (Hf := []) en15 rfl (fun w hb hbn ho hbm => Read_d hD7 (ok_one (by rw [List.length_take]; omega) (by rw [List.length_take]; unfold maxRoom; omega) (small_take hDs) (by omega) (by decide) (by omega)) (by decide) (bl_mid (Hl := [(_, _), (_, _), (_, _), (_, _)]) hb)) rfl (fun v117 H117 hS117 => ?_)
        obtain ⟨adq, capq, hpq, nq, hvq, hnq, hownq, hsubq⟩ := hS117
        rw [readA_one (s := [120]) (by decide)] at hvq hnq hownq
        dsimp only at hvq hnq hownq
        subst hvq
        subst hnq
        refine OpsW.tuck (Hl := [(_, _), (_, _), (_, _), (_, _)]) (Hd := H114) (Hr := (hp71 ++ (hpr ++ []))) (hp := hpq) hsubq ?_
        refine OpsW.norm (H' := ((_, _) :: (_, _) :: (_, _) :: (_, _) :: (H114 ++ (hpq ++ (hp71 ++ (hpr ++ [])))))) rfl rfl ?_
        refine OpsW.det (det_move rfl) rfl ?_
        refine OpsW.det (det_extract rfl rfl) rfl ?_
        refine OpsW.det (det_extract rfl rfl) rfl ?_
        refine OpsW.det (det_assign rfl) rfl ?_
        refine OpsW.det (det_assign rfl) rfl ?_
        refine sNext ?_
        refine W.keep (F' := [(15, _), (17, _), (14, _)]) ⟨rfl, rfl, rfl, trivial⟩ ?_
        refine sSeq ?_
        refine W.region ?_
        refine OpsW.det (det_move rfl) rfl ?_
        refine OpsW.det (Det.to (det_eql rfl rfl) (congrArg Value.bool (rfl))) rfl ?_
        refine OpsW.det (det_move rfl) rfl ?_
        refine OpsW.guard_yes rfl rfl ?_
        refine OpsW.det (det_move rfl) rfl ?_
        refine OpsW.guard_yes rfl rfl ?_
        refine OpsW.det (det_move rfl) rfl ?_
        refine OpsW.guard_yes rfl rfl ?_
        refine OpsW.det (Det.to (det_call en16 rfl (fun w hb ho => same_ok ((Bs.own (small_take hDs) hownq).mono (fun p hp => List.mem_append_right [(_, _), (_, _), (_, _), (_, _)] (List.mem_append_right _ (List.mem_append_left _ hp)))) ((Bs.own (small_take hDs) hownr).mono (fun p hp => List.mem_append_right [(_, _), (_, _), (_, _), (_, _)] (List.mem_append_right _ (List.mem_append_right _ (List.mem_append_right _ (List.mem_append_left _ hp)))))) (by omega) hb)) (congrArg Value.bool (decide_eq_true rfl))) rfl ?_
        refine OpsW.det (det_pick rfl rfl) rfl ?_
        refine OpsW.det (det_assign rfl) rfl ?_
        refine sNext ?_
        refine W.keep (F' := [(10, _)]) ⟨rfl, trivial⟩ ?_
        refine sRet ?_
        exact done1 Try.results3 (rv_tmp rfl) rfl
    · skip
      have hp := if_two hc52
      obtain ⟨st5, fu5, dn5, Dt, hD5, hst5, hfu5, hDt⟩ : ∃ st fu dn Dt, DiskIs bD ⟨[⟨[120], Dt, a.length⟩], 4194304, st, fu, dn⟩ H50 ∧ st ≤ 4 ∧ fu ≤ 9223372036854775807 ∧ Dt = a ++ b := ⟨_, _, _, _, hD4, by have := @stp_st 2 F false; have := @stp_st 3 (F - 1) false; omega, by have := @stp_st 2 F false; have := @stp_st 3 (F - 1) false; omega, rfl⟩
      have hDl : a.length ≤ Dt.length ∧ Dt.length ≤ a.length + b.length + c.length := by rw [hDt]; simp only [List.length_append]; omega
      have hDs : ∀ z ∈ Dt, z < 256 := by rw [hDt]; exact small_app hsa hsb
      have hpre : ∀ m, m ≤ Dt.length → Dt.take m = (a ++ b ++ c).take m := by intro m hm; rw [hDt] at hm ⊢; rw [List.take_append_of_le_length hm]
      obtain ⟨n, hn1, hn2, hcr, _⟩ := crash_one (s := [120]) (d := Dt) (k := a.length) (room := 4194304) (st := st5) (fu := fu5) (dn := dn5) (keep := [z]) hDl.1
      have hnl : (Dt.take n).length = n := by rw [List.length_take]; omega
      refine sSkip ?_
      refine sSeq ?_
      refine W.region ?_
      refine OpsW.det (det_move rfl) rfl ?_
      refine OpsW.det (det_move rfl) rfl ?_
      refine OpsW.fresh (fr_buildSlice rfl slice32) rfl fun b59 => ?_
      refine OpsW.changeM (Hl := [(_, _), (_, _), (_, _)]) (Hd := H50) (Hr := []) en14 rfl (fun w hb hbn ho hbm => Crash_ok hD5 (ok_one hDl.1 (by unfold maxRoom; omega) hDs (by omega) (by decide) hfu5) (by show st5 < 4611686018427387904; omega) (Ints.lit.mono (fun p hp => by rw [List.mem_singleton.1 hp]; exact (List.Mem.head _))) (Nat.le_of_ble_eq_true rfl) (fun y hy => by rw [List.mem_singleton.1 hy]; exact hz) (bl_left (Hl := [(_, _), (_, _), (_, _)]) hb) (bl_mid (Hl := [(_, _), (_, _), (_, _)]) hb) (nd_mid (Hl := [(_, _), (_, _), (_, _)]) hbn) (nd_dis (Hl := [(_, _), (_, _), (_, _)]) hbn)) rfl (fun v60 H60 hS60 => ?_)
      obtain ⟨hv60, hD6⟩ := hS60
      rw [hcr] at hD6
      subst hv60
      refine OpsW.norm (H' := ((_, _) :: (_, _) :: (_, _) :: (H60 ++ []))) rfl rfl ?_
      refine sNext ?_
      refine W.keep (F' := [(13, _), (12, _), (11, _), (0, _), (1, _), (2, _)]) ⟨rfl, rfl, rfl, rfl, rfl, rfl, trivial⟩ ?_
      refine sSeq ?_
      refine W.region ?_
      refine OpsW.det (det_move rfl) rfl ?_
      refine OpsW.change (Hf := []) en15 rfl (fun w hb hbn ho hbm => Read_d hD6 (ok_one (by rw [List.length_take]; omega) (by rw [List.length_take]; unfold maxRoom; omega) (small_take hDs) (by omega) (by decide) (by omega)) (by decide) (bl_mid (Hl := [(_, _), (_, _), (_, _)]) hb)) rfl (fun v63 H63 hS63 => ?_)
      obtain ⟨adr, capr, hpr, nr, hvr, hnr, hownr, hsubr⟩ := hS63
      rw [readA_one (s := [120]) (by decide)] at hvr hnr hownr
      dsimp only at hvr hnr hownr
      subst hvr
      subst hnr
      refine OpsW.tuck (Hl := [(_, _), (_, _), (_, _)]) (Hd := H60) (Hr := []) (hp := hpr) hsubr ?_
      refine OpsW.norm (H' := ((_, _) :: (_, _) :: (_, _) :: (H60 ++ (hpr ++ [])))) rfl rfl ?_
      refine OpsW.det (det_move rfl) rfl ?_
      refine OpsW.det (det_extract rfl rfl) rfl ?_
      refine OpsW.det (det_extract rfl rfl) rfl ?_
      refine OpsW.det (det_assign rfl) rfl ?_
      refine OpsW.det (det_assign rfl) rfl ?_
      refine sNext ?_
      refine W.keep (F' := [(15, _), (14, _), (13, _), (12, _), (11, _), (0, _), (1, _), (2, _)]) ⟨rfl, rfl, rfl, rfl, rfl, rfl, rfl, rfl, trivial⟩ ?_
      refine sSeq ?_
      refine W.region ?_
      refine OpsW.det (det_move rfl) rfl ?_
      refine OpsW.new (new_call en11 rfl (fun w hb ho => Copy_ok hBa (by omega) ho.blocks)) rfl fun p67 hp67 => ?_
      refine OpsW.det (det_move rfl) rfl ?_
      refine OpsW.appendOwn (hp := [(p67.1, blk (bcells a ++ []) 5)]) Go.Cu.ty22 rfl (.at_ (bcells_length a) (Nat.le_refl _) (by rw [List.append_nil, bcells_length]; exact Nat.le_refl _) (by show a.length ≤ 9223372036854775807; omega)) rfl (hBb.src (fun p hp => .inr hp)) (bcells_one b) (by show a.length + b.length ≤ 9223372036854775807; omega) (by omega) rfl (fun ad69 cap69 hp69 hown69 => ?_)
      refine OpsW.det (det_move rfl) rfl ?_
      refine OpsW.appendOwn (hp := hp69) Go.Cu.ty22 rfl hown69 rfl (hBc.src (fun p hp => .inr hp)) (bcells_one c) (by show a.length + b.length + c.length ≤ 9223372036854775807; omega) (by omega) rfl (fun ad71 cap71 hp71 hown71 => ?_)
      rw [← bcells_app, ← bcells_app] at hown71
      refine OpsW.tuck (Hl := [(_, _), (_, _), (_, _)]) (Hd := H60) (Hr := (hpr ++ [])) (hp := hp71) (List.Sublist.refl _) ?_
      have hall : Bs hp71 (.slice ad71 (a.length + b.length + c.length) cap71) (a ++ b ++ c) := Bs.own hs71 hown71
      refine OpsW.det (det_assign rfl) rfl ?_
      refine sNext ?_
      refine W.keep (F' := [(16, _), (15, _), (14, _), (13, _), (12, _), (11, _), (0, _), (1, _)]) ⟨rfl, rfl, rfl, rfl, rfl, rfl, rfl, rfl, trivial⟩ ?_
      refine sSeq ?_
      refine sSeq ?_
      refine W.region ?_
      refine OpsW.det (det_move rfl) rfl ?_
      refine OpsW.det (Det.to (det_neq rfl rfl) (congrArg Value.bool (rfl))) rfl ?_
      refine OpsW.det (det_move rfl) rfl ?_
      refine OpsW.guard_yes rfl rfl ?_
      refine OpsW.det (det_move rfl) rfl ?_
      refine OpsW.guard_yes rfl rfl ?_
      refine OpsW.det (det_len u22 rfl) rfl ?_
      refine OpsW.guard_yes rfl rfl ?_
      refine OpsW.det (det_move rfl) rfl ?_
      refine OpsW.guard_yes rfl rfl ?_
      refine OpsW.det (det_len u22 rfl) rfl ?_
      refine OpsW.guard_yes rfl rfl ?_
      refine OpsW.det (Det.to (det_lss rfl rfl) (congrArg Value.bool (decide_eq_false (by rw [hnl]; omega)))) rfl ?_
      refine OpsW.det (det_pick rfl rfl) rfl ?_
      refine OpsW.det (det_move rfl) rfl ?_
      refine OpsW.guard_yes rfl rfl ?_
      refine OpsW.det (det_move rfl) rfl ?_
      refine OpsW.guard_yes rfl rfl ?_
      refine OpsW.det (det_len u22 rfl) rfl ?_
      refine OpsW.guard_yes rfl rfl ?_
      refine OpsW.det (det_move rfl) rfl ?_
      refine OpsW.guard_yes rfl rfl ?_
      refine OpsW.det (det_len u22 rfl) rfl ?_
      refine OpsW.guard_yes rfl rfl ?_
      refine OpsW.det (Det.to (det_gtr rfl rfl) (congrArg Value.bool (decide_eq_false (by rw [hnl]; omega)))) rfl ?_
      refine OpsW.det (det_pick rfl rfl) rfl ?_
      refine OpsW.det (det_move rfl) rfl ?_
      refine OpsW.guard_yes rfl rfl ?_
      refine OpsW.det (det_move rfl) rfl ?_
      refine OpsW.guard_yes rfl rfl ?_
      refine OpsW.det (det_move rfl) rfl ?_
      refine OpsW.guard_yes rfl rfl ?_
      refine OpsW.det (det_move rfl) rfl ?_
      refine OpsW.guard_yes rfl rfl ?_
      refine OpsW.det (det_len u22 rfl) rfl ?_
      refine OpsW.guard_yes rfl rfl ?_
      refine OpsW.det (det_sliceTo u22 sz5 rfl rfl (by have := hown71.cap; omega) hown71.spot) rfl ?_
      refine OpsW.guard_yes rfl rfl ?_
      refine OpsW.det (Det.to (det_call en16 rfl (fun w hb ho => same_ok ((Bs.own (small_take hDs) hownr).mono (fun p hp => List.mem_append_right [(_, _), (_, _), (_, _)] (List.mem_append_right _ (List.mem_append_right _ (List.mem_append_left _ hp))))) ((bs_take hall (k := (Dt.take n).length) (by simp only [List.length_append]; omega)).mono (fun p hp => List.mem_append_right [(_, _), (_, _), (_, _)] (List.mem_append_right _ (List.mem_append_left _ hp)))) (by omega) hb)) (congrArg Value.bool (decide_eq_true (by rw [hnl]; exact hpre n hn2)))) rfl ?_
      refine OpsW.guard_yes rfl rfl ?_
      refine OpsW.det (det_not rfl) rfl ?_
      refine OpsW.det (det_pick rfl rfl) rfl ?_
      refine sNext ?_
      refine W.keep (F' := [(96, _), (14, _), (13, _), (12, _), (11, _), (0, _), (1, _)]) ⟨rfl, rfl, rfl, rfl, rfl, rfl, rfl, trivial⟩ ?_
      refine W.cond_false rfl ?_
      refine sSkip ?_
      refine sSeq ?_
      refine sSeq ?_
      refine W.region ?_
      refine OpsW.det (det_move rfl) rfl ?_
      refine OpsW.det (Det.to (det_neq rfl rfl) (congrArg Value.bool (rfl))) rfl ?_
      refine OpsW.det (det_move rfl) rfl ?_
      refine OpsW.guard_yes rfl rfl ?_
      refine OpsW.det (det_move rfl) rfl ?_
      refine OpsW.guard_yes rfl rfl ?_
      refine OpsW.det (Det.to (det_neq rfl rfl) (congrArg Value.bool (by rw [show (stp 2 F false).1 = false from hp]))) rfl ?_
      refine OpsW.det (det_pick rfl rfl) rfl ?_
      refine OpsW.det (det_move rfl) rfl ?_
      refine OpsW.guard_yes rfl rfl ?_
      refine OpsW.det (det_move rfl) rfl ?_
      refine OpsW.guard_yes rfl rfl ?_
      refine OpsW.det (det_len u22 rfl) rfl ?_
      refine OpsW.guard_yes rfl rfl ?_
      refine OpsW.det (det_move rfl) rfl ?_
      refine OpsW.guard_yes rfl rfl ?_
      refine OpsW.det (det_len u22 rfl) rfl ?_
      refine OpsW.guard_yes rfl rfl ?_
      refine OpsW.det (det_move rfl) rfl ?_
      refine OpsW.guard_yes rfl rfl ?_
      refine OpsW.det (det_len u22 rfl) rfl ?_
      refine OpsW.guard_yes rfl rfl ?_
      refine OpsW.det (det_addN rfl rfl (by omega)) rfl ?_
      refine OpsW.guard_yes rfl rfl ?_
      refine OpsW.det (Det.to (det_gtr rfl rfl) (congrArg Value.bool (decide_eq_false (by have h1 := congrArg List.length hDt; simp only [List.length_append] at h1; omega)))) rfl ?_
      refine OpsW.det (det_pick rfl rfl) rfl ?_
      refine sNext ?_
      refine W.keep (F' := [(112, _), (14, _), (11, _)]) ⟨rfl, rfl, rfl, trivial⟩ ?_
      refine W.cond_false rfl ?_
      refine sSkip ?_
      refine sSeq ?_
      refine W.region ?_
      refine OpsW.det (det_move rfl) rfl ?_
      refine OpsW.changeM (Hl := [(_, _), (_, _), (_, _)]) (Hd := H60) (Hr := (hp71 ++ (hpr ++ []))) en14 rfl (fun w hb hbn ho hbm => Crash_ok (G' := []) hD6 (ok_one (by rw [List.length_take]; omega) (by rw [List.length_take]; unfold maxRoom; omega) (small_take hDs) (by omega) (by decide) (by omega)) (by show st5 < 4611686018427387904; omega) Ints.nil (by decide) (fun _ h => by cases h) nob (bl_mid (Hl := [(_, _), (_, _), (_, _)]) hb) (nd_mid (Hl := [(_, _), (_, _), (_, _)]) hbn) (fun _ h => by cases h)) rfl (fun v114 H114 hS114 => ?_)
      obtain ⟨hv114, hD7⟩ := hS114
      obtain ⟨n2, hn3, hn4, hcr2, hn5⟩ := crash_one (s := [120]) (d := Dt.take n) (k := n) (room := 4194304) (st := st5) (fu := 0) (dn := false) (keep := []) (by rw [hnl]; exact Nat.le_refl _)
      rw [hcr2, hn5 hnl.symm, (tk_tk hn2).1] at hD7
      subst hv114
      refine OpsW.norm (H' := ((_, _) :: (_, _) :: (_, _) :: (H114 ++ (hp71 ++ (hpr ++ []))))) rfl rfl ?_
      refine sNext ?_
      refine W.keep (F' := [(14, _), (11, _)]) ⟨rfl, rfl, trivial⟩ ?_
      refine sSeq ?_
      refine W.region ?_
      refine OpsW.det (det_move rfl) rfl ?_
      refine OpsW.change (Hf := []) en15 rfl (fun w hb hbn ho hbm => Read_d hD7 (ok_one (by rw [List.length_take]; omega) (by rw [List.length_take]; unfold maxRoom; omega) (small_take hDs) (by omega) (by decide) (by omega)) (by decide) (bl_mid (Hl := [(_, _), (_, _), (_, _)]) hb)) rfl (fun v117 H117 hS117 => ?_)
      obtain ⟨adq, capq, hpq, nq, hvq, hnq, hownq, hsubq⟩ := hS117
      rw [readA_one (s := [120]) (by decide)] at hvq hnq hownq
      dsimp only at hvq hnq hownq
      subst hvq
      subst hnq
      refine OpsW.tuck (Hl := [(_, _), (_, _), (_, _)]) (Hd := H114) (Hr := (hp71 ++ (hpr ++ []))) (hp := hpq) hsubq ?_
      refine OpsW.norm (H' := ((_, _) :: (_, _) :: (_, _) :: (H114 ++ (hpq ++ (hp71 ++ (hpr ++ [])))))) rfl rfl ?_
      refine OpsW.det (det_move rfl) rfl ?_
      refine OpsW.det (det_extract rfl rfl) rfl ?_
      refine OpsW.det (det_extract rfl rfl) rfl ?_
      refine OpsW.det (det_assign rfl) rfl ?_
      refine OpsW.det (det_assign rfl) rfl ?_
      refine sNext ?_
      refine W.keep (F' := [(15, _), (17, _), (14, _)]) ⟨rfl, rfl, rfl, trivial⟩ ?_
      refine sSeq ?_
      refine W.region ?_
      refine OpsW.det (det_move rfl) rfl ?_
      refine OpsW.det (Det.to (det_eql rfl rfl) (congrArg Value.bool (rfl))) rfl ?_
      refine OpsW.det (det_move rfl) rfl ?_
      refine OpsW.guard_yes rfl rfl ?_
      refine OpsW.det (det_move rfl) rfl ?_
      refine OpsW.guard_yes rfl rfl ?_
      refine OpsW.det (det_move rfl) rfl ?_
      refine OpsW.guard_yes rfl rfl ?_
      refine OpsW.det (Det.to (det_call en16 rfl (fun w hb ho => same_ok ((Bs.own (small_take hDs) hownq).mono (fun p hp => List.mem_append_right [(_, _), (_, _), (_, _)] (List.mem_append_right _ (List.mem_append_left _ hp)))) ((Bs.own (small_take hDs) hownr).mono (fun p hp => List.mem_append_right [(_, _), (_, _), (_, _)] (List.mem_append_right _ (List.mem_append_right _ (List.mem_append_right _ (List.mem_append_left _ hp)))))) (by omega) hb)) (congrArg Value.bool (decide_eq_true rfl))) rfl ?_
      refine OpsW.det (det_pick rfl rfl) rfl ?_
      refine OpsW.det (det_assign rfl) rfl ?_
      refine sNext ?_
      refine W.keep (F' := [(10, _)]) ⟨rfl, trivial⟩ ?_
      refine sRet ?_
      exact done1 Try.results3 (rv_tmp rfl) rfl

end Go.Dk
