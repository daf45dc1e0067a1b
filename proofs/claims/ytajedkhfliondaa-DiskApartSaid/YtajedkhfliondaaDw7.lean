/-
  The disk's Sync: the walk. Conditions: those of a disk.
-/
import Derived.Test.YtajedkhfliondaaDw6
namespace Go.Dk
open Go Go.Vm Go.RowKit Go.Proofs Go.Cu
attribute [local irreducible] W OpsW Det Fresh New Writes Vm.Pure Makes Changes ExternTo BuildTo ZeroTo FieldTo IndexTo BinTo SliceTo Vm.Enters
set_option linter.unusedVariables false
set_option linter.unusedSimpArgs false

theorem bld69 {ad : Option Addr} {n c : Nat} {k : Int} : BuildTo Try.prog 69 [(0, .slice ad n c), (1, .int .i64 k)] (.agg [.slice ad n c, .int .i64 k].toArray) := BuildTo.of fun _ => by kernel_rfl
theorem min_nat {a b : Nat} : min ((a : Nat) : Int) ((b : Nat) : Int) = ((min a b : Nat) : Int) := by omega
theorem neg_of {k : Int} (h : decide (k < 0) = true) : k < 0 := of_decide_eq_true h


theorem Sync_ok {bD : Nat} {A : AD} {Hd : Hp} (hD : DiskIs bD A Hd) (hA0 : A.ok) (hst : A.steps < 4611686018427387904) {s : Nm} (hs : s.length ≤ 9223372036854775807) {w : World} (hG : Blocks [] w) (hHd : Blocks Hd w) (hndH : (Hd.map (·.1)).Nodup)  : Changes Try.prog 12 #[dptr bD, sv s] w Hd (fun v H' => v = .int .i64 ((sync A s).2 : Nat) ∧ DiskIs bD (sync A s).1 H') := by
  refine changes_of_W (G := []) (n := 46) (args := [dptr bD, sv s]) Try.func12 rfl Try.ntmps12 (Nat.le_of_ble_eq_true rfl) (fun p hp => by cases hp) hHd hndH ?_
  refine sStart ?_
  refine DiskIs.W hD (fun r bm hr hrA => ?_)
  obtain ⟨fs, clk, room, steps, fuse, down⟩ := r
  subst hrA
  have hA : AD.ok ⟨fs.map FE.fl, room, steps, fuse, down⟩ := hA0
  have hst : steps < 4611686018427387904 := hst
  have hfu : fuse ≤ 9223372036854775807 := hA.fuse
  have hnd : (fs.map (·.born)).Nodup := hr.borns
  have hold : ∀ f ∈ fs, f.born < clk := hr.old
  have hok : ∀ f ∈ fs, f.ok := hr.files
  refine W.norm (F' := [(0, dptr bD), (1, sv s)]) (H' := (bD, dblk bm room steps fuse down) :: (bm, mobj (fs.map FE.me) clk) :: fhp fs) rfl rfl ?_
  refine sSeq ?_
  refine W.region ?_
  refine OpsW.det (det_assign rfl) rfl ?_
  refine sNext ?_
  refine W.keep (F' := [(0, _), (1, _)]) ⟨rfl, rfl, trivial⟩ ?_
  refine sSeq ?_
  refine sSeq ?_
  refine W.region ?_
  refine OpsW.det (det_move rfl) rfl ?_
  refine OpsW.det (det_move rfl) rfl ?_
  refine OpsW.det (det_call en31 rfl (fun w hb ho => barsT_ok hs hb)) rfl ?_
  refine OpsW.det (det_assign rfl) rfl ?_
  refine sNext ?_
  refine W.keep (F' := [(5, _), (0, _), (1, _)]) ⟨rfl, rfl, rfl, trivial⟩ ?_
  refine sSeq ?_
  refine W.region ?_
  refine OpsW.det (det_move rfl) rfl ?_
  refine OpsW.det (det_neq rfl rfl) rfl ?_
  refine sNext ?_
  refine W.keep (F' := [(11, _), (5, _), (0, _), (1, _)]) ⟨rfl, rfl, rfl, rfl, trivial⟩ ?_
  refine W.cond rfl (fun hc11 => ?_) (fun hc11 => ?_)
  · skip
    have hb1 : bars ⟨fs.map FE.fl, room, steps, fuse, down⟩ s true ≠ 0 := by have h := hc11; simp only [bne_iff_ne, ne_eq] at h; omega
    refine sSeq ?_
    refine W.region ?_
    refine OpsW.det (det_move rfl) rfl ?_
    refine OpsW.det (det_assign rfl) rfl ?_
    refine sNext ?_
    refine W.keep (F' := [(4, _)]) ⟨rfl, trivial⟩ ?_
    refine sRet ?_
    have he : sync (⟨fs.map FE.fl, room, steps, fuse, down⟩ : AD) s = ((⟨fs.map FE.fl, room, steps, fuse, down⟩ : AD), bars (⟨fs.map FE.fl, room, steps, fuse, down⟩ : AD) s true) := by unfold sync; rw [if_pos hb1]
    exact done1 Try.results12 (rv_tmp rfl) ⟨by show _ = Value.int .i64 (((sync (⟨fs.map FE.fl, room, steps, fuse, down⟩ : AD) s).2 : Nat) : Int); rw [he], ⟨⟨fs, clk, room, steps, fuse, down⟩, bm, _, hr, by show _ = (sync (⟨fs.map FE.fl, room, steps, fuse, down⟩ : AD) s).1; rw [he]; rfl, List.Perm.refl _, List.Sublist.refl _⟩⟩
  · skip
    have hb1 : bars ⟨fs.map FE.fl, room, steps, fuse, down⟩ s true = 0 := by have h := hc11; simp only [bne_eq_false_iff_eq] at h; omega
    refine sSkip ?_
    refine sSeq ?_
    obtain ⟨l1, f, l2, hfs, hfnm, hfl, hmf, hgf, hf⟩ := look_at (bars_there hb1)
    have hfsz := fe_small hA hf
    have hft := safe_le hf
    have htt := htot' hA
    refine W.region ?_
    refine OpsW.det (det_move rfl) rfl ?_
    refine OpsW.det (det_nilCheck rfl) rfl ?_
    refine OpsW.det (det_fieldAddr fl66_0 rfl) rfl ?_
    refine OpsW.det (det_loadC ty64 rfl (List.Mem.head _) rfl) rfl ?_
    refine OpsW.det (det_move rfl) rfl ?_
    refine OpsW.det (Det.to (v := f.val) (det_lookup tm64 rfl rfl (.inl (List.Mem.tail _ (List.Mem.head _)))) (by rw [hmf]; rfl)) rfl ?_
    refine OpsW.fresh (fr_alloc z69) rfl fun b6 => ?_
    refine OpsW.store sz69 rfl rfl rfl rfl rfl (Upd.here) rfl ?_
    refine sNext ?_
    refine W.keep (F' := [(6, _), (0, _), (1, _)]) ⟨rfl, rfl, rfl, trivial⟩ ?_
    refine sSeq ?_
    refine sSeq ?_
    refine W.draw mixed 14 [[], [0], [], [2], [0, 1, 2, 3], [], [5], [5, 6], [0, 1, 2, 3, 4, 5, 6, 7], [], [9], [9, 10], [9, 10, 11], [0, 1, 2, 3, 4, 5, 6, 7, 8, 9, 10, 11, 12]] (cl_lt (by decide)) ?_
    refine HeadR.start (cl_lt (by decide)) ?_
    refine HeadR.det rfl (fun β hβ => (det_move rfl)) ?_
    refine HeadR.det rfl (fun β hβ => (det_call en33 rfl (fun w hb ho => safe_ok hnd hold (by have := htot' hA; omega) (blocks_sub (List.sublist_cons_self _ _) hb)))) ?_
    refine HeadR.det rfl (fun β hβ => (det_fieldAddr fl69_1 rfl)) ?_
    refine HeadR.det rfl (fun β hβ => (det_loadC ty3 rfl (List.Mem.head _) rfl)) ?_
    refine HeadR.det rfl (fun β hβ => (det_subZ (c := ((total (fs.map FE.fl) - f.safe : Nat) : Int)) rfl rfl (by omega) (by omega))) ?_
    refine HeadR.det rfl (fun β hβ => (det_fieldAddr fl69_0 rfl)) ?_
    refine HeadR.det rfl (fun β hβ => (det_loadC ty22 rfl (List.Mem.head _) rfl)) ?_
    refine HeadR.det rfl (fun β hβ => (det_len u22 rfl)) ?_
    refine HeadR.det rfl (fun β hβ => (det_addN rfl rfl (by omega))) ?_
    refine HeadR.det rfl (fun β hβ => (det_move rfl)) ?_
    refine HeadR.det rfl (fun β hβ => (det_nilCheck rfl)) ?_
    refine HeadR.det rfl (fun β hβ => (det_fieldAddr fl66_1 rfl)) ?_
    refine HeadR.det rfl (fun β hβ => (det_loadC ty3 rfl (List.Mem.tail _ (List.Mem.head _)) rfl)) ?_
    refine HeadR.det rfl (fun β hβ => (det_gtr rfl rfl)) ?_
    refine HeadR.done ⟨by kernel_rfl, fun β hβ => ?_⟩
    refine OpsW.norm (F' := [(19, _), (20, _), (21, _), (22, _), (23, _), (24, _), (25, _), (26, _), (27, _), (28, _), (29, _), (30, _), (31, _), (32, _), (6, _), (0, _), (1, _)]) (H' := ((_, _) :: (_, _) :: (_, _) :: (fhp fs))) rfl rfl ?_
    refine sNext ?_
    refine W.keep (F' := [(32, _), (6, _), (0, _), (1, _)]) ⟨rfl, rfl, rfl, rfl, trivial⟩ ?_
    refine W.cond rfl (fun hc32 => ?_) (fun hc32 => ?_)
    · skip
      refine sSeq ?_
      refine W.region ?_
      refine OpsW.det (det_assign rfl) rfl ?_
      refine sNext ?_
      refine W.keep (F' := [(4, _)]) ⟨rfl, trivial⟩ ?_
      refine sRet ?_
      have hbig : room + (getF s (fs.map FE.fl)).safe < total (fs.map FE.fl) + (getF s (fs.map FE.fl)).data.length := by rw [hgf]; have h := hc32; simp only [decide_eq_true_eq] at h; simp only [FE.fl]; omega
      have he : sync (⟨fs.map FE.fl, room, steps, fuse, down⟩ : AD) s = ((⟨fs.map FE.fl, room, steps, fuse, down⟩ : AD), 42) := by unfold sync; rw [if_neg (fun h => h hb1), if_pos hbig]
      exact done1 Try.results12 (rv_tmp rfl) ⟨by show _ = Value.int .i64 (((sync (⟨fs.map FE.fl, room, steps, fuse, down⟩ : AD) s).2 : Nat) : Int); rw [he]; rfl, ⟨⟨fs, clk, room, steps, fuse, down⟩, bm, _, hr, by show _ = (sync (⟨fs.map FE.fl, room, steps, fuse, down⟩ : AD) s).1; rw [he]; rfl, List.Perm.refl _, List.sublist_cons_self _ _⟩⟩
    · skip
      refine sSkip ?_
      refine sSeq ?_
      refine sSeq ?_
      refine W.region ?_
      refine OpsW.det (det_move rfl) rfl ?_
      refine OpsW.front1 ?_
      refine OpsW.change (Hf := [(_, _)]) en34 rfl (fun w hb hbn ho hbm => step_ok (by omega) hfu (blocks_sub (List.Sublist.cons_cons _ (List.nil_sublist _)) hb)) rfl (fun v34 H34 hS34 => ?_)
      obtain ⟨rfl, rfl⟩ := hS34
      refine OpsW.norm (H' := ((_, _) :: (_, _) :: (_, _) :: (fhp fs))) rfl rfl ?_
      refine OpsW.det (det_not rfl) rfl ?_
      refine sNext ?_
      refine W.keep (F' := [(35, _), (6, _), (0, _), (1, _)]) ⟨rfl, rfl, rfl, rfl, trivial⟩ ?_
      refine W.cond rfl (fun hc35 => ?_) (fun hc35 => ?_)
      · skip
        have hp1 : (stp steps fuse down).1 = false := by have h := hc35; simpa using h
        refine sSeq ?_
        refine W.region ?_
        refine OpsW.det (det_assign rfl) rfl ?_
        refine sNext ?_
        refine W.keep (F' := [(4, _)]) ⟨rfl, trivial⟩ ?_
        refine sRet ?_
        have he : sync (⟨fs.map FE.fl, room, steps, fuse, down⟩ : AD) s = ((step (⟨fs.map FE.fl, room, steps, fuse, down⟩ : AD)).1, 2) := by unfold sync; rw [if_neg (fun h => h hb1), if_neg (show ¬ room + (getF s (fs.map FE.fl)).safe < total (fs.map FE.fl) + (getF s (fs.map FE.fl)).data.length from by rw [hgf]; have h := hc32; simp only [decide_eq_false_iff_not] at h; simp only [FE.fl]; omega), if_pos (show (step (⟨fs.map FE.fl, room, steps, fuse, down⟩ : AD)).2 = false from by rw [step_eq]; exact hp1)]
        rw [step_eq] at he
        exact done1 Try.results12 (rv_tmp rfl) ⟨by show _ = Value.int .i64 (((sync (⟨fs.map FE.fl, room, steps, fuse, down⟩ : AD) s).2 : Nat) : Int); rw [he]; rfl, ⟨⟨fs, clk, room, (stp steps fuse down).2.1, (stp steps fuse down).2.2.1, (stp steps fuse down).2.2.2⟩, bm, _, (rp_any hr), by show _ = (sync (⟨fs.map FE.fl, room, steps, fuse, down⟩ : AD) s).1; rw [he]; rfl, List.Perm.refl _, ((List.Sublist.refl _).cons _).cons_cons _⟩⟩
      · skip
        have hp1 : (stp steps fuse down).1 = true := by have h := hc35; simpa using h
        refine sSkip ?_
        refine sSeq ?_
        refine W.region ?_
        refine OpsW.det (det_fieldAddr fl69_0 rfl) rfl ?_
        refine OpsW.det (det_loadC ty22 rfl (List.Mem.tail _ (List.Mem.head _)) rfl) rfl ?_
        refine OpsW.det (det_len u22 rfl) rfl ?_
        refine OpsW.det (det_fieldAddr fl69_1 rfl) rfl ?_
        refine OpsW.store sz3 rfl rfl rfl rfl rfl (Upd.there (Upd.here)) rfl ?_
        refine sNext ?_
        refine W.keep (F' := [(6, _), (0, _), (1, _)]) ⟨rfl, rfl, rfl, trivial⟩ ?_
        refine sSeq ?_
        refine W.draw mixed 6 [[], [0], [0, 1], [0, 1, 2], [], [], [0, 1, 2, 3, 4, 5]] (cl_lt (by decide)) ?_
        refine HeadR.start (cl_lt (by decide)) ?_
        refine HeadR.det rfl (fun β hβ => (det_move rfl)) ?_
        refine HeadR.det rfl (fun β hβ => (det_nilCheck rfl)) ?_
        refine HeadR.det rfl (fun β hβ => (det_fieldAddr fl66_0 rfl)) ?_
        refine HeadR.det rfl (fun β hβ => (det_loadC ty64 rfl (List.Mem.head _) rfl)) ?_
        refine HeadR.det rfl (fun β hβ => (det_move rfl)) ?_
        refine HeadR.det rfl (fun β hβ => (det_loadA ty69 rfl (List.Mem.tail _ (List.Mem.head _)) rfl)) ?_
        refine HeadR.done ⟨by kernel_rfl, fun β hβ => ?_⟩
        refine OpsW.norm (F' := [(40, _), (41, _), (42, _), (43, _), (44, _), (45, _), (6, _), (0, _), (1, _)]) (H' := ((_, _) :: (_, _) :: (_, _) :: (fhp fs))) rfl rfl ?_
        refine OpsW.mapUpdate tm64 rfl rfl rfl (Upd.there (Upd.there (Upd.here))) ?_
        have hms : mset s (fval f.ad f.data.length f.cap f.data.length) clk (fs.map FE.me) = (l1 ++ (⟨s, f.born, f.ad, f.cap, f.hp, f.data, f.data.length⟩ : FE) :: l2).map FE.me := by rw [hfs]; exact mset_at (f := f) (f' := (⟨s, f.born, f.ad, f.cap, f.hp, f.data, f.data.length⟩ : FE)) (rfl) rfl rfl hfnm hfl
        rw [show mset s _ clk (fs.map FE.me) = _ from hms, mclk_at hmf]
        refine sNext ?_
        refine W.keep (F' := []) trivial ?_
        refine sSeq ?_
        refine W.region ?_
        refine OpsW.det (det_assign rfl) rfl ?_
        refine sNext ?_
        refine sRet ?_
        have hput : put { getF s (fs.map FE.fl) with safe := (getF s (fs.map FE.fl)).data.length } (fs.map FE.fl) = (l1 ++ (⟨s, f.born, f.ad, f.cap, f.hp, f.data, f.data.length⟩ : FE) :: l2).map FE.fl := by rw [hgf, hfs]; show put ⟨f.nm, f.data, f.data.length⟩ _ = _; rw [hfnm]; exact put_at' hfnm hfl rfl (f' := (⟨s, f.born, f.ad, f.cap, f.hp, f.data, f.data.length⟩ : FE))
        have he : sync (⟨fs.map FE.fl, room, steps, fuse, down⟩ : AD) s = (⟨(l1 ++ (⟨s, f.born, f.ad, f.cap, f.hp, f.data, f.data.length⟩ : FE) :: l2).map FE.fl, room, (stp steps fuse down).2.1, (stp steps fuse down).2.2.1, (stp steps fuse down).2.2.2⟩, 0) := by unfold sync; rw [if_neg (fun h => h hb1), if_neg (show ¬ room + (getF s (fs.map FE.fl)).safe < total (fs.map FE.fl) + (getF s (fs.map FE.fl)).data.length from by rw [hgf]; have h := hc32; simp only [decide_eq_false_iff_not] at h; simp only [FE.fl]; omega), if_neg (show ¬ (step (⟨fs.map FE.fl, room, steps, fuse, down⟩ : AD)).2 = false from by rw [step_eq]; rw [show (stp steps fuse down).1 = true from hp1]; simp)]; simp only [step_eq, hput]
        exact done1 Try.results12 (rv_tmp rfl) ⟨by show _ = Value.int .i64 (((sync (⟨fs.map FE.fl, room, steps, fuse, down⟩ : AD) s).2 : Nat) : Int); rw [he]; rfl, ⟨⟨(l1 ++ (⟨s, f.born, f.ad, f.cap, f.hp, f.data, f.data.length⟩ : FE) :: l2), clk, room, (stp steps fuse down).2.1, (stp steps fuse down).2.2.1, (stp steps fuse down).2.2.2⟩, bm, _, (by have hr2 := hr; rw [hfs] at hr2; exact rp_set hr2 (hr.files f hf) rfl), by show _ = (sync (⟨fs.map FE.fl, room, steps, fuse, down⟩ : AD) s).1; rw [he]; rfl, List.Perm.refl _, by have hh : fhp fs = fhp l1 ++ (f.hp ++ fhp l2) := (by rw [hfs, fhp_at]); simp only [Rp.hp, fhp_at]; rw [hh]; exact ((List.Sublist.refl _).cons _).cons_cons _⟩⟩

end Go.Dk
