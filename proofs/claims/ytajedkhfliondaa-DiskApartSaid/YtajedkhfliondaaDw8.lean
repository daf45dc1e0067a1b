/-
  The disk's Cut and Drop: the walks. Conditions: those of a disk.
-/
import Derived.Test.YtajedkhfliondaaDw7
namespace Go.Dk
open Go Go.Vm Go.RowKit Go.Proofs Go.Cu
attribute [local irreducible] W OpsW Det Fresh New Writes Vm.Pure Makes Changes ExternTo BuildTo ZeroTo FieldTo IndexTo BinTo SliceTo Vm.Enters
set_option linter.unusedVariables false
set_option linter.unusedSimpArgs false



theorem Cut_ok {bD : Nat} {A : AD} {Hd : Hp} (hD : DiskIs bD A Hd) (hA0 : A.ok) (hst : A.steps < 4611686018427387904) {s : Nm} (hs : s.length ≤ 9223372036854775807) {k : Int} {w : World} (hG : Blocks [] w) (hHd : Blocks Hd w) (hndH : (Hd.map (·.1)).Nodup)  : Changes Try.prog 21 #[dptr bD, sv s, .int .i64 k] w Hd (fun v H' => v = .int .i64 ((cut A s k).2 : Nat) ∧ DiskIs bD (cut A s k).1 H') := by
  refine changes_of_W (G := []) (n := 48) (args := [dptr bD, sv s, .int .i64 k]) Try.func21 rfl Try.ntmps21 (Nat.le_of_ble_eq_true rfl) (fun p hp => by cases hp) hHd hndH ?_
  refine sStart ?_
  refine DiskIs.W hD (fun r bm hr hrA => ?_)
  obtain ⟨fs, clk, room, steps, fuse, down⟩ := r
  subst hrA
  have hA : AD.ok ⟨fs.map FE.fl, room, steps, fuse, down⟩ := hA0
  have hst : steps < 4611686018427387904 := hst
  have hfu : fuse ≤ 9223372036854775807 := hA.fuse
  have hnd : (fs.map (·.born)).Nodup := hr.borns
  have hold : ∀ f ∈ fs, f.born < clk := hr.old
  have hok : ∀ f ∈ fs, f.ok := hr.files
  refine W.norm (F' := [(0, dptr bD), (1, sv s), (2, .int .i64 k)]) (H' := (bD, dblk bm room steps fuse down) :: (bm, mobj (fs.map FE.me) clk) :: fhp fs) rfl rfl ?_
  refine sSeq ?_
  refine W.region ?_
  refine OpsW.det (det_assign rfl) rfl ?_
  refine sNext ?_
  refine W.keep (F' := [(0, _), (1, _), (2, _)]) ⟨rfl, rfl, rfl, trivial⟩ ?_
  refine sSeq ?_
  refine sSeq ?_
  refine W.region ?_
  refine OpsW.det (det_move rfl) rfl ?_
  refine OpsW.det (det_move rfl) rfl ?_
  refine OpsW.det (det_call en31 rfl (fun w hb ho => barsT_ok hs hb)) rfl ?_
  refine OpsW.det (det_assign rfl) rfl ?_
  refine sNext ?_
  refine W.keep (F' := [(7, _), (0, _), (1, _), (2, _)]) ⟨rfl, rfl, rfl, rfl, trivial⟩ ?_
  refine sSeq ?_
  refine W.region ?_
  refine OpsW.det (det_move rfl) rfl ?_
  refine OpsW.det (det_neq rfl rfl) rfl ?_
  refine sNext ?_
  refine W.keep (F' := [(13, _), (7, _), (0, _), (1, _), (2, _)]) ⟨rfl, rfl, rfl, rfl, rfl, trivial⟩ ?_
  refine W.cond rfl (fun hc13 => ?_) (fun hc13 => ?_)
  · skip
    have hb1 : bars ⟨fs.map FE.fl, room, steps, fuse, down⟩ s true ≠ 0 := by have h := hc13; simp only [bne_iff_ne, ne_eq] at h; omega
    refine sSeq ?_
    refine W.region ?_
    refine OpsW.det (det_move rfl) rfl ?_
    refine OpsW.det (det_assign rfl) rfl ?_
    refine sNext ?_
    refine W.keep (F' := [(6, _)]) ⟨rfl, trivial⟩ ?_
    refine sRet ?_
    have he : cut (⟨fs.map FE.fl, room, steps, fuse, down⟩ : AD) s k = ((⟨fs.map FE.fl, room, steps, fuse, down⟩ : AD), bars (⟨fs.map FE.fl, room, steps, fuse, down⟩ : AD) s true) := by unfold cut; rw [if_pos hb1]
    exact done1 Try.results21 (rv_tmp rfl) ⟨by show _ = Value.int .i64 (((cut (⟨fs.map FE.fl, room, steps, fuse, down⟩ : AD) s k).2 : Nat) : Int); rw [he], ⟨⟨fs, clk, room, steps, fuse, down⟩, bm, _, hr, by show _ = (cut (⟨fs.map FE.fl, room, steps, fuse, down⟩ : AD) s k).1; rw [he]; rfl, List.Perm.refl _, List.Sublist.refl _⟩⟩
  · skip
    have hb1 : bars ⟨fs.map FE.fl, room, steps, fuse, down⟩ s true = 0 := by have h := hc13; simp only [bne_eq_false_iff_eq] at h; omega
    refine sSkip ?_
    refine sSeq ?_
    obtain ⟨l1, f, l2, hfs, hfnm, hfl, hmf, hgf, hf⟩ := look_at (bars_there hb1)
    have hfsz := fe_small hA hf
    refine W.region ?_
    refine OpsW.det (det_move rfl) rfl ?_
    refine OpsW.det (det_nilCheck rfl) rfl ?_
    refine OpsW.det (det_fieldAddr fl66_0 rfl) rfl ?_
    refine OpsW.det (det_loadC ty64 rfl (List.Mem.head _) rfl) rfl ?_
    refine OpsW.det (det_move rfl) rfl ?_
    refine OpsW.det (Det.to (v := f.val) (det_lookup tm64 rfl rfl (.inl (List.Mem.tail _ (List.Mem.head _)))) (by rw [hmf]; rfl)) rfl ?_
    refine OpsW.fresh (fr_alloc z69) rfl fun b8 => ?_
    refine OpsW.store sz69 rfl rfl rfl rfl rfl (Upd.here) rfl ?_
    refine sNext ?_
    refine W.keep (F' := [(8, _), (0, _), (1, _), (2, _)]) ⟨rfl, rfl, rfl, rfl, trivial⟩ ?_
    refine sSeq ?_
    refine sSeq ?_
    refine W.region ?_
    refine OpsW.det (det_move rfl) rfl ?_
    refine OpsW.test (det_lss rfl rfl) rfl (fun hc22 => ?_) (fun hc22 => ?_)
    · skip
      refine OpsW.det (det_move rfl) rfl ?_
      refine OpsW.guard_no rfl rfl rfl ?_
      refine OpsW.guard_no rfl rfl rfl ?_
      refine OpsW.guard_no rfl rfl rfl ?_
      refine OpsW.guard_no rfl rfl rfl ?_
      refine OpsW.guard_no rfl rfl rfl ?_
      refine OpsW.det (det_pick rfl rfl) rfl ?_
      refine sNext ?_
      refine W.keep (F' := [(29, _), (8, _), (0, _), (1, _), (2, _)]) ⟨rfl, rfl, rfl, rfl, rfl, trivial⟩ ?_
      refine W.cond_true rfl ?_
      refine sSeq ?_
      refine W.region ?_
      refine OpsW.det (det_assign rfl) rfl ?_
      refine sNext ?_
      refine W.keep (F' := [(6, _)]) ⟨rfl, trivial⟩ ?_
      refine sRet ?_
      have hbad : k < 0 ∨ ((getF s (fs.map FE.fl)).data.length : Int) < k := by rw [hgf]; exact .inl (by have h := hc22; simpa using h)
      have he : cut (⟨fs.map FE.fl, room, steps, fuse, down⟩ : AD) s k = ((⟨fs.map FE.fl, room, steps, fuse, down⟩ : AD), 1) := by unfold cut; rw [if_neg (fun h => h hb1), if_pos hbad]
      exact done1 Try.results21 (rv_tmp rfl) ⟨by show _ = Value.int .i64 (((cut (⟨fs.map FE.fl, room, steps, fuse, down⟩ : AD) s k).2 : Nat) : Int); rw [he]; rfl, ⟨⟨fs, clk, room, steps, fuse, down⟩, bm, _, hr, by show _ = (cut (⟨fs.map FE.fl, room, steps, fuse, down⟩ : AD) s k).1; rw [he]; rfl, List.Perm.refl _, List.sublist_cons_self _ _⟩⟩
    · skip
      refine OpsW.det (det_move rfl) rfl ?_
      refine OpsW.guard_yes rfl rfl ?_
      refine OpsW.det (det_move rfl) rfl ?_
      refine OpsW.guard_yes rfl rfl ?_
      refine OpsW.det (det_fieldAddr fl69_0 rfl) rfl ?_
      refine OpsW.guard_yes rfl rfl ?_
      refine OpsW.det (det_loadC ty22 rfl (List.Mem.head _) rfl) rfl ?_
      refine OpsW.guard_yes rfl rfl ?_
      refine OpsW.det (det_len u22 rfl) rfl ?_
      refine OpsW.guard_yes rfl rfl ?_
      refine OpsW.det (det_gtr rfl rfl) rfl ?_
      refine OpsW.det (det_pick rfl rfl) rfl ?_
      refine sNext ?_
      refine W.keep (F' := [(29, _), (8, _), (0, _), (1, _), (2, _)]) ⟨rfl, rfl, rfl, rfl, rfl, trivial⟩ ?_
      refine W.cond rfl (fun hc29 => ?_) (fun hc29 => ?_)
      · skip
        have hk2 : (f.data.length : Int) < k := by have h := hc29; simpa using h
        refine sSeq ?_
        refine W.region ?_
        refine OpsW.det (det_assign rfl) rfl ?_
        refine sNext ?_
        refine W.keep (F' := [(6, _)]) ⟨rfl, trivial⟩ ?_
        refine sRet ?_
        have hbad : k < 0 ∨ ((getF s (fs.map FE.fl)).data.length : Int) < k := by rw [hgf]; exact .inr hk2
        have he : cut (⟨fs.map FE.fl, room, steps, fuse, down⟩ : AD) s k = ((⟨fs.map FE.fl, room, steps, fuse, down⟩ : AD), 1) := by unfold cut; rw [if_neg (fun h => h hb1), if_pos hbad]
        exact done1 Try.results21 (rv_tmp rfl) ⟨by show _ = Value.int .i64 (((cut (⟨fs.map FE.fl, room, steps, fuse, down⟩ : AD) s k).2 : Nat) : Int); rw [he]; rfl, ⟨⟨fs, clk, room, steps, fuse, down⟩, bm, _, hr, by show _ = (cut (⟨fs.map FE.fl, room, steps, fuse, down⟩ : AD) s k).1; rw [he]; rfl, List.Perm.refl _, List.sublist_cons_self _ _⟩⟩
      · skip
        have hk2 : ¬ (f.data.length : Int) < k := by have h := hc29; simpa using h
        have hk1 : ¬ k < 0 := by have h := hc22; simpa using h
        obtain ⟨m, rfl⟩ : ∃ m : Nat, k = (m : Int) := ⟨k.toNat, by omega⟩
        refine sSkip ?_
        refine sSeq ?_
        refine sSeq ?_
        refine W.region ?_
        refine OpsW.det (det_move rfl) rfl ?_
        refine OpsW.front1 ?_
        refine OpsW.change (Hf := [(_, _)]) en34 rfl (fun w hb hbn ho hbm => step_ok (by omega) hfu (blocks_sub (List.Sublist.cons_cons _ (List.nil_sublist _)) hb)) rfl (fun v31 H31 hS31 => ?_)
        obtain ⟨rfl, rfl⟩ := hS31
        refine OpsW.norm (H' := ((_, _) :: (_, _) :: (_, _) :: (fhp fs))) rfl rfl ?_
        refine OpsW.det (det_not rfl) rfl ?_
        refine sNext ?_
        refine W.keep (F' := [(32, _), (8, _), (0, _), (1, _), (2, _)]) ⟨rfl, rfl, rfl, rfl, rfl, trivial⟩ ?_
        refine W.cond rfl (fun hc32 => ?_) (fun hc32 => ?_)
        · skip
          have hp1 : (stp steps fuse down).1 = false := by have h := hc32; simpa using h
          refine sSeq ?_
          refine W.region ?_
          refine OpsW.det (det_assign rfl) rfl ?_
          refine sNext ?_
          refine W.keep (F' := [(6, _)]) ⟨rfl, trivial⟩ ?_
          refine sRet ?_
          have he : cut (⟨fs.map FE.fl, room, steps, fuse, down⟩ : AD) s ((m : Nat) : Int) = ((step (⟨fs.map FE.fl, room, steps, fuse, down⟩ : AD)).1, 2) := by unfold cut; rw [if_neg (fun h => h hb1), if_neg (show ¬ (((m : Nat) : Int) < 0 ∨ ((getF s (fs.map FE.fl)).data.length : Int) < ((m : Nat) : Int)) from by rw [hgf]; simp only [FE.fl]; omega), if_pos (show (step (⟨fs.map FE.fl, room, steps, fuse, down⟩ : AD)).2 = false from by rw [step_eq]; exact hp1)]
          rw [step_eq] at he
          exact done1 Try.results21 (rv_tmp rfl) ⟨by show _ = Value.int .i64 (((cut (⟨fs.map FE.fl, room, steps, fuse, down⟩ : AD) s ((m : Nat) : Int)).2 : Nat) : Int); rw [he]; rfl, ⟨⟨fs, clk, room, (stp steps fuse down).2.1, (stp steps fuse down).2.2.1, (stp steps fuse down).2.2.2⟩, bm, _, (rp_any hr), by show _ = (cut (⟨fs.map FE.fl, room, steps, fuse, down⟩ : AD) s ((m : Nat) : Int)).1; rw [he]; rfl, List.Perm.refl _, ((List.Sublist.refl _).cons _).cons_cons _⟩⟩
        · skip
          have hp1 : (stp steps fuse down).1 = true := by have h := hc32; simpa using h
          refine sSkip ?_
          refine sSeq ?_
          have hcap : f.data.length ≤ f.cap := (hok f hf).cap
          have hownc : Own 5 f.ad (f.data.take m).length m f.hp (bcells (f.data.take m)) := by rw [bcells_take, List.length_take, Nat.min_eq_left (by omega)]; exact (hok f hf).take (by omega)
          refine W.draw mixed 15 [[], [0], [0, 1], [0, 1, 2], [], [], [5], [], [], [5, 6, 7, 8], [], [10], [], [10, 11, 12], [5, 6, 7, 8, 9, 10, 11, 12, 13], [0, 1, 2, 3, 4, 5, 6, 7, 8, 9, 10, 11, 12, 13, 14]] (cl_lt (by decide)) ?_
          refine HeadR.start (cl_lt (by decide)) ?_
          refine HeadR.det rfl (fun β hβ => (det_move rfl)) ?_
          refine HeadR.det rfl (fun β hβ => (det_nilCheck rfl)) ?_
          refine HeadR.det rfl (fun β hβ => (det_fieldAddr fl66_0 rfl)) ?_
          refine HeadR.det rfl (fun β hβ => (det_loadC ty64 rfl (List.Mem.head _) rfl)) ?_
          refine HeadR.det rfl (fun β hβ => (det_move rfl)) ?_
          refine HeadR.det rfl (fun β hβ => (det_fieldAddr fl69_0 rfl)) ?_
          refine HeadR.det rfl (fun β hβ => (det_loadC ty22 rfl (List.Mem.tail _ (List.Mem.head _)) rfl)) ?_
          refine HeadR.det rfl (fun β hβ => (det_move rfl)) ?_
          refine HeadR.det rfl (fun β hβ => (det_move rfl)) ?_
          refine HeadR.det rfl (fun β hβ => (det_slice3 u22 sz5 rfl rfl rfl (by omega) (hok f hf).spot)) ?_
          refine HeadR.det rfl (fun β hβ => (det_fieldAddr fl69_1 rfl)) ?_
          refine HeadR.det rfl (fun β hβ => (det_loadC ty3 rfl (List.Mem.tail _ (List.Mem.head _)) rfl)) ?_
          refine HeadR.det rfl (fun β hβ => (det_move rfl)) ?_
          refine HeadR.det rfl (fun β hβ => (Det.to (det_min rfl rfl) (congrArg (Value.int .i64) min_nat))) ?_
          refine HeadR.det rfl (fun β hβ => (det_build rfl bld69)) ?_
          refine HeadR.done ⟨by kernel_rfl, fun β hβ => ?_⟩
          refine OpsW.norm (F' := [(33, _), (34, _), (35, _), (36, _), (37, _), (38, _), (39, _), (40, _), (41, _), (42, _), (43, _), (44, _), (45, _), (46, _), (47, _), (32, _), (8, _), (0, _), (1, _), (2, _)]) (H' := ((_, _) :: (_, _) :: (_, _) :: (fhp fs))) rfl rfl ?_
          refine OpsW.mapUpdate tm64 rfl rfl rfl (Upd.there (Upd.there (Upd.here))) ?_
          have hms : mset s (fval f.ad m m (min f.safe m)) clk (fs.map FE.me) = (l1 ++ (⟨s, f.born, f.ad, m, f.hp, f.data.take m, min f.safe m⟩ : FE) :: l2).map FE.me := by rw [hfs]; exact mset_at (f := f) (f' := (⟨s, f.born, f.ad, m, f.hp, f.data.take m, min f.safe m⟩ : FE)) (by show fval f.ad (f.data.take m).length m (min f.safe m) = _; rw [List.length_take, Nat.min_eq_left (by omega)]) rfl rfl hfnm hfl
          rw [show mset s _ clk (fs.map FE.me) = _ from hms, mclk_at hmf]
          refine sNext ?_
          refine W.keep (F' := []) trivial ?_
          refine sSeq ?_
          refine W.region ?_
          refine OpsW.det (det_assign rfl) rfl ?_
          refine sNext ?_
          refine sRet ?_
          have hput : put ⟨s, (getF s (fs.map FE.fl)).data.take ((m : Nat) : Int).toNat, min (getF s (fs.map FE.fl)).safe ((m : Nat) : Int).toNat⟩ (fs.map FE.fl) = (l1 ++ (⟨s, f.born, f.ad, m, f.hp, f.data.take m, min f.safe m⟩ : FE) :: l2).map FE.fl := by rw [hgf, hfs, Int.toNat_natCast]; exact put_at' hfnm hfl rfl (f' := (⟨s, f.born, f.ad, m, f.hp, f.data.take m, min f.safe m⟩ : FE))
          have he : cut (⟨fs.map FE.fl, room, steps, fuse, down⟩ : AD) s ((m : Nat) : Int) = (⟨(l1 ++ (⟨s, f.born, f.ad, m, f.hp, f.data.take m, min f.safe m⟩ : FE) :: l2).map FE.fl, room, (stp steps fuse down).2.1, (stp steps fuse down).2.2.1, (stp steps fuse down).2.2.2⟩, 0) := by unfold cut; rw [if_neg (fun h => h hb1), if_neg (show ¬ (((m : Nat) : Int) < 0 ∨ ((getF s (fs.map FE.fl)).data.length : Int) < ((m : Nat) : Int)) from by rw [hgf]; simp only [FE.fl]; omega), if_neg (show ¬ (step (⟨fs.map FE.fl, room, steps, fuse, down⟩ : AD)).2 = false from by rw [step_eq]; rw [show (stp steps fuse down).1 = true from hp1]; simp)]; simp only [step_eq, hput]
          exact done1 Try.results21 (rv_tmp rfl) ⟨by show _ = Value.int .i64 (((cut (⟨fs.map FE.fl, room, steps, fuse, down⟩ : AD) s ((m : Nat) : Int)).2 : Nat) : Int); rw [he]; rfl, ⟨⟨(l1 ++ (⟨s, f.born, f.ad, m, f.hp, f.data.take m, min f.safe m⟩ : FE) :: l2), clk, room, (stp steps fuse down).2.1, (stp steps fuse down).2.2.1, (stp steps fuse down).2.2.2⟩, bm, _, (by have hr2 := hr; rw [hfs] at hr2; exact rp_set hr2 hownc rfl), by show _ = (cut (⟨fs.map FE.fl, room, steps, fuse, down⟩ : AD) s ((m : Nat) : Int)).1; rw [he]; rfl, List.Perm.refl _, by have hh : fhp fs = fhp l1 ++ (f.hp ++ fhp l2) := (by rw [hfs, fhp_at]); simp only [Rp.hp, fhp_at]; rw [hh]; exact ((List.Sublist.refl _).cons _).cons_cons _⟩⟩
theorem Drop_ok {bD : Nat} {A : AD} {Hd : Hp} (hD : DiskIs bD A Hd) (hA0 : A.ok) (hst : A.steps < 4611686018427387904) {s : Nm} (hs : s.length ≤ 9223372036854775807) {w : World} (hG : Blocks [] w) (hHd : Blocks Hd w) (hndH : (Hd.map (·.1)).Nodup)  : Changes Try.prog 20 #[dptr bD, sv s] w Hd (fun v H' => v = .int .i64 ((drop A s).2 : Nat) ∧ DiskIs bD (drop A s).1 H') := by
  refine changes_of_W (G := []) (n := 20) (args := [dptr bD, sv s]) Try.func20 rfl Try.ntmps20 (Nat.le_of_ble_eq_true rfl) (fun p hp => by cases hp) hHd hndH ?_
  refine sStart ?_
  refine DiskIs.W hD (fun r bm hr hrA => ?_)
  obtain ⟨fs, clk, room, steps, fuse, down⟩ := r
  subst hrA
  have hA : AD.ok ⟨fs.map FE.fl, room, steps, fuse, down⟩ := hA0
  have hst : steps < 4611686018427387904 := hst
  have hfu : fuse ≤ 9223372036854775807 := hA.fuse
  have hnd : (fs.map (·.born)).Nodup := hr.borns
  have hold : ∀ f ∈ fs, f.born < clk := hr.old
  have hok : ∀ f ∈ fs, f.ok := hr.files
  refine W.norm (F' := [(0, dptr bD), (1, sv s)]) (H' := (bD, dblk bm room steps fuse down) :: (bm, mobj (fs.map FE.me) clk) :: fhp fs) rfl rfl ?_
  refine sSeq ?_
  refine W.region ?_
  refine OpsW.det (det_assign rfl) rfl ?_
  refine sNext ?_
  refine W.keep (F' := [(0, _), (1, _)]) ⟨rfl, rfl, trivial⟩ ?_
  refine sSeq ?_
  refine sSeq ?_
  refine W.region ?_
  refine OpsW.det (det_move rfl) rfl ?_
  refine OpsW.det (det_move rfl) rfl ?_
  refine OpsW.det (det_call en31 rfl (fun w hb ho => barsT_ok hs hb)) rfl ?_
  refine OpsW.det (det_assign rfl) rfl ?_
  refine sNext ?_
  refine W.keep (F' := [(5, _), (0, _), (1, _)]) ⟨rfl, rfl, rfl, trivial⟩ ?_
  refine sSeq ?_
  refine W.region ?_
  refine OpsW.det (det_move rfl) rfl ?_
  refine OpsW.det (det_neq rfl rfl) rfl ?_
  refine sNext ?_
  refine W.keep (F' := [(10, _), (5, _), (0, _), (1, _)]) ⟨rfl, rfl, rfl, rfl, trivial⟩ ?_
  refine W.cond rfl (fun hc10 => ?_) (fun hc10 => ?_)
  · skip
    have hb1 : bars ⟨fs.map FE.fl, room, steps, fuse, down⟩ s true ≠ 0 := by have h := hc10; simp only [bne_iff_ne, ne_eq] at h; omega
    refine sSeq ?_
    refine W.region ?_
    refine OpsW.det (det_move rfl) rfl ?_
    refine OpsW.det (det_assign rfl) rfl ?_
    refine sNext ?_
    refine W.keep (F' := [(4, _)]) ⟨rfl, trivial⟩ ?_
    refine sRet ?_
    have he : drop (⟨fs.map FE.fl, room, steps, fuse, down⟩ : AD) s = ((⟨fs.map FE.fl, room, steps, fuse, down⟩ : AD), bars (⟨fs.map FE.fl, room, steps, fuse, down⟩ : AD) s true) := by unfold drop; rw [if_pos hb1]
    exact done1 Try.results20 (rv_tmp rfl) ⟨by show _ = Value.int .i64 (((drop (⟨fs.map FE.fl, room, steps, fuse, down⟩ : AD) s).2 : Nat) : Int); rw [he], ⟨⟨fs, clk, room, steps, fuse, down⟩, bm, _, hr, by show _ = (drop (⟨fs.map FE.fl, room, steps, fuse, down⟩ : AD) s).1; rw [he]; rfl, List.Perm.refl _, List.Sublist.refl _⟩⟩
  · skip
    have hb1 : bars ⟨fs.map FE.fl, room, steps, fuse, down⟩ s true = 0 := by have h := hc10; simp only [bne_eq_false_iff_eq] at h; omega
    refine sSkip ?_
    refine sSeq ?_
    refine sSeq ?_
    obtain ⟨l1, f, l2, hfs, hfnm, hfl, hmf, hgf, hf⟩ := look_at (bars_there hb1)
    have hfsz := fe_small hA hf
    refine W.region ?_
    refine OpsW.det (det_move rfl) rfl ?_
    refine OpsW.change (Hf := [(_, _)]) en34 rfl (fun w hb hbn ho hbm => step_ok (by omega) hfu (blocks_sub (List.Sublist.cons_cons _ (List.nil_sublist _)) hb)) rfl (fun v13 H13 hS13 => ?_)
    obtain ⟨rfl, rfl⟩ := hS13
    refine OpsW.norm (H' := ((_, _) :: (_, _) :: (fhp fs))) rfl rfl ?_
    refine OpsW.det (det_not rfl) rfl ?_
    refine sNext ?_
    refine W.keep (F' := [(14, _), (0, _), (1, _)]) ⟨rfl, rfl, rfl, trivial⟩ ?_
    refine W.cond rfl (fun hc14 => ?_) (fun hc14 => ?_)
    · skip
      have hp1 : (stp steps fuse down).1 = false := by have h := hc14; simpa using h
      refine sSeq ?_
      refine W.region ?_
      refine OpsW.det (det_assign rfl) rfl ?_
      refine sNext ?_
      refine W.keep (F' := [(4, _)]) ⟨rfl, trivial⟩ ?_
      refine sRet ?_
      have he : drop (⟨fs.map FE.fl, room, steps, fuse, down⟩ : AD) s = ((step (⟨fs.map FE.fl, room, steps, fuse, down⟩ : AD)).1, 2) := by unfold drop; rw [if_neg (fun h => h hb1), if_pos (show (step (⟨fs.map FE.fl, room, steps, fuse, down⟩ : AD)).2 = false from by rw [step_eq]; exact hp1)]
      rw [step_eq] at he
      exact done1 Try.results20 (rv_tmp rfl) ⟨by show _ = Value.int .i64 (((drop (⟨fs.map FE.fl, room, steps, fuse, down⟩ : AD) s).2 : Nat) : Int); rw [he]; rfl, ⟨⟨fs, clk, room, (stp steps fuse down).2.1, (stp steps fuse down).2.2.1, (stp steps fuse down).2.2.2⟩, bm, _, (rp_any hr), by show _ = (drop (⟨fs.map FE.fl, room, steps, fuse, down⟩ : AD) s).1; rw [he]; rfl, List.Perm.refl _, List.Sublist.refl _⟩⟩
    · skip
      have hp1 : (stp steps fuse down).1 = true := by have h := hc14; simpa using h
      refine sSkip ?_
      refine sSeq ?_
      refine W.region ?_
      refine OpsW.det (det_move rfl) rfl ?_
      refine OpsW.det (det_nilCheck rfl) rfl ?_
      refine OpsW.det (det_fieldAddr fl66_0 rfl) rfl ?_
      refine OpsW.det (det_loadC ty64 rfl (List.Mem.head _) rfl) rfl ?_
      refine OpsW.det (det_move rfl) rfl ?_
      refine OpsW.delete0 tm64 rfl rfl (Upd.there Upd.here) ?_
      rw [show mdel s (fs.map FE.me) = (l1 ++ l2).map FE.me from by rw [hfs]; exact mdel_at hfnm hfl]
      refine OpsW.some (H' := (bD, dblk bm room (stp steps fuse down).2.1 (stp steps fuse down).2.2.1 (stp steps fuse down).2.2.2) :: (bm, mobj ((l1 ++ l2).map FE.me) clk) :: (fhp l1 ++ fhp l2)) (X := f.hp) (perm_of fun F => by simp only [wsum_app, wsum, hfs, fhp_at]; omega) ?_
      refine sNext ?_
      refine W.keep (F' := []) trivial ?_
      refine sSeq ?_
      refine W.region ?_
      refine OpsW.det (det_assign rfl) rfl ?_
      refine sNext ?_
      refine sRet ?_
      have he : drop (⟨fs.map FE.fl, room, steps, fuse, down⟩ : AD) s = (⟨(l1 ++ l2).map FE.fl, room, (stp steps fuse down).2.1, (stp steps fuse down).2.2.1, (stp steps fuse down).2.2.2⟩, 0) := by unfold drop; rw [if_neg (fun h => h hb1), if_neg (show ¬ (step (⟨fs.map FE.fl, room, steps, fuse, down⟩ : AD)).2 = false from by rw [step_eq]; rw [show (stp steps fuse down).1 = true from hp1]; simp)]; simp only [step_eq, hfs, del_at' hfnm hfl]
      exact done1 Try.results20 (rv_tmp rfl) ⟨by show _ = Value.int .i64 (((drop (⟨fs.map FE.fl, room, steps, fuse, down⟩ : AD) s).2 : Nat) : Int); rw [he]; rfl, ⟨⟨(l1 ++ l2), clk, room, (stp steps fuse down).2.1, (stp steps fuse down).2.2.1, (stp steps fuse down).2.2.2⟩, bm, _, (by have hr2 := hr; rw [hfs] at hr2; exact rp_del hr2), by show _ = (drop (⟨fs.map FE.fl, room, steps, fuse, down⟩ : AD) s).1; rw [he]; rfl, List.Perm.refl _, by simp only [Rp.hp, fhp_app]; exact List.Sublist.refl _⟩⟩

end Go.Dk
