/-
  The disk's Move, Fuse, New; a disk that is none: the walks. Conditions: those of a disk.
-/
import Derived.Test.YtajedkhfliondaaDw8
namespace Go.Dk
open Go Go.Vm Go.RowKit Go.Proofs Go.Cu
attribute [local irreducible] W OpsW Det Fresh New Writes Vm.Pure Makes Changes ExternTo BuildTo ZeroTo FieldTo IndexTo BinTo SliceTo Vm.Enters
set_option linter.unusedVariables false
set_option linter.unusedSimpArgs false

theorem bld66 {m : Option Nat} {r : Int} : BuildTo Try.prog 66 [(0, .map m), (1, .int .i64 r)] (.agg [.map m, .int .i64 r, .int .i64 0, .int .i64 0, .bool false].toArray) := BuildTo.of fun _ => by kernel_rfl


theorem Move_ok {bD : Nat} {A : AD} {Hd : Hp} (hD : DiskIs bD A Hd) (hA0 : A.ok) (hst : A.steps < 4611686018427387904) {s t : Nm} (hs : s.length ≤ 9223372036854775807) (ht : t.length ≤ 9223372036854775807) {w : World} (hG : Blocks [] w) (hHd : Blocks Hd w) (hndH : (Hd.map (·.1)).Nodup)  : Changes Try.prog 38 #[dptr bD, sv s, sv t] w Hd (fun v H' => v = .int .i64 ((move A s t).2 : Nat) ∧ DiskIs bD (move A s t).1 H') := by
  refine changes_of_W (G := []) (n := 38) (args := [dptr bD, sv s, sv t]) Try.func38 rfl Try.ntmps38 (Nat.le_of_ble_eq_true rfl) (fun p hp => by cases hp) hHd hndH ?_
  refine sStart ?_
  refine DiskIs.W hD (fun r bm hr hrA => ?_)
  obtain ⟨fs, clk, room, steps, fuse, down⟩ := r
  subst hrA
  have hA : AD.ok ⟨fs.map FE.fl, room, steps, fuse, down⟩ := hA0
  have hst : steps < 4611686018427387904 := hst
  have hfu : fuse ≤ 9223372036854775807 := hA.fuse
  have hnd : (fs.map (·.born)).Nodup := hr.borns
  have hold : ∀ f ∈ fs, f.born < clk := hr.old
  have hok : ∀ f ∈ fs, f.ok := hr.files
  refine W.norm (F' := [(0, dptr bD), (1, sv s), (2, sv t)]) (H' := (bD, dblk bm room steps fuse down) :: (bm, mobj (fs.map FE.me) clk) :: fhp fs) rfl rfl ?_
  refine sSeq ?_
  refine W.region ?_
  refine OpsW.det (det_assign rfl) rfl ?_
  refine sNext ?_
  refine W.keep (F' := [(0, _), (1, _), (2, _)]) ⟨rfl, rfl, rfl, trivial⟩ ?_
  refine sSeq ?_
  refine sSeq ?_
  refine W.region ?_
  refine OpsW.det (det_move rfl) rfl ?_
  refine OpsW.det (det_move rfl) rfl ?_
  refine OpsW.det (det_call en31 rfl (fun w hb ho => barsT_ok hs hb)) rfl ?_
  refine OpsW.det (det_assign rfl) rfl ?_
  refine sNext ?_
  refine W.keep (F' := [(7, _), (0, _), (1, _), (2, _)]) ⟨rfl, rfl, rfl, rfl, trivial⟩ ?_
  refine sSeq ?_
  refine W.region ?_
  refine OpsW.det (det_move rfl) rfl ?_
  refine OpsW.det (det_neq rfl rfl) rfl ?_
  refine sNext ?_
  refine W.keep (F' := [(13, _), (7, _), (0, _), (1, _), (2, _)]) ⟨rfl, rfl, rfl, rfl, rfl, trivial⟩ ?_
  refine W.cond rfl (fun hc13 => ?_) (fun hc13 => ?_)
  · skip
    have hb1 : bars ⟨fs.map FE.fl, room, steps, fuse, down⟩ s true ≠ 0 := by have h := hc13; simp only [bne_iff_ne, ne_eq] at h; omega
    refine sSeq ?_
    refine W.region ?_
    refine OpsW.det (det_move rfl) rfl ?_
    refine OpsW.det (det_assign rfl) rfl ?_
    refine sNext ?_
    refine W.keep (F' := [(6, _)]) ⟨rfl, trivial⟩ ?_
    refine sRet ?_
    have he : move (⟨fs.map FE.fl, room, steps, fuse, down⟩ : AD) s t = ((⟨fs.map FE.fl, room, steps, fuse, down⟩ : AD), bars (⟨fs.map FE.fl, room, steps, fuse, down⟩ : AD) s true) := by unfold move; rw [if_pos hb1]
    exact done1 Try.results38 (rv_tmp rfl) ⟨by show _ = Value.int .i64 (((move (⟨fs.map FE.fl, room, steps, fuse, down⟩ : AD) s t).2 : Nat) : Int); rw [he], ⟨⟨fs, clk, room, steps, fuse, down⟩, bm, _, hr, by show _ = (move (⟨fs.map FE.fl, room, steps, fuse, down⟩ : AD) s t).1; rw [he]; rfl, List.Perm.refl _, List.Sublist.refl _⟩⟩
  · skip
    have hb1 : bars ⟨fs.map FE.fl, room, steps, fuse, down⟩ s true = 0 := by have h := hc13; simp only [bne_eq_false_iff_eq] at h; omega
    refine sSkip ?_
    refine sSeq ?_
    refine sSeq ?_
    refine W.region ?_
    refine OpsW.det (det_move rfl) rfl ?_
    refine OpsW.det (det_call en37 rfl (fun w hb ho => Right_ok ht nob)) rfl ?_
    refine OpsW.det (det_not rfl) rfl ?_
    refine sNext ?_
    refine W.keep (F' := [(17, _), (0, _), (1, _), (2, _)]) ⟨rfl, rfl, rfl, rfl, trivial⟩ ?_
    refine W.cond rfl (fun hc17 => ?_) (fun hc17 => ?_)
    · skip
      have hrt : right t = false := by have h := hc17; simpa using h
      refine sSeq ?_
      refine W.region ?_
      refine OpsW.det (det_assign rfl) rfl ?_
      refine sNext ?_
      refine W.keep (F' := [(6, _)]) ⟨rfl, trivial⟩ ?_
      refine sRet ?_
      have he : move (⟨fs.map FE.fl, room, steps, fuse, down⟩ : AD) s t = ((⟨fs.map FE.fl, room, steps, fuse, down⟩ : AD), 40) := by unfold move; rw [if_neg (fun h => h hb1), if_pos hrt]
      exact done1 Try.results38 (rv_tmp rfl) ⟨by show _ = Value.int .i64 (((move (⟨fs.map FE.fl, room, steps, fuse, down⟩ : AD) s t).2 : Nat) : Int); rw [he]; rfl, ⟨⟨fs, clk, room, steps, fuse, down⟩, bm, _, hr, by show _ = (move (⟨fs.map FE.fl, room, steps, fuse, down⟩ : AD) s t).1; rw [he]; rfl, List.Perm.refl _, List.Sublist.refl _⟩⟩
    · skip
      have hrt : right t = true := by have h := hc17; simpa using h
      refine sSkip ?_
      refine sSeq ?_
      refine sSeq ?_
      refine W.region ?_
      refine OpsW.det (det_move rfl) rfl ?_
      refine OpsW.change (Hf := [(_, _)]) en34 rfl (fun w hb hbn ho hbm => step_ok (by omega) hfu (blocks_sub (List.Sublist.cons_cons _ (List.nil_sublist _)) hb)) rfl (fun v19 H19 hS19 => ?_)
      obtain ⟨rfl, rfl⟩ := hS19
      refine OpsW.norm (H' := ((_, _) :: (_, _) :: (fhp fs))) rfl rfl ?_
      refine OpsW.det (det_not rfl) rfl ?_
      refine sNext ?_
      refine W.keep (F' := [(20, _), (0, _), (1, _), (2, _)]) ⟨rfl, rfl, rfl, rfl, trivial⟩ ?_
      refine W.cond rfl (fun hc20 => ?_) (fun hc20 => ?_)
      · skip
        have hp1 : (stp steps fuse down).1 = false := by have h := hc20; simpa using h
        refine sSeq ?_
        refine W.region ?_
        refine OpsW.det (det_assign rfl) rfl ?_
        refine sNext ?_
        refine W.keep (F' := [(6, _)]) ⟨rfl, trivial⟩ ?_
        refine sRet ?_
        have he : move (⟨fs.map FE.fl, room, steps, fuse, down⟩ : AD) s t = ((step (⟨fs.map FE.fl, room, steps, fuse, down⟩ : AD)).1, 2) := by unfold move; rw [if_neg (fun h => h hb1), if_neg (show ¬ right t = false from by rw [hrt]; simp), if_pos (show (step (⟨fs.map FE.fl, room, steps, fuse, down⟩ : AD)).2 = false from by rw [step_eq]; exact hp1)]
        rw [step_eq] at he
        exact done1 Try.results38 (rv_tmp rfl) ⟨by show _ = Value.int .i64 (((move (⟨fs.map FE.fl, room, steps, fuse, down⟩ : AD) s t).2 : Nat) : Int); rw [he]; rfl, ⟨⟨fs, clk, room, (stp steps fuse down).2.1, (stp steps fuse down).2.2.1, (stp steps fuse down).2.2.2⟩, bm, _, (rp_any hr), by show _ = (move (⟨fs.map FE.fl, room, steps, fuse, down⟩ : AD) s t).1; rw [he]; rfl, List.Perm.refl _, List.Sublist.refl _⟩⟩
      · skip
        have hp1 : (stp steps fuse down).1 = true := by have h := hc20; simpa using h
        refine sSkip ?_
        refine sSeq ?_
        obtain ⟨l1, f, l2, hfs, hfnm, hfl, hmf, hgf, hf⟩ := look_at (bars_there hb1)
        have hfsz := fe_small hA hf
        refine W.region ?_
        refine OpsW.det (det_move rfl) rfl ?_
        refine OpsW.det (det_nilCheck rfl) rfl ?_
        refine OpsW.det (det_fieldAddr fl66_0 rfl) rfl ?_
        refine OpsW.det (det_loadC ty64 rfl (List.Mem.head _) rfl) rfl ?_
        refine OpsW.det (det_move rfl) rfl ?_
        refine OpsW.det (Det.to (v := f.val) (det_lookup tm64 rfl rfl (.inl (List.Mem.tail _ (List.Mem.head _)))) (by rw [hmf]; rfl)) rfl ?_
        refine OpsW.fresh (fr_alloc z69) rfl fun b8 => ?_
        refine OpsW.store sz69 rfl rfl rfl rfl rfl (Upd.here) rfl ?_
        refine sNext ?_
        refine W.keep (F' := [(8, _), (0, _), (1, _), (2, _)]) ⟨rfl, rfl, rfl, rfl, trivial⟩ ?_
        refine sSeq ?_
        refine W.region ?_
        refine OpsW.det (det_move rfl) rfl ?_
        refine OpsW.det (det_nilCheck rfl) rfl ?_
        refine OpsW.det (det_fieldAddr fl66_0 rfl) rfl ?_
        refine OpsW.det (det_loadC ty64 rfl (List.Mem.tail _ (List.Mem.head _)) rfl) rfl ?_
        refine OpsW.det (det_move rfl) rfl ?_
        refine OpsW.delete0 tm64 rfl rfl (Upd.there (Upd.there Upd.here)) ?_
        rw [show mdel s (fs.map FE.me) = (l1 ++ l2).map FE.me from by rw [hfs]; exact mdel_at hfnm hfl]
        refine sNext ?_
        refine W.keep (F' := [(8, _), (0, _), (2, _)]) ⟨rfl, rfl, rfl, trivial⟩ ?_
        refine sSeq ?_
        rcases look_cases t (l1 ++ l2) with ⟨gfn, gmf, ggf, gfl⟩ | ⟨m1, g, m2, gfs, gfnm, gfl, gmf, ggf, gf, gfd⟩
        · skip
          refine W.draw mixed 6 [[], [0], [0, 1], [0, 1, 2], [], [], [0, 1, 2, 3, 4, 5]] (cl_lt (by decide)) ?_
          refine HeadR.start (cl_lt (by decide)) ?_
          refine HeadR.det rfl (fun β hβ => (det_move rfl)) ?_
          refine HeadR.det rfl (fun β hβ => (det_nilCheck rfl)) ?_
          refine HeadR.det rfl (fun β hβ => (det_fieldAddr fl66_0 rfl)) ?_
          refine HeadR.det rfl (fun β hβ => (det_loadC ty64 rfl (List.Mem.tail _ (List.Mem.head _)) rfl)) ?_
          refine HeadR.det rfl (fun β hβ => (det_move rfl)) ?_
          refine HeadR.det rfl (fun β hβ => (det_loadA ty69 rfl (List.Mem.head _) rfl)) ?_
          refine HeadR.done ⟨by kernel_rfl, fun β hβ => ?_⟩
          refine OpsW.norm (F' := [(32, _), (33, _), (34, _), (35, _), (36, _), (37, _), (8, _), (0, _), (2, _)]) (H' := ((_, _) :: (_, _) :: (_, _) :: (fhp fs))) rfl rfl ?_
          refine OpsW.mapUpdate tm64 rfl rfl rfl (Upd.there (Upd.there Upd.here)) ?_
          have hms : mset t (fval f.ad f.data.length f.cap f.safe) clk ((l1 ++ l2).map FE.me) = ((l1 ++ l2) ++ [(⟨t, clk, f.ad, f.cap, f.hp, f.data, f.safe⟩ : FE)]).map FE.me := by rw [mset_new gmf, List.map_append (l₁ := l1 ++ l2)]; rfl
          rw [show mset t _ clk ((l1 ++ l2).map FE.me) = _ from hms, mclk_no gmf]
          refine OpsW.some (H' := (bD, dblk bm room (stp steps fuse down).2.1 (stp steps fuse down).2.2.1 (stp steps fuse down).2.2.2) :: (bm, mobj (((l1 ++ l2) ++ [(⟨t, clk, f.ad, f.cap, f.hp, f.data, f.safe⟩ : FE)]).map FE.me) (clk + 1)) :: fhp ((l1 ++ l2) ++ [(⟨t, clk, f.ad, f.cap, f.hp, f.data, f.safe⟩ : FE)])) (X := [(b8, blk [.slice f.ad f.data.length f.cap, .int .i64 (f.safe : Nat)] 69)]) (perm_of fun F => by simp only [wsum_app, wsum, hfs, fhp_app, fhp_cons, fhp_nil]; omega) ?_
          refine sNext ?_
          refine W.keep (F' := []) trivial ?_
          refine sSeq ?_
          refine W.region ?_
          refine OpsW.det (det_assign rfl) rfl ?_
          refine sNext ?_
          refine sRet ?_
          have hput : put { getF s (fs.map FE.fl) with nm := t } (del s (fs.map FE.fl)) = ((l1 ++ l2) ++ [(⟨t, clk, f.ad, f.cap, f.hp, f.data, f.safe⟩ : FE)]).map FE.fl := by rw [hgf, hfs, del_at' hfnm hfl]; show put ⟨t, f.data, f.safe⟩ _ = _; exact put_no' (f' := (⟨t, clk, f.ad, f.cap, f.hp, f.data, f.safe⟩ : FE)) gfl rfl
          have he : move (⟨fs.map FE.fl, room, steps, fuse, down⟩ : AD) s t = (⟨((l1 ++ l2) ++ [(⟨t, clk, f.ad, f.cap, f.hp, f.data, f.safe⟩ : FE)]).map FE.fl, room, (stp steps fuse down).2.1, (stp steps fuse down).2.2.1, (stp steps fuse down).2.2.2⟩, 0) := by unfold move; rw [if_neg (fun h => h hb1), if_neg (show ¬ right t = false from by rw [hrt]; simp), if_neg (show ¬ (step (⟨fs.map FE.fl, room, steps, fuse, down⟩ : AD)).2 = false from by rw [step_eq]; rw [show (stp steps fuse down).1 = true from hp1]; simp)]; simp only [step_eq, hput]
          exact done1 Try.results38 (rv_tmp rfl) ⟨by show _ = Value.int .i64 (((move (⟨fs.map FE.fl, room, steps, fuse, down⟩ : AD) s t).2 : Nat) : Int); rw [he]; rfl, ⟨⟨((l1 ++ l2) ++ [(⟨t, clk, f.ad, f.cap, f.hp, f.data, f.safe⟩ : FE)]), (clk + 1), room, (stp steps fuse down).2.1, (stp steps fuse down).2.2.1, (stp steps fuse down).2.2.2⟩, bm, _, (by have hr2 := hr; rw [hfs] at hr2; have hr3 := rp_del (a' := room) (b' := steps) (c' := fuse) (d' := down) hr2; exact rp_new hr3 (hok f hf) rfl), by show _ = (move (⟨fs.map FE.fl, room, steps, fuse, down⟩ : AD) s t).1; rw [he]; rfl, List.Perm.refl _, List.Sublist.refl _⟩⟩
        · skip
          refine W.draw mixed 6 [[], [0], [0, 1], [0, 1, 2], [], [], [0, 1, 2, 3, 4, 5]] (cl_lt (by decide)) ?_
          refine HeadR.start (cl_lt (by decide)) ?_
          refine HeadR.det rfl (fun β hβ => (det_move rfl)) ?_
          refine HeadR.det rfl (fun β hβ => (det_nilCheck rfl)) ?_
          refine HeadR.det rfl (fun β hβ => (det_fieldAddr fl66_0 rfl)) ?_
          refine HeadR.det rfl (fun β hβ => (det_loadC ty64 rfl (List.Mem.tail _ (List.Mem.head _)) rfl)) ?_
          refine HeadR.det rfl (fun β hβ => (det_move rfl)) ?_
          refine HeadR.det rfl (fun β hβ => (det_loadA ty69 rfl (List.Mem.head _) rfl)) ?_
          refine HeadR.done ⟨by kernel_rfl, fun β hβ => ?_⟩
          refine OpsW.norm (F' := [(32, _), (33, _), (34, _), (35, _), (36, _), (37, _), (8, _), (0, _), (2, _)]) (H' := ((_, _) :: (_, _) :: (_, _) :: (fhp fs))) rfl rfl ?_
          refine OpsW.mapUpdate tm64 rfl rfl rfl (Upd.there (Upd.there Upd.here)) ?_
          have hms : mset t (fval f.ad f.data.length f.cap f.safe) clk ((l1 ++ l2).map FE.me) = (m1 ++ (⟨t, g.born, f.ad, f.cap, f.hp, f.data, f.safe⟩ : FE) :: m2).map FE.me := by rw [gfs]; exact mset_at (f := g) (f' := (⟨t, g.born, f.ad, f.cap, f.hp, f.data, f.safe⟩ : FE)) rfl rfl rfl gfnm gfl
          rw [show mset t _ clk ((l1 ++ l2).map FE.me) = _ from hms, mclk_at gmf]
          refine OpsW.some (H' := (bD, dblk bm room (stp steps fuse down).2.1 (stp steps fuse down).2.2.1 (stp steps fuse down).2.2.2) :: (bm, mobj ((m1 ++ (⟨t, g.born, f.ad, f.cap, f.hp, f.data, f.safe⟩ : FE) :: m2).map FE.me) clk) :: fhp (m1 ++ (⟨t, g.born, f.ad, f.cap, f.hp, f.data, f.safe⟩ : FE) :: m2)) (X := (b8, blk [.slice f.ad f.data.length f.cap, .int .i64 (f.safe : Nat)] 69) :: g.hp) (perm_of fun F => by have hw := congrArg (fun z => wsum F (fhp z)) gfs; simp only [fhp_app, fhp_cons, wsum_app] at hw; simp only [wsum_app, wsum, hfs, fhp_app, fhp_cons]; omega) ?_
          refine sNext ?_
          refine W.keep (F' := []) trivial ?_
          refine sSeq ?_
          refine W.region ?_
          refine OpsW.det (det_assign rfl) rfl ?_
          refine sNext ?_
          refine sRet ?_
          have hput : put { getF s (fs.map FE.fl) with nm := t } (del s (fs.map FE.fl)) = (m1 ++ (⟨t, g.born, f.ad, f.cap, f.hp, f.data, f.safe⟩ : FE) :: m2).map FE.fl := by rw [hgf, hfs, del_at' hfnm hfl]; show put ⟨t, f.data, f.safe⟩ _ = _; rw [gfs]; exact put_at' (f' := (⟨t, g.born, f.ad, f.cap, f.hp, f.data, f.safe⟩ : FE)) gfnm gfl rfl
          have he : move (⟨fs.map FE.fl, room, steps, fuse, down⟩ : AD) s t = (⟨(m1 ++ (⟨t, g.born, f.ad, f.cap, f.hp, f.data, f.safe⟩ : FE) :: m2).map FE.fl, room, (stp steps fuse down).2.1, (stp steps fuse down).2.2.1, (stp steps fuse down).2.2.2⟩, 0) := by unfold move; rw [if_neg (fun h => h hb1), if_neg (show ¬ right t = false from by rw [hrt]; simp), if_neg (show ¬ (step (⟨fs.map FE.fl, room, steps, fuse, down⟩ : AD)).2 = false from by rw [step_eq]; rw [show (stp steps fuse down).1 = true from hp1]; simp)]; simp only [step_eq, hput]
          exact done1 Try.results38 (rv_tmp rfl) ⟨by show _ = Value.int .i64 (((move (⟨fs.map FE.fl, room, steps, fuse, down⟩ : AD) s t).2 : Nat) : Int); rw [he]; rfl, ⟨⟨(m1 ++ (⟨t, g.born, f.ad, f.cap, f.hp, f.data, f.safe⟩ : FE) :: m2), clk, room, (stp steps fuse down).2.1, (stp steps fuse down).2.2.1, (stp steps fuse down).2.2.2⟩, bm, _, (by have hr2 := hr; rw [hfs] at hr2; have hr3 := rp_del (a' := room) (b' := steps) (c' := fuse) (d' := down) hr2; rw [gfs] at hr3; exact rp_set hr3 (hok f hf) rfl), by show _ = (move (⟨fs.map FE.fl, room, steps, fuse, down⟩ : AD) s t).1; rw [he]; rfl, List.Perm.refl _, List.Sublist.refl _⟩⟩
theorem Fuse_ok {bD : Nat} {A : AD} {Hd : Hp} (hD : DiskIs bD A Hd) (hA0 : A.ok) (hst : A.steps < 4611686018427387904) {k : Int} {w : World} (hG : Blocks [] w) (hHd : Blocks Hd w) (hndH : (Hd.map (·.1)).Nodup)  : Changes Try.prog 13 #[dptr bD, .int .i64 k] w Hd (fun v H' => v = .tuple #[] ∧ DiskIs bD (fuseTo A k) H') := by
  refine changes_of_W (G := []) (n := 11) (args := [dptr bD, .int .i64 k]) Try.func13 rfl Try.ntmps13 (Nat.le_of_ble_eq_true rfl) (fun p hp => by cases hp) hHd hndH ?_
  refine sStart ?_
  refine DiskIs.W hD (fun r bm hr hrA => ?_)
  obtain ⟨fs, clk, room, steps, fuse, down⟩ := r
  subst hrA
  have hA : AD.ok ⟨fs.map FE.fl, room, steps, fuse, down⟩ := hA0
  have hst : steps < 4611686018427387904 := hst
  have hfu : fuse ≤ 9223372036854775807 := hA.fuse
  have hnd : (fs.map (·.born)).Nodup := hr.borns
  have hold : ∀ f ∈ fs, f.born < clk := hr.old
  have hok : ∀ f ∈ fs, f.ok := hr.files
  refine W.norm (F' := [(0, dptr bD), (1, .int .i64 k)]) (H' := (bD, dblk bm room steps fuse down) :: (bm, mobj (fs.map FE.me) clk) :: fhp fs) rfl rfl ?_
  refine sSeq ?_
  refine W.region ?_
  refine OpsW.det (det_move rfl) rfl ?_
  refine OpsW.det (det_nnilPtr u23 rfl rfl) rfl ?_
  refine sNext ?_
  refine W.keep (F' := [(5, _), (0, _), (1, _)]) ⟨rfl, rfl, rfl, trivial⟩ ?_
  refine W.cond_true rfl ?_
  refine W.region ?_
  refine OpsW.det (det_move rfl) rfl ?_
  refine OpsW.det (det_move rfl) rfl ?_
  refine OpsW.det (Det.to (v := .int .i64 (((max 0 k).toNat : Nat) : Int)) (det_max rfl rfl) (congrArg (Value.int .i64) (by omega))) rfl ?_
  refine OpsW.det (det_nilCheck rfl) rfl ?_
  refine OpsW.det (det_fieldAddr fl66_3 rfl) rfl ?_
  refine OpsW.store sz3 rfl rfl rfl rfl rfl (Upd.here) rfl ?_
  refine sLast ?_
  exact done0 Try.results13 ⟨rfl, ⟨⟨fs, clk, room, steps, (max 0 k).toNat, down⟩, bm, _, (rp_any hr), rfl, List.Perm.refl _, List.Sublist.refl _⟩⟩
theorem FuseN_ok {k : Int} {w : World} (hG : Blocks [] w)  : Vm.Pure Try.prog 13 #[.pointer none, .int .i64 k] w (.tuple #[]) := by
  refine pure_of_W (n := 11) (args := [.pointer none, .int .i64 k]) Try.func13 rfl Try.ntmps13 (Nat.le_of_ble_eq_true rfl) hG ?_
  refine sStart ?_
  refine sSeq ?_
  refine W.region ?_
  refine OpsW.det (det_move rfl) rfl ?_
  refine OpsW.det (det_nnilPtr u23 rfl rfl) rfl ?_
  refine sNext ?_
  refine W.keep (F' := [(5, _), (0, _), (1, _)]) ⟨rfl, rfl, rfl, trivial⟩ ?_
  refine W.cond_false rfl ?_
  refine sSkip0 ?_
  exact done0 Try.results13 rfl
theorem AppendN_ok {s : Nm} {w : World} (hG : Blocks [] w)  : Vm.Pure Try.prog 10 #[.pointer none, sv s, .slice none 0 0] w (.int .i64 1) := by
  refine pure_of_W (n := 55) (args := [.pointer none, sv s, .slice none 0 0]) Try.func10 rfl Try.ntmps10 (Nat.le_of_ble_eq_true rfl) hG ?_
  refine sStart ?_
  refine sSeq ?_
  refine W.region ?_
  refine OpsW.det (det_assign rfl) rfl ?_
  refine sNext ?_
  refine W.keep (F' := [(0, _), (1, _), (2, _)]) ⟨rfl, rfl, rfl, trivial⟩ ?_
  refine sSeq ?_
  refine sSeq ?_
  refine W.region ?_
  refine OpsW.det (det_move rfl) rfl ?_
  refine OpsW.det (det_move rfl) rfl ?_
  refine OpsW.det (det_call en31 rfl (fun w hb ho => barsN_ok nob)) rfl ?_
  refine OpsW.det (det_assign rfl) rfl ?_
  refine sNext ?_
  refine W.keep (F' := [(7, _), (0, _), (1, _), (2, _)]) ⟨rfl, rfl, rfl, rfl, trivial⟩ ?_
  refine sSeq ?_
  refine W.region ?_
  refine OpsW.det (det_move rfl) rfl ?_
  refine OpsW.det (det_neq rfl rfl) rfl ?_
  refine sNext ?_
  refine W.keep (F' := [(14, _), (7, _), (0, _), (1, _), (2, _)]) ⟨rfl, rfl, rfl, rfl, rfl, trivial⟩ ?_
  refine W.cond_true rfl ?_
  refine sSeq ?_
  refine W.region ?_
  refine OpsW.det (det_move rfl) rfl ?_
  refine OpsW.det (det_assign rfl) rfl ?_
  refine sNext ?_
  refine W.keep (F' := [(6, _)]) ⟨rfl, trivial⟩ ?_
  refine sRet ?_
  exact done1 Try.results10 (rv_tmp rfl) rfl
theorem SyncN_ok {s : Nm} {w : World} (hG : Blocks [] w)  : Vm.Pure Try.prog 12 #[.pointer none, sv s] w (.int .i64 1) := by
  refine pure_of_W (n := 46) (args := [.pointer none, sv s]) Try.func12 rfl Try.ntmps12 (Nat.le_of_ble_eq_true rfl) hG ?_
  refine sStart ?_
  refine sSeq ?_
  refine W.region ?_
  refine OpsW.det (det_assign rfl) rfl ?_
  refine sNext ?_
  refine W.keep (F' := [(0, _), (1, _)]) ⟨rfl, rfl, trivial⟩ ?_
  refine sSeq ?_
  refine sSeq ?_
  refine W.region ?_
  refine OpsW.det (det_move rfl) rfl ?_
  refine OpsW.det (det_move rfl) rfl ?_
  refine OpsW.det (det_call en31 rfl (fun w hb ho => barsN_ok nob)) rfl ?_
  refine OpsW.det (det_assign rfl) rfl ?_
  refine sNext ?_
  refine W.keep (F' := [(5, _), (0, _), (1, _)]) ⟨rfl, rfl, rfl, trivial⟩ ?_
  refine sSeq ?_
  refine W.region ?_
  refine OpsW.det (det_move rfl) rfl ?_
  refine OpsW.det (det_neq rfl rfl) rfl ?_
  refine sNext ?_
  refine W.keep (F' := [(11, _), (5, _), (0, _), (1, _)]) ⟨rfl, rfl, rfl, rfl, trivial⟩ ?_
  refine W.cond_true rfl ?_
  refine sSeq ?_
  refine W.region ?_
  refine OpsW.det (det_move rfl) rfl ?_
  refine OpsW.det (det_assign rfl) rfl ?_
  refine sNext ?_
  refine W.keep (F' := [(4, _)]) ⟨rfl, trivial⟩ ?_
  refine sRet ?_
  exact done1 Try.results12 (rv_tmp rfl) rfl
theorem CrashN_ok {v : Value} {w : World} (hG : Blocks [] w)  : Vm.Pure Try.prog 14 #[.pointer none, v] w (.tuple #[]) := by
  refine pure_of_W (n := 80) (args := [.pointer none, v]) Try.func14 rfl Try.ntmps14 (Nat.le_of_ble_eq_true rfl) hG ?_
  refine sStart ?_
  refine sSeq ?_
  refine sSeq ?_
  refine W.region ?_
  refine OpsW.det (det_move rfl) rfl ?_
  refine OpsW.det (det_nilPtr u23 rfl rfl) rfl ?_
  refine sNext ?_
  refine W.keep (F' := [(10, _), (0, _), (1, _)]) ⟨rfl, rfl, rfl, trivial⟩ ?_
  refine W.cond_true rfl ?_
  refine sRet ?_
  exact done0r Try.results14 rfl
theorem New_ok {k : Int} {w : World} (hG : Blocks [] w)  : Changes Try.prog 8 #[.int .i64 k] w [] (fun v H' => ∃ bD, v = dptr bD ∧ DiskIs bD (fresh k) H') := by
  refine changes_of_W (Hf := []) (G := []) (n := 9) (args := [.int .i64 k]) Try.func8 rfl Try.ntmps8 (Nat.le_of_ble_eq_true rfl) (fun p hp => by cases hp) (fun _ h => by cases h) (by simp) ?_
  refine sStart ?_
  refine sSeq ?_
  refine W.region ?_
  refine OpsW.det (det_assign rfl) rfl ?_
  refine sNext ?_
  refine W.keep (F' := [(0, _)]) ⟨rfl, trivial⟩ ?_
  refine sSeq ?_
  refine W.region ?_
  refine OpsW.fresh (fr_makeMap) rfl fun b3 => ?_
  refine OpsW.det (det_move rfl) rfl ?_
  refine OpsW.det (det_min rfl rfl) rfl ?_
  refine OpsW.det (Det.to (v := .int .i64 ((fresh k).room : Nat)) (det_max rfl rfl) (congrArg (Value.int .i64) (by show _ = (((max 0 (min k 4194304)).toNat : Nat) : Int); omega))) rfl ?_
  refine OpsW.det (det_build rfl bld66) rfl ?_
  refine OpsW.fresh (fr_box rfl rfl) rfl fun b8 => ?_
  refine OpsW.det (det_assign rfl) rfl ?_
  refine sNext ?_
  refine W.keep (F' := [(2, _)]) ⟨rfl, trivial⟩ ?_
  refine sRet ?_
  exact done1 Try.results8 (rv_tmp rfl) ⟨b8, rfl, ⟨⟨[], 0, (fresh k).room, 0, 0, false⟩, b3, _, ⟨(fun f h => by cases h), List.nodup_nil, (fun f h => by cases h)⟩, rfl, List.Perm.refl _, List.Sublist.refl _⟩⟩

end Go.Dk
