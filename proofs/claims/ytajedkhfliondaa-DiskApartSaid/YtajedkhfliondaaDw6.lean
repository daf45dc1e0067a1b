/-
  The disk's Append: the walk. Conditions: those of a disk.
-/
import Derived.Test.YtajedkhfliondaaDw5
namespace Go.Dk
open Go Go.Vm Go.RowKit Go.Proofs Go.Cu
attribute [local irreducible] W OpsW Det Fresh New Writes Vm.Pure Makes Changes ExternTo BuildTo ZeroTo FieldTo IndexTo BinTo SliceTo Vm.Enters
set_option linter.unusedVariables false
set_option linter.unusedSimpArgs false

theorem u64' : True := trivial
theorem hp_of {K : List Nat} {l1 l2 : List FE} {f : FE} : fhp (l1 ++ f :: l2) = fhp l1 ++ (f.hp ++ fhp l2) := fhp_at

theorem en32 : Vm.Enters Try.prog 32 := Vm.Enters.of fun _ _ => by kernel_rfl
theorem sz22 : sizeIn Try.prog 22 = some 1 := by kernel_rfl
theorem ty69 : TyA Try.prog 69 2 := ⟨by kernel_rfl, by kernel_rfl⟩
theorem Append_ok {G' : Hp} {bD : Nat} {A : AD} {Hd : Hp} (hD : DiskIs bD A Hd) (hA0 : A.ok) (hst : A.steps < 4611686018427387904) {s : Nm} (hs : s.length ≤ 9223372036854775807) {ad : Option Addr} {n c : Nat} {b : List Nat} (hB : Bs G' (.slice ad n c) b) (hbl : b.length ≤ 140737488355328) {w : World} (hG : Blocks G' w) (hHd : Blocks Hd w) (hndH : (Hd.map (·.1)).Nodup) (hdis : ∀ p ∈ G', p.1 ∉ Hd.map (·.1)) : Changes Try.prog 10 #[dptr bD, sv s, .slice ad n c] w Hd (fun v H' => v = .int .i64 ((append A s b).2 : Nat) ∧ DiskIs bD (append A s b).1 H') := by
  obtain ⟨hnl, _⟩ := bs_nz hB
  subst hnl
  refine changes_of_W (n := 55) (args := [dptr bD, sv s, .slice ad b.length c]) Try.func10 rfl Try.ntmps10 (Nat.le_of_ble_eq_true rfl) (fun p hp => ⟨hG p hp, hdis p hp⟩) hHd hndH ?_
  refine sStart ?_
  refine DiskIs.W hD (fun r bm hr hrA => ?_)
  obtain ⟨fs, clk, room, steps, fuse, down⟩ := r
  subst hrA
  have hA : AD.ok ⟨fs.map FE.fl, room, steps, fuse, down⟩ := hA0
  have hst : steps < 4611686018427387904 := hst
  have hfu : fuse ≤ 9223372036854775807 := hA.fuse
  have hnd : (fs.map (·.born)).Nodup := hr.borns
  have hold : ∀ f ∈ fs, f.born < clk := hr.old
  have hok : ∀ f ∈ fs, f.ok := hr.files
  refine W.norm (F' := [(0, dptr bD), (1, sv s), (2, .slice ad b.length c)]) (H' := (bD, dblk bm room steps fuse down) :: (bm, mobj (fs.map FE.me) clk) :: fhp fs) rfl rfl ?_
  refine sSeq ?_
  refine W.region ?_
  refine OpsW.det (det_assign rfl) rfl ?_
  refine sNext ?_
  refine W.keep (F' := [(0, _), (1, _), (2, _)]) ⟨rfl, rfl, rfl, trivial⟩ ?_
  refine sSeq ?_
  refine sSeq ?_
  refine W.region ?_
  refine OpsW.det (det_move rfl) rfl ?_
  refine OpsW.det (det_move rfl) rfl ?_
  refine OpsW.det (det_call en31 rfl (fun w hb ho => barsF_ok hs hb)) rfl ?_
  refine OpsW.det (det_assign rfl) rfl ?_
  refine sNext ?_
  refine W.keep (F' := [(7, _), (0, _), (1, _), (2, _)]) ⟨rfl, rfl, rfl, rfl, trivial⟩ ?_
  refine sSeq ?_
  refine W.region ?_
  refine OpsW.det (det_move rfl) rfl ?_
  refine OpsW.det (det_neq rfl rfl) rfl ?_
  refine sNext ?_
  refine W.keep (F' := [(14, _), (7, _), (0, _), (1, _), (2, _)]) ⟨rfl, rfl, rfl, rfl, rfl, trivial⟩ ?_
  refine W.cond rfl (fun hc14 => ?_) (fun hc14 => ?_)
  · skip
    have hb1 : bars ⟨fs.map FE.fl, room, steps, fuse, down⟩ s false ≠ 0 := by have h := hc14; simp only [bne_iff_ne, ne_eq] at h; omega
    refine sSeq ?_
    refine W.region ?_
    refine OpsW.det (det_move rfl) rfl ?_
    refine OpsW.det (det_assign rfl) rfl ?_
    refine sNext ?_
    refine W.keep (F' := [(6, _)]) ⟨rfl, trivial⟩ ?_
    refine sRet ?_
    have he : append (⟨fs.map FE.fl, room, steps, fuse, down⟩ : AD) s b = ((⟨fs.map FE.fl, room, steps, fuse, down⟩ : AD), bars (⟨fs.map FE.fl, room, steps, fuse, down⟩ : AD) s false) := by unfold append; rw [if_pos hb1]
    exact done1 Try.results10 (rv_tmp rfl) ⟨by show _ = Value.int .i64 (((append (⟨fs.map FE.fl, room, steps, fuse, down⟩ : AD) s b).2 : Nat) : Int); rw [he], ⟨⟨fs, clk, room, steps, fuse, down⟩, bm, _, hr, by show _ = (append (⟨fs.map FE.fl, room, steps, fuse, down⟩ : AD) s b).1; rw [he]; rfl, List.Perm.refl _, List.Sublist.refl _⟩⟩
  · skip
    have hb1 : bars ⟨fs.map FE.fl, room, steps, fuse, down⟩ s false = 0 := by have h := hc14; simp only [bne_eq_false_iff_eq] at h; omega
    refine sSkip ?_
    refine sSeq ?_
    rcases look_cases s fs with ⟨hfn, hmf, hgf, hfl⟩ | ⟨l1, f, l2, hfs, hfnm, hfl, hmf, hgf, hf, hfd⟩
    · skip
      refine W.region ?_
      refine OpsW.det (det_move rfl) rfl ?_
      refine OpsW.det (det_nilCheck rfl) rfl ?_
      refine OpsW.det (det_fieldAddr fl66_0 rfl) rfl ?_
      refine OpsW.det (det_loadC ty64 rfl (List.Mem.head _) rfl) rfl ?_
      refine OpsW.det (det_move rfl) rfl ?_
      refine OpsW.det (Det.to (v := .tuple [fval none 0 0 0, .bool false].toArray) (det_lookupOk tm64 rfl rfl (.inl (List.Mem.tail _ (List.Mem.head _)))) (by rw [hmf]; rfl)) rfl ?_
      refine OpsW.det (det_move rfl) rfl ?_
      refine OpsW.det (det_extract rfl rfl) rfl ?_
      refine OpsW.det (det_extract rfl rfl) rfl ?_
      refine OpsW.fresh (fr_alloc z69) rfl fun b8 => ?_
      refine OpsW.store sz69 rfl rfl rfl rfl rfl (Upd.here) rfl ?_
      refine OpsW.det (det_assign rfl) rfl ?_
      refine sNext ?_
      refine W.keep (F' := [(9, _), (8, _), (0, _), (1, _), (2, _)]) ⟨rfl, rfl, rfl, rfl, rfl, trivial⟩ ?_
      refine sSeq ?_
      refine sSeq ?_
      refine W.region ?_
      refine OpsW.det (det_move rfl) rfl ?_
      refine OpsW.det (det_not rfl) rfl ?_
      refine OpsW.det (det_move rfl) rfl ?_
      refine OpsW.guard_yes rfl rfl ?_
      refine OpsW.det (det_move rfl) rfl ?_
      refine OpsW.guard_yes rfl rfl ?_
      refine OpsW.det (det_nilCheck rfl) rfl ?_
      refine OpsW.guard_yes rfl rfl ?_
      refine OpsW.det (det_fieldAddr fl66_0 rfl) rfl ?_
      refine OpsW.guard_yes rfl rfl ?_
      refine OpsW.det (det_loadC ty64 rfl (List.Mem.tail _ (List.Mem.head _)) rfl) rfl ?_
      refine OpsW.guard_yes rfl rfl ?_
      refine OpsW.det (det_lenMap u64m rfl (.inl (List.Mem.tail _ (List.Mem.tail _ (List.Mem.head _))))) rfl ?_
      refine OpsW.guard_yes rfl rfl ?_
      refine OpsW.det (det_geq rfl rfl) rfl ?_
      refine OpsW.det (det_pick rfl rfl) rfl ?_
      refine sNext ?_
      refine W.keep (F' := [(34, _), (8, _), (0, _), (1, _), (2, _)]) ⟨rfl, rfl, rfl, rfl, rfl, trivial⟩ ?_
      refine W.cond rfl (fun hc34 => ?_) (fun hc34 => ?_)
      · skip
        refine sSeq ?_
        refine W.region ?_
        refine OpsW.det (det_assign rfl) rfl ?_
        refine sNext ?_
        refine W.keep (F' := [(6, _)]) ⟨rfl, trivial⟩ ?_
        refine sRet ?_
        have hmny : 32 ≤ (fs.map FE.fl).length := by have h := hc34; simp only [decide_eq_true_eq, List.length_map] at h ⊢; omega
        have he : append (⟨fs.map FE.fl, room, steps, fuse, down⟩ : AD) s b = ((⟨fs.map FE.fl, room, steps, fuse, down⟩ : AD), 43) := by unfold append; rw [if_neg (fun h => h hb1), if_pos ⟨hfn, hmny⟩]
        exact done1 Try.results10 (rv_tmp rfl) ⟨by show _ = Value.int .i64 (((append (⟨fs.map FE.fl, room, steps, fuse, down⟩ : AD) s b).2 : Nat) : Int); rw [he]; rfl, ⟨⟨fs, clk, room, steps, fuse, down⟩, bm, _, hr, by show _ = (append (⟨fs.map FE.fl, room, steps, fuse, down⟩ : AD) s b).1; rw [he]; rfl, List.Perm.refl _, List.sublist_cons_self _ _⟩⟩
      · skip
        refine sSkip ?_
        refine sSeq ?_
        refine sSeq ?_
        refine W.region ?_
        refine OpsW.det (det_move rfl) rfl ?_
        refine OpsW.det (det_len u22 rfl) rfl ?_
        refine OpsW.det (det_fieldAddr fl69_0 rfl) rfl ?_
        refine OpsW.det (det_loadC ty22 rfl (List.Mem.head _) rfl) rfl ?_
        refine OpsW.det (det_len u22 rfl) rfl ?_
        refine OpsW.det (det_subZ (c := 4194304 - _) rfl rfl rfl (by omega)) rfl ?_
        refine OpsW.det (det_gtr rfl rfl) rfl ?_
        refine sNext ?_
        refine W.keep (F' := [(41, _), (8, _), (0, _), (1, _), (2, _)]) ⟨rfl, rfl, rfl, rfl, rfl, trivial⟩ ?_
        refine W.cond rfl (fun hc41 => ?_) (fun hc41 => ?_)
        · skip
          refine sSeq ?_
          refine W.region ?_
          refine OpsW.det (det_assign rfl) rfl ?_
          refine sNext ?_
          refine W.keep (F' := [(6, _)]) ⟨rfl, trivial⟩ ?_
          refine sRet ?_
          have hbig : maxRoom < (getF s (fs.map FE.fl)).data.length + b.length := by rw [hgf]; have h := hc41; unfold maxRoom; simp only [decide_eq_true_eq] at h; simp only [List.length_nil]; omega
          have he : append (⟨fs.map FE.fl, room, steps, fuse, down⟩ : AD) s b = ((⟨fs.map FE.fl, room, steps, fuse, down⟩ : AD), 18) := by unfold append; rw [if_neg (fun h => h hb1), if_neg (fun h => by have h1 := h.2; have h2 := hc34; simp only [decide_eq_false_iff_not, List.length_map] at h1 h2; omega), if_pos hbig]
          exact done1 Try.results10 (rv_tmp rfl) ⟨by show _ = Value.int .i64 (((append (⟨fs.map FE.fl, room, steps, fuse, down⟩ : AD) s b).2 : Nat) : Int); rw [he]; rfl, ⟨⟨fs, clk, room, steps, fuse, down⟩, bm, _, hr, by show _ = (append (⟨fs.map FE.fl, room, steps, fuse, down⟩ : AD) s b).1; rw [he]; rfl, List.Perm.refl _, List.sublist_cons_self _ _⟩⟩
        · skip
          refine sSkip ?_
          refine sSeq ?_
          refine W.region ?_
          refine OpsW.det (det_fieldAddr fl69_0 rfl) rfl ?_
          refine OpsW.det (det_loadC ty22 rfl (List.Mem.head _) rfl) rfl ?_
          refine OpsW.det (det_move rfl) rfl ?_
          have hbs : b.length ≤ 4194304 := by have h := hc41; simp only [decide_eq_false_iff_not] at h; omega
          refine OpsW.appendOwn (hp := []) (len := 0) (cap := 0) (xs := []) Go.Cu.ty22 rfl (.none (fun a h => by cases h)) rfl (hB.src (fun p hp => .inr hp)) (bcells_one b) (by show 0 + b.length ≤ 9223372036854775807; omega) (by omega) rfl (fun ad' cap' hp' hown' => ?_)
          rw [Nat.zero_add, List.nil_append] at hown'
          rw [Nat.zero_add]
          refine OpsW.some (H' := (b8, blk [.slice none 0 0, .int .i64 ((0 : Nat) : Int)] 69) :: (bD, dblk bm room steps fuse down) :: (bm, mobj (fs.map FE.me) clk) :: (fhp fs ++ hp')) (X := []) (perm_of fun F => by simp only [wsum_app, wsum]; omega) ?_
          refine OpsW.det (det_fieldAddr fl69_0 rfl) rfl ?_
          refine OpsW.store sz22 rfl rfl rfl rfl rfl (Upd.here) rfl ?_
          refine sNext ?_
          refine W.keep (F' := [(8, _), (0, _), (1, _)]) ⟨rfl, rfl, rfl, trivial⟩ ?_
          refine sSeq ?_
          refine W.draw mixed 6 [[], [0], [0, 1], [0, 1, 2], [], [], [0, 1, 2, 3, 4, 5]] (cl_lt (by decide)) ?_
          refine HeadR.start (cl_lt (by decide)) ?_
          refine HeadR.det rfl (fun β hβ => (det_move rfl)) ?_
          refine HeadR.det rfl (fun β hβ => (det_nilCheck rfl)) ?_
          refine HeadR.det rfl (fun β hβ => (det_fieldAddr fl66_0 rfl)) ?_
          refine HeadR.det rfl (fun β hβ => (det_loadC ty64 rfl (List.Mem.tail _ (List.Mem.head _)) rfl)) ?_
          refine HeadR.det rfl (fun β hβ => (det_move rfl)) ?_
          refine HeadR.det rfl (fun β hβ => (det_loadA ty69 rfl (List.Mem.head _) rfl)) ?_
          refine HeadR.done ⟨by kernel_rfl, fun β hβ => ?_⟩
          refine OpsW.norm (F' := [(47, _), (48, _), (49, _), (50, _), (51, _), (52, _), (8, _), (0, _), (1, _)]) (H' := ((_, _) :: (_, _) :: (_, _) :: (fhp fs ++ hp'))) rfl rfl ?_
          refine OpsW.mapUpdate tm64 rfl rfl rfl (Upd.there (Upd.there Upd.here)) ?_
          have hms : mset s (fval ad' b.length cap' 0) clk (fs.map FE.me) = (fs ++ [(⟨s, clk, ad', cap', hp', b, 0⟩ : FE)]).map FE.me := by rw [mset_new hmf, List.map_append]; rfl
          rw [show mset s _ clk (fs.map FE.me) = _ from hms, mclk_no hmf]
          refine sNext ?_
          refine W.keep (F' := [(0, _)]) ⟨rfl, trivial⟩ ?_
          refine sSeq ?_
          refine W.region ?_
          refine OpsW.det (det_move rfl) rfl ?_
          refine OpsW.front1 ?_
          refine OpsW.change (Hf := [(_, _)]) en32 rfl (fun w hb hbn ho hbm => done_ok (by omega) hfu (blocks_sub (List.Sublist.cons_cons _ (List.nil_sublist _)) hb)) rfl (fun v54 H54 hS54 => ?_)
          obtain ⟨rfl, rfl⟩ := hS54
          refine OpsW.norm (H' := ((_, _) :: (_, _) :: (_, _) :: (fhp fs ++ hp'))) rfl rfl ?_
          refine OpsW.det (det_assign rfl) rfl ?_
          refine sNext ?_
          refine W.keep (F' := [(6, _)]) ⟨rfl, trivial⟩ ?_
          refine sRet ?_
          have hbig : ¬ maxRoom < (getF s (fs.map FE.fl)).data.length + b.length := by rw [hgf]; have h := hc41; unfold maxRoom; simp only [decide_eq_false_iff_not] at h; simp only [List.length_nil]; omega
          have hput : put { getF s (fs.map FE.fl) with data := (getF s (fs.map FE.fl)).data ++ b } (fs.map FE.fl) = (fs ++ [(⟨s, clk, ad', cap', hp', b, 0⟩ : FE)]).map FE.fl := by rw [hgf]; exact put_no' (f' := (⟨s, clk, ad', cap', hp', b, 0⟩ : FE)) hfl rfl
          have he : append (⟨fs.map FE.fl, room, steps, fuse, down⟩ : AD) s b = (⟨(fs ++ [(⟨s, clk, ad', cap', hp', b, 0⟩ : FE)]).map FE.fl, room, (stp steps fuse down).2.1, (stp steps fuse down).2.2.1, (stp steps fuse down).2.2.2⟩, if (stp steps fuse down).1 = true then 0 else 2) := by unfold append; rw [if_neg (fun h => h hb1), if_neg (fun h => by have h1 := h.2; have h2 := hc34; simp only [decide_eq_false_iff_not, List.length_map] at h1 h2; omega), if_neg hbig]; simp only [step_eq, hput]
          exact done1 Try.results10 (rv_tmp rfl) ⟨by show Value.int .i64 (if (stp steps fuse down).1 = true then 0 else 2) = Value.int .i64 (((append (⟨fs.map FE.fl, room, steps, fuse, down⟩ : AD) s b).2 : Nat) : Int); rw [he]; split <;> rfl, ⟨⟨(fs ++ [(⟨s, clk, ad', cap', hp', b, 0⟩ : FE)]), (clk + 1), room, (stp steps fuse down).2.1, (stp steps fuse down).2.2.1, (stp steps fuse down).2.2.2⟩, bm, _, (rp_new hr hown' rfl), by show _ = (append (⟨fs.map FE.fl, room, steps, fuse, down⟩ : AD) s b).1; rw [he]; rfl, List.Perm.refl _, by simp only [Rp.hp, fhp_snoc]; exact ((List.Sublist.refl _).cons _).cons_cons _⟩⟩
    · skip
      have hfsz := (fe_small hA hf).2.1
      refine W.region ?_
      refine OpsW.det (det_move rfl) rfl ?_
      refine OpsW.det (det_nilCheck rfl) rfl ?_
      refine OpsW.det (det_fieldAddr fl66_0 rfl) rfl ?_
      refine OpsW.det (det_loadC ty64 rfl (List.Mem.head _) rfl) rfl ?_
      refine OpsW.det (det_move rfl) rfl ?_
      refine OpsW.det (Det.to (v := .tuple [f.val, .bool true].toArray) (det_lookupOk tm64 rfl rfl (.inl (List.Mem.tail _ (List.Mem.head _)))) (by rw [hmf]; rfl)) rfl ?_
      refine OpsW.det (det_move rfl) rfl ?_
      refine OpsW.det (det_extract rfl rfl) rfl ?_
      refine OpsW.det (det_extract rfl rfl) rfl ?_
      refine OpsW.fresh (fr_alloc z69) rfl fun b8 => ?_
      refine OpsW.store sz69 rfl rfl rfl rfl rfl (Upd.here) rfl ?_
      refine OpsW.det (det_assign rfl) rfl ?_
      refine sNext ?_
      refine W.keep (F' := [(9, _), (8, _), (0, _), (1, _), (2, _)]) ⟨rfl, rfl, rfl, rfl, rfl, trivial⟩ ?_
      refine sSeq ?_
      refine sSeq ?_
      refine W.region ?_
      refine OpsW.det (det_move rfl) rfl ?_
      refine OpsW.det (det_not rfl) rfl ?_
      refine OpsW.det (det_move rfl) rfl ?_
      refine OpsW.guard_no rfl rfl rfl ?_
      refine OpsW.guard_no rfl rfl rfl ?_
      refine OpsW.guard_no rfl rfl rfl ?_
      refine OpsW.guard_no rfl rfl rfl ?_
      refine OpsW.guard_no rfl rfl rfl ?_
      refine OpsW.guard_no rfl rfl rfl ?_
      refine OpsW.det (det_pick rfl rfl) rfl ?_
      refine sNext ?_
      refine W.keep (F' := [(34, _), (8, _), (0, _), (1, _), (2, _)]) ⟨rfl, rfl, rfl, rfl, rfl, trivial⟩ ?_
      refine W.cond_false rfl ?_
      refine sSkip ?_
      refine sSeq ?_
      refine sSeq ?_
      refine W.region ?_
      refine OpsW.det (det_move rfl) rfl ?_
      refine OpsW.det (det_len u22 rfl) rfl ?_
      refine OpsW.det (det_fieldAddr fl69_0 rfl) rfl ?_
      refine OpsW.det (det_loadC ty22 rfl (List.Mem.head _) rfl) rfl ?_
      refine OpsW.det (det_len u22 rfl) rfl ?_
      refine OpsW.det (det_subZ (c := 4194304 - _) rfl rfl rfl (by omega)) rfl ?_
      refine OpsW.det (det_gtr rfl rfl) rfl ?_
      refine sNext ?_
      refine W.keep (F' := [(41, _), (8, _), (0, _), (1, _), (2, _)]) ⟨rfl, rfl, rfl, rfl, rfl, trivial⟩ ?_
      refine W.cond rfl (fun hc41 => ?_) (fun hc41 => ?_)
      · skip
        refine sSeq ?_
        refine W.region ?_
        refine OpsW.det (det_assign rfl) rfl ?_
        refine sNext ?_
        refine W.keep (F' := [(6, _)]) ⟨rfl, trivial⟩ ?_
        refine sRet ?_
        have hbig : maxRoom < (getF s (fs.map FE.fl)).data.length + b.length := by rw [hgf]; have h := hc41; unfold maxRoom; simp only [decide_eq_true_eq] at h; simp only [FE.fl]; omega
        have he : append (⟨fs.map FE.fl, room, steps, fuse, down⟩ : AD) s b = ((⟨fs.map FE.fl, room, steps, fuse, down⟩ : AD), 18) := by unfold append; rw [if_neg (fun h => h hb1), if_neg (fun h => by have h1 := h.1; rw [hfd] at h1; cases h1), if_pos hbig]
        exact done1 Try.results10 (rv_tmp rfl) ⟨by show _ = Value.int .i64 (((append (⟨fs.map FE.fl, room, steps, fuse, down⟩ : AD) s b).2 : Nat) : Int); rw [he]; rfl, ⟨⟨fs, clk, room, steps, fuse, down⟩, bm, _, hr, by show _ = (append (⟨fs.map FE.fl, room, steps, fuse, down⟩ : AD) s b).1; rw [he]; rfl, List.Perm.refl _, List.sublist_cons_self _ _⟩⟩
      · skip
        refine sSkip ?_
        refine sSeq ?_
        refine W.region ?_
        refine OpsW.det (det_fieldAddr fl69_0 rfl) rfl ?_
        refine OpsW.det (det_loadC ty22 rfl (List.Mem.head _) rfl) rfl ?_
        refine OpsW.det (det_move rfl) rfl ?_
        have hbs : f.data.length + b.length ≤ 4194304 := by have h := hc41; simp only [decide_eq_false_iff_not] at h; omega
        refine OpsW.some (H' := f.hp ++ ((b8, blk [.slice f.ad f.data.length f.cap, .int .i64 (f.safe : Nat)] 69) :: (bD, dblk bm room steps fuse down) :: (bm, mobj (fs.map FE.me) clk) :: (fhp l1 ++ fhp l2))) (X := []) (perm_of fun F => by simp only [wsum_app, wsum, hfs, fhp_at]; omega) ?_
        refine OpsW.appendOwn (hp := f.hp) Go.Cu.ty22 rfl (hr.files f hf) rfl (hB.src (fun p hp => .inr hp)) (bcells_one b) (by show f.data.length + b.length ≤ 9223372036854775807; omega) (by omega) rfl (fun ad' cap' hp' hown' => ?_)
        have hown2 : Own 5 ad' (f.data ++ b).length cap' hp' (bcells (f.data ++ b)) := by rw [List.length_append, bcells_app]; exact hown'
        refine OpsW.some (H' := (b8, blk [.slice f.ad f.data.length f.cap, .int .i64 (f.safe : Nat)] 69) :: (bD, dblk bm room steps fuse down) :: (bm, mobj (fs.map FE.me) clk) :: (fhp l1 ++ (hp' ++ fhp l2))) (X := []) (perm_of fun F => by simp only [wsum_app, wsum]; omega) ?_
        refine OpsW.det (det_fieldAddr fl69_0 rfl) rfl ?_
        refine OpsW.store sz22 rfl rfl rfl rfl rfl (Upd.here) rfl ?_
        refine sNext ?_
        refine W.keep (F' := [(8, _), (0, _), (1, _)]) ⟨rfl, rfl, rfl, trivial⟩ ?_
        refine sSeq ?_
        refine W.draw mixed 6 [[], [0], [0, 1], [0, 1, 2], [], [], [0, 1, 2, 3, 4, 5]] (cl_lt (by decide)) ?_
        refine HeadR.start (cl_lt (by decide)) ?_
        refine HeadR.det rfl (fun β hβ => (det_move rfl)) ?_
        refine HeadR.det rfl (fun β hβ => (det_nilCheck rfl)) ?_
        refine HeadR.det rfl (fun β hβ => (det_fieldAddr fl66_0 rfl)) ?_
        refine HeadR.det rfl (fun β hβ => (det_loadC ty64 rfl (List.Mem.tail _ (List.Mem.head _)) rfl)) ?_
        refine HeadR.det rfl (fun β hβ => (det_move rfl)) ?_
        refine HeadR.det rfl (fun β hβ => (det_loadA ty69 rfl (List.Mem.head _) rfl)) ?_
        refine HeadR.done ⟨by kernel_rfl, fun β hβ => ?_⟩
        refine OpsW.norm (F' := [(47, _), (48, _), (49, _), (50, _), (51, _), (52, _), (8, _), (0, _), (1, _)]) (H' := ((_, _) :: (_, _) :: (_, _) :: (fhp l1 ++ (hp' ++ fhp l2)))) rfl rfl ?_
        refine OpsW.mapUpdate tm64 rfl rfl rfl (Upd.there (Upd.there Upd.here)) ?_
        have hms : mset s (fval ad' (f.data.length + b.length) cap' f.safe) clk (fs.map FE.me) = (l1 ++ (⟨s, f.born, ad', cap', hp', f.data ++ b, f.safe⟩ : FE) :: l2).map FE.me := by rw [hfs]; exact mset_at (f := f) (f' := (⟨s, f.born, ad', cap', hp', f.data ++ b, f.safe⟩ : FE)) (by show fval ad' (f.data ++ b).length cap' f.safe = _; rw [List.length_append]) rfl rfl hfnm hfl
        rw [show mset s _ clk (fs.map FE.me) = _ from hms, mclk_at hmf]
        refine sNext ?_
        refine W.keep (F' := [(0, _)]) ⟨rfl, trivial⟩ ?_
        refine sSeq ?_
        refine W.region ?_
        refine OpsW.det (det_move rfl) rfl ?_
        refine OpsW.front1 ?_
        refine OpsW.change (Hf := [(_, _)]) en32 rfl (fun w hb hbn ho hbm => done_ok (by omega) hfu (blocks_sub (List.Sublist.cons_cons _ (List.nil_sublist _)) hb)) rfl (fun v54 H54 hS54 => ?_)
        obtain ⟨rfl, rfl⟩ := hS54
        refine OpsW.norm (H' := ((_, _) :: (_, _) :: (_, _) :: (fhp l1 ++ (hp' ++ fhp l2)))) rfl rfl ?_
        refine OpsW.det (det_assign rfl) rfl ?_
        refine sNext ?_
        refine W.keep (F' := [(6, _)]) ⟨rfl, trivial⟩ ?_
        refine sRet ?_
        have hbig : ¬ maxRoom < (getF s (fs.map FE.fl)).data.length + b.length := by rw [hgf]; have h := hc41; unfold maxRoom; simp only [decide_eq_false_iff_not] at h; simp only [FE.fl]; omega
        have hput : put { getF s (fs.map FE.fl) with data := (getF s (fs.map FE.fl)).data ++ b } (fs.map FE.fl) = (l1 ++ (⟨s, f.born, ad', cap', hp', f.data ++ b, f.safe⟩ : FE) :: l2).map FE.fl := by rw [hgf, hfs]; show put ⟨f.nm, f.data ++ b, f.safe⟩ _ = _; rw [hfnm]; exact put_at' hfnm hfl rfl (f' := (⟨s, f.born, ad', cap', hp', f.data ++ b, f.safe⟩ : FE))
        have he : append (⟨fs.map FE.fl, room, steps, fuse, down⟩ : AD) s b = (⟨(l1 ++ (⟨s, f.born, ad', cap', hp', f.data ++ b, f.safe⟩ : FE) :: l2).map FE.fl, room, (stp steps fuse down).2.1, (stp steps fuse down).2.2.1, (stp steps fuse down).2.2.2⟩, if (stp steps fuse down).1 = true then 0 else 2) := by unfold append; rw [if_neg (fun h => h hb1), if_neg (fun h => by have h1 := h.1; rw [hfd] at h1; cases h1), if_neg hbig]; simp only [step_eq, hput]
        exact done1 Try.results10 (rv_tmp rfl) ⟨by show Value.int .i64 (if (stp steps fuse down).1 = true then 0 else 2) = Value.int .i64 (((append (⟨fs.map FE.fl, room, steps, fuse, down⟩ : AD) s b).2 : Nat) : Int); rw [he]; split <;> rfl, ⟨⟨(l1 ++ (⟨s, f.born, ad', cap', hp', f.data ++ b, f.safe⟩ : FE) :: l2), clk, room, (stp steps fuse down).2.1, (stp steps fuse down).2.2.1, (stp steps fuse down).2.2.2⟩, bm, _, (by have hr2 := hr; rw [hfs] at hr2; exact rp_set hr2 hown2 rfl), by show _ = (append (⟨fs.map FE.fl, room, steps, fuse, down⟩ : AD) s b).1; rw [he]; rfl, List.Perm.refl _, by simp only [Rp.hp, fhp_at]; exact ((List.Sublist.refl _).cons _).cons_cons _⟩⟩

end Go.Dk
