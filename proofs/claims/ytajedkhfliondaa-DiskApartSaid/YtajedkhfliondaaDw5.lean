/-
  The disk's image: the walk. Conditions: those of a disk.
-/
import Derived.Test.YtajedkhfliondaaDw4
namespace Go.Dk
open Go Go.Vm Go.RowKit Go.Proofs Go.Cu
attribute [local irreducible] W OpsW Det Fresh New Writes Vm.Pure Makes Changes ExternTo BuildTo ZeroTo FieldTo IndexTo BinTo SliceTo Vm.Enters
set_option linter.unusedVariables false
set_option linter.unusedSimpArgs false


theorem fl69_0 : TyF Try.prog 69 0 0 1 := ⟨⟨22, by kernel_rfl, by kernel_rfl⟩, by decide⟩
theorem sz9 : sizeIn Try.prog 9 = some 1 := by kernel_rfl
theorem ty22 : TyC Try.prog 22 := ⟨by kernel_rfl, by kernel_rfl⟩
theorem ty9 : TyC Try.prog 9 := ⟨by kernel_rfl, by kernel_rfl⟩
theorem u47 : Try.prog.underlying 47 = some (.slice 9) := by kernel_rfl
theorem Image_ok {bD bm clk room steps fuse : Nat} {down : Bool} {fs : List FE} (hA : AD.ok ⟨fs.map FE.fl, room, steps, fuse, down⟩) (hok : ∀ f ∈ fs, f.ok) (hnd : (fs.map (·.born)).Nodup) (hold : ∀ f ∈ fs, f.born < clk) {w : World} (hG : Blocks ((bD, dblk bm room steps fuse down) :: (bm, mobj (fs.map FE.me) clk) :: fhp fs) w)  : Changes Try.prog 18 #[dptr bD] w [] (fun v H' => FilesIs v (image (fs.map FE.fl)) H') := by
  refine changes_of_W (Hf := []) (n := 34) (args := [dptr bD]) Try.func18 rfl Try.ntmps18 (Nat.le_of_ble_eq_true rfl) (fun p hp => ⟨hG p hp, by simp⟩) (fun _ h => by cases h) (by simp) ?_
  refine sStart ?_
  refine sSeq ?_
  refine W.region ?_
  refine OpsW.det (det_assign rfl) rfl ?_
  refine sNext ?_
  refine W.keep (F' := [(0, _)]) ⟨rfl, trivial⟩ ?_
  refine sSeq ?_
  refine sSeq ?_
  refine W.region ?_
  refine OpsW.det (det_move rfl) rfl ?_
  refine OpsW.det (det_nilPtr u23 rfl rfl) rfl ?_
  refine sNext ?_
  refine W.keep (F' := [(8, _), (0, _)]) ⟨rfl, rfl, trivial⟩ ?_
  refine W.cond_false rfl ?_
  refine sSkip ?_
  refine sSeq ?_
  refine W.region ?_
  refine OpsW.det (det_assign rfl) rfl ?_
  refine sNext ?_
  refine W.keep (F' := [(3, _), (0, _)]) ⟨rfl, rfl, trivial⟩ ?_
  refine sSeq ?_
  refine sSeq ?_
  refine W.region ?_
  refine OpsW.det (det_move rfl) rfl ?_
  refine OpsW.change (Hf := []) en35 rfl (fun w hb hbn ho hbm => names_ok hnd hold (hmany' hA) (ho.blocks)) rfl (fun v10 H10 hS10 => ?_)
  obtain ⟨adn, capn, hpn, rfl, hownn, hsub⟩ := hS10
  have hss := Ss.own hownn
  refine OpsW.lessH (H' := hpn) (by rw [List.append_nil]; exact hsub) ?_
  refine OpsW.det (det_len u47 rfl) rfl ?_
  refine OpsW.det (det_move rfl) rfl ?_
  refine sNext ?_
  refine W.keep (F' := [(12, _), (11, _), (10, _), (3, _), (0, _)]) ⟨rfl, rfl, rfl, rfl, rfl, trivial⟩ ?_
  refine sBlock ?_
  refine sLoop (σ := Nat × Value × Hp × List FE) (fun s => [(12, .int .i64 (s.1 : Nat)), (11, .int .i64 (fs.length : Nat)), (10, .slice adn fs.length capn), (3, s.2.1), (0, dptr bD)]) (fun s => s.2.2.1 ++ (fhp s.2.2.2 ++ hpn)) (fun s => s.1 ≤ fs.length ∧ IsSl 46 3 s.2.1 s.1 s.2.2.1 ((s.2.2.2.map fcells).flatten) ∧ s.2.2.2.length = s.1 ∧ (∀ f ∈ s.2.2.2, f.ok) ∧ s.2.2.2.map FE.fl = ((names (fs.map FE.fl)).take s.1).map fun t => getF t (fs.map FE.fl)) (fun s => fs.length - s.1) (0, .slice none 0 0, [], []) ⟨Nat.zero_le _, .nil, rfl, (fun _ h => by cases h), rfl⟩ ⟨rfl, rfl, rfl, rfl, rfl, trivial⟩ (List.Sublist.refl _) ?_
  rintro ⟨i, v, hpo, L⟩ ⟨hi, hsl, hLl, hLok, hLf⟩
  change i ≤ fs.length at hi
  change IsSl 46 3 v i hpo ((L.map fcells).flatten) at hsl
  change L.length = i at hLl
  change ∀ f ∈ L, f.ok at hLok
  change L.map FE.fl = ((names (fs.map FE.fl)).take i).map fun t => getF t (fs.map FE.fl) at hLf
  refine W.norm (F' := [(12, .int .i64 (i : Nat)), (11, .int .i64 (fs.length : Nat)), (10, .slice adn fs.length capn), (3, v), (0, dptr bD)]) (H' := hpo ++ (fhp L ++ hpn)) rfl rfl ?_
  refine sSeq ?_
  refine W.region ?_
  refine OpsW.det (det_lss rfl rfl) rfl ?_
  refine sNext ?_
  refine sSeq ?_
  refine W.cond rfl (fun hc13 => ?_) (fun hc13 => ?_)
  · skip
    have hlt : i < fs.length := by have h := hc13; simp only [decide_eq_true_eq] at h; omega
    have hin : i < (names (fs.map FE.fl)).length := by rw [names_length, List.length_map]; exact hlt
    obtain ⟨nb, no, ncap, ncs, ne, nfr, hnv, hnm, hncell⟩ := hss.all (by omega)
    simp only [Value.slice.injEq] at hnv
    obtain ⟨rfl, _, rfl⟩ := hnv
    refine sSkip ?_
    refine sSeq ?_
    refine sBlock ?_
    refine sSeq ?_
    refine W.region ?_
    refine OpsW.det (det_indexAddr_sl u47 sz9 rfl rfl ⟨by omega, by omega⟩) rfl ?_
    refine OpsW.det (det_loadC ty9 rfl (List.mem_append_right _ (List.mem_append_right _ hnm)) (cells_u8 (hncell i hin))) rfl ?_
    refine OpsW.det (det_assign rfl) rfl ?_
    refine sNext ?_
    refine W.keep (F' := [(5, _), (12, _), (11, _), (10, _), (3, _), (0, _)]) ⟨rfl, rfl, rfl, rfl, rfl, rfl, trivial⟩ ?_
    refine sSeq ?_
    obtain ⟨l1, f, l2, hfs, hfn, hfl, hmf, hgf, hf⟩ := look_at (fnd_of_name (List.getElem_mem hin))
    refine W.region ?_
    refine OpsW.det (det_move rfl) rfl ?_
    refine OpsW.det (det_nilCheck rfl) rfl ?_
    refine OpsW.det (det_fieldAddr fl66_0 rfl) rfl ?_
    refine OpsW.det (det_loadC_ro ty64 rfl (List.Mem.head _) rfl) rfl ?_
    refine OpsW.det (det_move rfl) rfl ?_
    refine OpsW.det (Det.to (v := f.val) (det_lookup tm64 rfl rfl (.inr (List.Mem.tail _ (List.Mem.head _)))) (by rw [hmf]; rfl)) rfl ?_
    refine OpsW.fresh (fr_alloc z69) rfl fun b6 => ?_
    refine OpsW.store sz69 rfl rfl rfl rfl rfl (Upd.here) rfl ?_
    refine sNext ?_
    refine W.keep (F' := [(6, _), (5, _), (12, _), (11, _), (10, _), (3, _), (0, _)]) ⟨rfl, rfl, rfl, rfl, rfl, rfl, rfl, trivial⟩ ?_
    refine W.draw mixed 8 [[], [], [], [2], [2, 3], [], [5], [1, 2, 3, 4, 5, 6], [1, 2, 3, 4, 5, 6, 7], [0, 1, 2, 3, 4, 5, 6, 7, 8], [0, 1, 2, 3, 4, 5, 6, 7, 8, 9]] (cl_lt (by decide)) ?_
    refine HeadR.start (cl_lt (by decide)) ?_
    refine HeadR.flt rfl (fun _ _ _ _ hs => flt_move hs rfl) ?_
    refine HeadR.det rfl (fun β hβ => (det_move rfl)) ?_
    refine HeadR.det rfl (fun β hβ => (det_fieldAddr fl69_0 rfl)) ?_
    refine HeadR.det rfl (fun β hβ => (det_loadC ty22 rfl (List.Mem.head _) rfl)) ?_
    refine HeadR.fresh rfl (fun β hβ => (new_call en36 rfl (fun w hb ho => Clone_ok (fe_bs hA hok hf) (by have := (fe_small hA hf).2.1; omega) (fun p hp => ho.look (List.Mem.tail _ (List.Mem.tail _ (fhp_mem hf hp))))))) ?_
    refine HeadR.det rfl (fun β hβ => (det_fieldAddr fl69_1 rfl)) ?_
    refine HeadR.det rfl (fun β hβ => (det_loadC ty3 rfl (List.Mem.head _) rfl)) ?_
    refine HeadR.dep [26] (fun ps => .agg [sv (names (fs.map FE.fl))[i], clv f.ad f.data.length (ps.getD 0 (0, 0, [])), .int .i64 (f.safe : Nat)].toArray) rfl (fun β hβ => (det_build rfl bld46)) ?_
    refine HeadR.done ⟨by kernel_rfl, fun β hβ => ?_⟩
    refine OpsW.norm (F' := [(22, _), (23, _), (24, _), (25, _), (26, clv f.ad f.data.length (β 26)), (27, _), (28, _), (29, .agg [sv (names (fs.map FE.fl))[i], clv f.ad f.data.length (β 26), .int .i64 (f.safe : Nat)].toArray), (6, _), (5, _), (12, _), (11, _), (10, _), (3, _), (0, _)]) (H' := clh f.data (β 26) ++ ((b6, blk [.slice f.ad f.data.length f.cap, .int .i64 (f.safe : Nat)] 69) :: (hpo ++ (fhp L ++ hpn)))) rfl (by simp only [allH, List.reverse_cons, List.reverse_nil, List.nil_append, List.cons_append, List.append_nil, List.append_assoc]) ?_
    have hp26 : clok f.ad f.data (β 26) := hβ.1
    generalize (β 26) = p26 at hp26 ⊢
    refine OpsW.fresh (fr_buildSlice rfl slice38) rfl fun b30 => ?_
    refine OpsW.some (H' := hpo ++ ((b30, blk (fcells (⟨(names (fs.map FE.fl))[i], 0, f.ad.map fun _ => ⟨p26.1, 0, none⟩, p26.2.1, clh f.data p26, f.data, f.safe⟩ : FE)) 46) :: (clh f.data p26 ++ (fhp L ++ hpn)))) (X := [(b6, blk [.slice f.ad f.data.length f.cap, .int .i64 (f.safe : Nat)] 69)]) (perm_of fun F => by simp only [wsum_app, wsum, fcells]; omega) ?_
    refine OpsW.append (hp := hpo) (news := fcells (⟨(names (fs.map FE.fl))[i], 0, f.ad.map fun _ => ⟨p26.1, 0, none⟩, p26.2.1, clh f.data p26, f.data, f.safe⟩ : FE)) ty38 rfl hsl rfl (.inl (List.mem_append_right _ (List.Mem.head _))) rfl (fun j u h => by rw [Nat.zero_add]; exact h) rfl (by show i + 1 ≤ 9223372036854775807; have := hmany' hA; omega) (by have := hmany' hA; omega) rfl (fun v' hpo' hsl' => ?_)
    refine OpsW.some (H' := hpo' ++ (fhp (L ++ [(⟨(names (fs.map FE.fl))[i], 0, f.ad.map fun _ => ⟨p26.1, 0, none⟩, p26.2.1, clh f.data p26, f.data, f.safe⟩ : FE)]) ++ hpn)) (X := [(b30, blk (fcells (⟨(names (fs.map FE.fl))[i], 0, f.ad.map fun _ => ⟨p26.1, 0, none⟩, p26.2.1, clh f.data p26, f.data, f.safe⟩ : FE)) 46)]) (perm_of fun F => by simp only [wsum_app, wsum, fhp_snoc]; omega) ?_
    have hok2 : ∀ g ∈ L ++ [(⟨(names (fs.map FE.fl))[i], 0, f.ad.map fun _ => ⟨p26.1, 0, none⟩, p26.2.1, clh f.data p26, f.data, f.safe⟩ : FE)], g.ok := by
      intro g hg
      rcases List.mem_append.1 hg with hg | hg
      · exact hLok g hg
      · rw [List.mem_singleton.1 hg]; exact clone_own hp26
    have hfl2 : (L ++ [(⟨(names (fs.map FE.fl))[i], 0, f.ad.map fun _ => ⟨p26.1, 0, none⟩, p26.2.1, clh f.data p26, f.data, f.safe⟩ : FE)]).map FE.fl = ((names (fs.map FE.fl)).take (i + 1)).map fun t => getF t (fs.map FE.fl) := by
      rw [List.take_succ_eq_append_getElem hin, List.map_append, List.map_append, hLf, List.map_cons, List.map_nil, List.map_cons, List.map_nil, hgf]
      simp only [FE.fl, hfn]
    refine OpsW.det (det_assign rfl) rfl ?_
    refine sLast ?_
    refine bNext ?_
    refine W.keep (F' := [(3, _), (12, _), (11, _), (10, _), (0, _)]) ⟨rfl, rfl, rfl, rfl, rfl, trivial⟩ ?_
    refine W.region ?_
    refine OpsW.det (det_addN (b := 1) rfl rfl (by have h1 := hmany' hA; have h2 : (names (fs.map FE.fl)).length = fs.length := (by rw [names_length, List.length_map]); omega)) rfl ?_
    refine OpsW.det (det_move rfl) rfl ?_
    refine sLast ?_
    exact rEnd (i + 1, v', hpo', L ++ [(⟨(names (fs.map FE.fl))[i], 0, f.ad.map fun _ => ⟨p26.1, 0, none⟩, p26.2.1, clh f.data p26, f.data, f.safe⟩ : FE)]) ⟨hlt, by rw [flat_snoc]; exact hsl', by show (L ++ [_]).length = i + 1; rw [List.length_append, hLl]; rfl, hok2, hfl2⟩ ⟨rfl, rfl, rfl, rfl, rfl, trivial⟩ (List.Sublist.refl _) (step_lt hlt)
  · skip
    have hi4 : i = fs.length := by have h := hc13; simp only [decide_eq_false_iff_not] at h; omega
    refine sExit ?_
    refine xLoop ?_
    refine xHere ?_
    refine W.keep (F' := [(3, _)]) ⟨rfl, trivial⟩ ?_
    refine sSeq ?_
    refine W.region ?_
    refine OpsW.det (det_move rfl) rfl ?_
    refine OpsW.det (det_assign rfl) rfl ?_
    refine sNext ?_
    refine W.keep (F' := [(2, _)]) ⟨rfl, trivial⟩ ?_
    refine sRet ?_
    exact done1 Try.results18 (rv_tmp rfl) ⟨L, hpo, hpo ++ fhp L, by rw [hLl]; exact hsl, hLok, by rw [hLf, hi4, List.take_of_length_le (by rw [names_length, List.length_map]; exact Nat.le_refl _)]; rfl, List.Perm.refl _, by rw [← List.append_assoc]; exact List.sublist_append_left _ _⟩
theorem ImageN_ok  {w : World} (hG : Blocks [] w)  : Vm.Pure Try.prog 18 #[.pointer none] w (.slice none 0 0) := by
  refine pure_of_W (n := 34) (args := [.pointer none]) Try.func18 rfl Try.ntmps18 (Nat.le_of_ble_eq_true rfl) hG ?_
  refine sStart ?_
  refine sSeq ?_
  refine W.region ?_
  refine OpsW.det (det_assign rfl) rfl ?_
  refine sNext ?_
  refine W.keep (F' := [(0, _)]) ⟨rfl, trivial⟩ ?_
  refine sSeq ?_
  refine sSeq ?_
  refine W.region ?_
  refine OpsW.det (det_move rfl) rfl ?_
  refine OpsW.det (det_nilPtr u23 rfl rfl) rfl ?_
  refine sNext ?_
  refine W.keep (F' := [(8, _), (0, _)]) ⟨rfl, rfl, trivial⟩ ?_
  refine W.cond_true rfl ?_
  refine sSeq ?_
  refine W.region ?_
  refine OpsW.det (det_assign rfl) rfl ?_
  refine sNext ?_
  refine W.keep (F' := [(2, _)]) ⟨rfl, trivial⟩ ?_
  refine sRet ?_
  exact done1 Try.results18 (rv_tmp rfl) rfl

end Go.Dk
