/-
  The disk's Crash: the walk. Conditions: those of a disk.
-/
import Derived.Test.YtajedkhfliondaaDw9
import Derived.Test.YtajedkhfliondaaDp
import Derived.Test.YtajedkhfliondaaInts
namespace Go.Dk
open Go Go.Vm Go.RowKit Go.Proofs Go.Cu
attribute [local irreducible] W OpsW Det Fresh New Writes Vm.Pure Makes Changes ExternTo BuildTo ZeroTo FieldTo IndexTo BinTo SliceTo Vm.Enters
set_option linter.unusedVariables false
set_option linter.unusedSimpArgs false

theorem crash1_eq {keep : List Int} {fs l1 l2 : List FE} {f : FE} {room i : Nat} {s : Nm} {more N : Nat} (hfs : fs = l1 ++ f :: l2) (hfn : f.nm = s) (hfl : ∀ g ∈ l1, s ≠ g.nm) (hgf : getF s (fs.map FE.fl) = f.fl)
    (hm : more = if h : i < keep.length then (max 0 (min keep[i] ((f.data.length - f.safe : Nat) : Int))).toNat else 0) (hft : f.safe ≤ total (fs.map FE.fl)) (htr : total (fs.map FE.fl) ≤ room) (hN : N = max f.safe (min (f.safe + more) (room - total (fs.map FE.fl) + f.safe))) (hle : N ≤ f.data.length) :
    crash1 keep (fs.map FE.fl) room i s = (l1 ++ (⟨s, f.born, f.ad, N, f.hp, f.data.take N, N⟩ : FE) :: l2).map FE.fl := by
  unfold crash1
  rw [hgf]
  have e : max f.fl.safe (min (f.fl.safe + (if h : i < keep.length then (max 0 (min keep[i] ((f.fl.data.length - f.fl.safe : Nat) : Int))).toNat else 0)) (room + f.fl.safe - total (fs.map FE.fl))) = N := by
    rw [hN, hm]
    simp only [FE.fl]
    split <;> omega
  simp only [e]
  rw [hfs]
  exact put_at' (f' := (⟨s, f.born, f.ad, N, f.hp, f.data.take N, N⟩ : FE)) hfn hfl rfl
theorem crashes_step {keep : List Int} {room i : Nat} {gs : List Fl} {ns : List Nm} (h : i < ns.length) : crashes keep room gs i (ns.drop i) = crashes keep room (crash1 keep gs room i ns[i]) (i + 1) (ns.drop (i + 1)) := by
  rw [List.drop_eq_getElem_cons h]; rfl

theorem u32 : Try.prog.underlying 32 = some (.slice 3) := by kernel_rfl
theorem Crash_ok {G' : Hp} {bD : Nat} {A : AD} {Hd : Hp} (hD : DiskIs bD A Hd) (hA0 : A.ok) (hst : A.steps < 4611686018427387904) {adk : Option Addr} {ck : Nat} {keep : List Int} (hK : Ints G' (.slice adk keep.length ck) keep) (hkl : keep.length ≤ 4611686018427387904) (hkr : ∀ z ∈ keep, -9223372036854775808 ≤ z ∧ z ≤ 9223372036854775807) {w : World} (hG : Blocks G' w) (hHd : Blocks Hd w) (hndH : (Hd.map (·.1)).Nodup) (hdis : ∀ p ∈ G', p.1 ∉ Hd.map (·.1)) : Changes Try.prog 14 #[dptr bD, .slice adk keep.length ck] w Hd (fun v H' => v = .tuple #[] ∧ DiskIs bD (crash A keep) H') := by
  refine changes_of_W (n := 80) (args := [dptr bD, .slice adk keep.length ck]) Try.func14 rfl Try.ntmps14 (Nat.le_of_ble_eq_true rfl) (fun p hp => ⟨hG p hp, hdis p hp⟩) hHd hndH ?_
  refine sStart ?_
  refine DiskIs.W hD (fun r bm hr hrA => ?_)
  obtain ⟨fs, clk, room, steps, fuse, down⟩ := r
  subst hrA
  have hA : AD.ok ⟨fs.map FE.fl, room, steps, fuse, down⟩ := hA0
  have hst : steps < 4611686018427387904 := hst
  have hfu : fuse ≤ 9223372036854775807 := hA.fuse
  have hnd : (fs.map (·.born)).Nodup := hr.borns
  have hold : ∀ f ∈ fs, f.born < clk := hr.old
  have hok : ∀ f ∈ fs, f.ok := hr.files
  refine W.norm (F' := [(0, dptr bD), (1, .slice adk keep.length ck)]) (H' := (bD, dblk bm room steps fuse down) :: (bm, mobj (fs.map FE.me) clk) :: fhp fs) rfl rfl ?_
  refine sSeq ?_
  refine sSeq ?_
  refine W.region ?_
  refine OpsW.det (det_move rfl) rfl ?_
  refine OpsW.det (det_nilPtr u23 rfl rfl) rfl ?_
  refine sNext ?_
  refine W.keep (F' := [(10, _), (0, _), (1, _)]) ⟨rfl, rfl, rfl, trivial⟩ ?_
  refine W.cond_false rfl ?_
  refine sSkip ?_
  refine sSeq ?_
  refine sSeq ?_
  refine W.region ?_
  refine OpsW.det (det_move rfl) rfl ?_
  refine OpsW.change (Hf := []) en35 rfl (fun w hb hbn ho hbm => names_ok hnd hold (hmany' hA) hb) rfl (fun v12 H12 hS12 => ?_)
  obtain ⟨adn, capn, hpn, rfl, hownn, hsub⟩ := hS12
  have hss := Ss.own hownn
  refine OpsW.lessH (H' := hpn ++ ((bD, dblk bm room steps fuse down) :: (bm, mobj (fs.map FE.me) clk) :: fhp fs)) (hsub.append_right _) ?_
  refine OpsW.some (H' := (bD, dblk bm room steps fuse down) :: (bm, mobj (fs.map FE.me) clk) :: (fhp fs ++ hpn)) (X := []) (perm_of fun F => by simp only [wsum_app, wsum]; omega) ?_
  refine OpsW.det (det_len u47 rfl) rfl ?_
  refine OpsW.det (det_move rfl) rfl ?_
  refine sNext ?_
  refine W.keep (F' := [(14, _), (13, _), (12, _), (0, _), (1, _)]) ⟨rfl, rfl, rfl, rfl, rfl, trivial⟩ ?_
  refine sBlock ?_
  refine sLoop (σ := Nat × List Fl × Hp) (fun s => [(14, .int .i64 (s.1 : Nat)), (13, .int .i64 (fs.length : Nat)), (12, .slice adn fs.length capn), (0, dptr bD), (1, .slice adk keep.length ck)]) (fun s => s.2.2 ++ hpn) (fun s => s.1 ≤ fs.length ∧ DiskIs bD ⟨s.2.1, room, steps, fuse, down⟩ s.2.2 ∧ AD.ok ⟨s.2.1, room, steps, fuse, down⟩ ∧ crashes keep room (fs.map FE.fl) 0 (names (fs.map FE.fl)) = crashes keep room s.2.1 s.1 ((names (fs.map FE.fl)).drop s.1) ∧ s.2.1.map (·.nm) = (fs.map FE.fl).map (·.nm)) (fun s => fs.length - s.1) (0, fs.map FE.fl, (bD, dblk bm room steps fuse down) :: (bm, mobj (fs.map FE.me) clk) :: fhp fs) ⟨Nat.zero_le _, ⟨⟨fs, clk, room, steps, fuse, down⟩, bm, _, hr, rfl, List.Perm.refl _, List.Sublist.refl _⟩, hA, rfl, rfl⟩ ⟨rfl, rfl, rfl, rfl, rfl, trivial⟩ (List.Sublist.refl _) ?_
  rintro ⟨i, gs, Hg⟩ ⟨hi, hDg, hAg, hI, hnms⟩
  change i ≤ fs.length at hi
  change DiskIs bD ⟨gs, room, steps, fuse, down⟩ Hg at hDg
  change AD.ok ⟨gs, room, steps, fuse, down⟩ at hAg
  change crashes keep room (fs.map FE.fl) 0 (names (fs.map FE.fl)) = crashes keep room gs i ((names (fs.map FE.fl)).drop i) at hI
  change gs.map (·.nm) = (fs.map FE.fl).map (·.nm) at hnms
  refine W.norm (F' := [(14, .int .i64 (i : Nat)), (13, .int .i64 (fs.length : Nat)), (12, .slice adn fs.length capn), (0, dptr bD), (1, .slice adk keep.length ck)]) (H' := Hg ++ hpn) rfl rfl ?_
  refine DiskIs.WX hDg (fun r2 bm2 hr2 hrA2 => ?_)
  obtain ⟨fs2, clk2, room2, steps2, fuse2, down2⟩ := r2
  simp only [Rp.ad, AD.mk.injEq] at hrA2
  obtain ⟨hq1, hq2, hq3, hq4, hq5⟩ := hrA2
  subst hq1
  have hq2 := hq2.symm
  subst hq2
  have hq3 := hq3.symm
  subst hq3
  have hq4 := hq4.symm
  subst hq4
  have hq5 := hq5.symm
  subst hq5
  refine W.norm (F' := [(14, .int .i64 (i : Nat)), (13, .int .i64 (fs.length : Nat)), (12, .slice adn fs.length capn), (0, dptr bD), (1, .slice adk keep.length ck)]) (H' := (bD, dblk bm2 room steps fuse down) :: (bm2, mobj (fs2.map FE.me) clk2) :: (fhp fs2 ++ hpn)) rfl rfl ?_
  have hA2 : AD.ok ⟨fs2.map FE.fl, room, steps, fuse, down⟩ := hAg
  have hnd2 : (fs2.map (·.born)).Nodup := hr2.borns
  have hold2 : ∀ f ∈ fs2, f.born < clk2 := hr2.old
  have hok2 : ∀ f ∈ fs2, f.ok := hr2.files
  refine sSeq ?_
  refine W.region ?_
  refine OpsW.det (det_lss rfl rfl) rfl ?_
  refine sNext ?_
  refine sSeq ?_
  refine W.cond rfl (fun hc15 => ?_) (fun hc15 => ?_)
  · skip
    have hlt : i < fs.length := by have h := hc15; simp only [decide_eq_true_eq] at h; omega
    have hin : i < (names (fs.map FE.fl)).length := by rw [names_length, List.length_map]; exact hlt
    obtain ⟨nb, no, ncap, ncs, ne, nfr, hnv, hnm, hncell⟩ := hss.all (by omega)
    simp only [Value.slice.injEq] at hnv
    obtain ⟨rfl, _, rfl⟩ := hnv
    obtain ⟨l1, f, l2, hfs, hfnm, hfl, hmf, hgf, hf⟩ := look_at (s := (names (fs.map FE.fl))[i]) (fs := fs2) (fun h => fnd_of_name (List.getElem_mem hin) ((fnd_names hnms).1 h))
    have hfsz := fe_small hA2 hf
    have hft := safe_le hf
    have htt := htot' hA2
    refine sSkip ?_
    refine sSeq ?_
    refine sBlock ?_
    refine sSeq ?_
    refine W.region ?_
    refine OpsW.det (det_move rfl) rfl ?_
    refine OpsW.det (det_indexAddr_sl u47 sz9 rfl rfl ⟨by omega, by omega⟩) rfl ?_
    refine OpsW.det (det_loadC ty9 rfl (List.Mem.tail _ (List.Mem.tail _ (List.mem_append_right _ hnm))) (cells_u8 (hncell i hin))) rfl ?_
    refine OpsW.det (det_assign rfl) rfl ?_
    refine OpsW.det (det_assign rfl) rfl ?_
    refine sNext ?_
    refine W.keep (F' := [(5, _), (4, _), (14, _), (13, _), (12, _), (0, _), (1, _)]) ⟨rfl, rfl, rfl, rfl, rfl, rfl, rfl, trivial⟩ ?_
    refine sSeq ?_
    refine W.region ?_
    refine OpsW.det (det_move rfl) rfl ?_
    refine OpsW.det (det_nilCheck rfl) rfl ?_
    refine OpsW.det (det_fieldAddr fl66_0 rfl) rfl ?_
    refine OpsW.det (det_loadC ty64 rfl (List.Mem.head _) rfl) rfl ?_
    refine OpsW.det (det_move rfl) rfl ?_
    refine OpsW.det (Det.to (v := f.val) (det_lookup tm64 rfl rfl (.inl (List.Mem.tail _ (List.Mem.head _)))) (by rw [hmf]; rfl)) rfl ?_
    refine OpsW.fresh (fr_alloc z69) rfl fun b6 => ?_
    refine OpsW.store sz69 rfl rfl rfl rfl rfl (Upd.here) rfl ?_
    refine sNext ?_
    refine W.keep (F' := [(6, _), (5, _), (4, _), (14, _), (13, _), (12, _), (0, _), (1, _)]) ⟨rfl, rfl, rfl, rfl, rfl, rfl, rfl, rfl, trivial⟩ ?_
    refine sSeq ?_
    refine W.region ?_
    refine OpsW.det (det_fieldAddr fl69_1 rfl) rfl ?_
    refine OpsW.det (det_loadC ty3 rfl (List.Mem.head _) rfl) rfl ?_
    refine OpsW.det (det_assign rfl) rfl ?_
    refine sNext ?_
    refine W.keep (F' := [(7, _), (6, _), (5, _), (4, _), (14, _), (13, _), (12, _), (0, _), (1, _)]) ⟨rfl, rfl, rfl, rfl, rfl, rfl, rfl, rfl, rfl, trivial⟩ ?_
    refine sSeq ?_
    refine sSeq ?_
    refine W.region ?_
    refine OpsW.det (det_move rfl) rfl ?_
    refine OpsW.det (det_move rfl) rfl ?_
    refine OpsW.det (det_len u32 rfl) rfl ?_
    refine OpsW.det (det_lss rfl rfl) rfl ?_
    refine sNext ?_
    refine W.keep (F' := [(30, _), (7, _), (6, _), (5, _), (4, _), (14, _), (13, _), (12, _), (0, _), (1, _)]) ⟨rfl, rfl, rfl, rfl, rfl, rfl, rfl, rfl, rfl, rfl, trivial⟩ ?_
    refine W.cond rfl (fun hc30 => ?_) (fun hc30 => ?_)
    · skip
      have hki : i < keep.length := by have h := hc30; simp only [decide_eq_true_eq] at h; omega
      obtain ⟨kb, ko, kcap, kcs, ke, kfr, hkv, hkm, hkc⟩ := hK.all (by omega)
      simp only [Value.slice.injEq] at hkv
      obtain ⟨rfl, _, rfl⟩ := hkv
      obtain ⟨more, hmore⟩ : ∃ more : Nat, more = (max 0 (min keep[i] ((f.data.length - f.safe : Nat) : Int))).toNat := ⟨_, rfl⟩
      have hm2 : more = if h : i < keep.length then (max 0 (min keep[i] ((f.data.length - f.safe : Nat) : Int))).toNat else 0 := by rw [dif_pos hki]; exact hmore
      refine W.draw mixed 14 [[], [], [], [1, 2], [1, 2, 3], [], [5], [5, 6], [], [8], [5, 6, 7, 8, 9], [1, 2, 3, 4, 5, 6, 7, 8, 9, 10], [1, 2, 3, 4, 5, 6, 7, 8, 9, 10, 11], [0, 1, 2, 3, 4, 5, 6, 7, 8, 9, 10, 11, 12], [0, 1, 2, 3, 4, 5, 6, 7, 8, 9, 10, 11, 12, 13]] (cl_lt (by decide)) ?_
      refine HeadR.start (cl_lt (by decide)) ?_
      refine HeadR.det rfl (fun β hβ => (det_move rfl)) ?_
      refine HeadR.det rfl (fun β hβ => (det_move rfl)) ?_
      refine HeadR.det rfl (fun β hβ => (det_move rfl)) ?_
      refine HeadR.det rfl (fun β hβ => (det_indexAddr_sl u32 sz3 rfl rfl ⟨by omega, by omega⟩)) ?_
      refine HeadR.det rfl (fun β hβ => (det_loadC_ro ty3 rfl hkm (cells_u8 (hkc i hki)))) ?_
      refine HeadR.det rfl (fun β hβ => (det_fieldAddr fl69_0 rfl)) ?_
      refine HeadR.det rfl (fun β hβ => (det_loadC ty22 rfl (List.Mem.head _) rfl)) ?_
      refine HeadR.det rfl (fun β hβ => (det_len u22 rfl)) ?_
      refine HeadR.det rfl (fun β hβ => (det_fieldAddr fl69_1 rfl)) ?_
      refine HeadR.det rfl (fun β hβ => (det_loadC ty3 rfl (List.Mem.head _) rfl)) ?_
      refine HeadR.det rfl (fun β hβ => (det_subZ (c := ((f.data.length - f.safe : Nat) : Int)) rfl rfl (by omega) (by omega))) ?_
      refine HeadR.det rfl (fun β hβ => (det_min rfl rfl)) ?_
      refine HeadR.det rfl (fun β hβ => (det_max rfl rfl)) ?_
      refine HeadR.det rfl (fun β hβ => (det_addZ (c := ((f.safe + more : Nat) : Int)) rfl rfl (by omega) (by omega))) ?_
      refine HeadR.done ⟨by kernel_rfl, fun β hβ => ?_⟩
      refine OpsW.norm (F' := [(31, _), (32, _), (33, _), (34, _), (35, _), (36, _), (37, _), (38, _), (39, _), (40, _), (41, _), (42, _), (43, _), (44, _), (30, _), (7, _), (6, _), (5, _), (4, _), (14, _), (13, _), (12, _), (0, _), (1, _)]) (H' := ((_, _) :: (_, _) :: (_, _) :: (fhp fs2 ++ hpn))) rfl rfl ?_
      refine OpsW.det (det_assign rfl) rfl ?_
      refine sNext ?_
      refine W.keep (F' := [(7, _), (6, _), (5, _), (14, _), (13, _), (12, _), (0, _), (1, _)]) ⟨rfl, rfl, rfl, rfl, rfl, rfl, rfl, rfl, trivial⟩ ?_
      refine sSeq ?_
      obtain ⟨N, hN⟩ : ∃ N : Nat, N = max f.safe (min (f.safe + more) (room - total (fs2.map FE.fl) + f.safe)) := ⟨_, rfl⟩
      have hNle : N ≤ f.data.length := by have h3 := hfsz.2.2; have h4 := hmore; omega
      have hownc : Own 5 f.ad (f.data.take N).length N f.hp (bcells (f.data.take N)) := by rw [bcells_take, List.length_take, Nat.min_eq_left hNle]; exact (hok2 f hf).take hNle
      refine W.draw mixed 11 [[], [0], [0, 1], [0, 1, 2], [], [4], [0, 1, 2, 3, 4, 5], [], [7], [0, 1, 2, 3, 4, 5, 6, 7, 8], [0, 1, 2, 3, 4, 5, 6, 7, 8, 9]] (cl_lt (by decide)) ?_
      refine HeadR.start (cl_lt (by decide)) ?_
      refine HeadR.det rfl (fun β hβ => (det_move rfl)) ?_
      refine HeadR.det rfl (fun β hβ => (det_nilCheck rfl)) ?_
      refine HeadR.det rfl (fun β hβ => (det_fieldAddr fl66_1 rfl)) ?_
      refine HeadR.det rfl (fun β hβ => (det_loadC ty3 rfl (List.Mem.tail _ (List.Mem.head _)) rfl)) ?_
      refine HeadR.det rfl (fun β hβ => (det_move rfl)) ?_
      refine HeadR.det rfl (fun β hβ => (det_call en33 rfl (fun w hb ho => safe_ok hnd2 hold2 (by omega) (blocks_sub ((((List.sublist_append_left _ _).cons_cons _).cons_cons _).cons _) hb)))) ?_
      refine HeadR.det rfl (fun β hβ => (det_subZ (c := ((room - total (fs2.map FE.fl) : Nat) : Int)) rfl rfl (by omega) (by omega))) ?_
      refine HeadR.det rfl (fun β hβ => (det_fieldAddr fl69_1 rfl)) ?_
      refine HeadR.det rfl (fun β hβ => (det_loadC ty3 rfl (List.Mem.head _) rfl)) ?_
      refine HeadR.det rfl (fun β hβ => (det_addN rfl rfl (by omega))) ?_
      refine HeadR.det rfl (fun β hβ => (det_assign rfl)) ?_
      refine HeadR.done ⟨by kernel_rfl, fun β hβ => ?_⟩
      refine OpsW.norm (F' := [(45, _), (46, _), (47, _), (48, _), (49, _), (50, _), (51, _), (52, _), (53, _), (54, _), (8, _), (7, _), (6, _), (5, _), (14, _), (13, _), (12, _), (0, _), (1, _)]) (H' := ((_, _) :: (_, _) :: (_, _) :: (fhp fs2 ++ hpn))) rfl rfl ?_
      refine sNext ?_
      refine W.keep (F' := [(8, _), (7, _), (6, _), (5, _), (14, _), (13, _), (12, _), (0, _), (1, _)]) ⟨rfl, rfl, rfl, rfl, rfl, rfl, rfl, rfl, rfl, trivial⟩ ?_
      refine sSeq ?_
      refine W.region ?_
      refine OpsW.det (det_fieldAddr fl69_1 rfl) rfl ?_
      refine OpsW.det (det_loadC ty3 rfl (List.Mem.head _) rfl) rfl ?_
      refine OpsW.det (det_move rfl) rfl ?_
      refine OpsW.det (det_move rfl) rfl ?_
      refine OpsW.det (det_min rfl rfl) rfl ?_
      refine OpsW.det (Det.to (v := .int .i64 ((N : Nat) : Int)) (det_max rfl rfl) (congrArg (Value.int .i64) (by omega))) rfl ?_
      refine OpsW.det (det_assign rfl) rfl ?_
      refine sNext ?_
      refine W.keep (F' := [(7, _), (6, _), (5, _), (14, _), (13, _), (12, _), (0, _), (1, _)]) ⟨rfl, rfl, rfl, rfl, rfl, rfl, rfl, rfl, trivial⟩ ?_
      refine W.draw mixed 12 [[], [0], [0, 1], [0, 1, 2], [], [], [5], [], [], [5, 6, 7, 8], [], [5, 6, 7, 8, 9, 10], [0, 1, 2, 3, 4, 5, 6, 7, 8, 9, 10, 11]] (cl_lt (by decide)) ?_
      refine HeadR.start (cl_lt (by decide)) ?_
      refine HeadR.det rfl (fun β hβ => (det_move rfl)) ?_
      refine HeadR.det rfl (fun β hβ => (det_nilCheck rfl)) ?_
      refine HeadR.det rfl (fun β hβ => (det_fieldAddr fl66_0 rfl)) ?_
      refine HeadR.det rfl (fun β hβ => (det_loadC ty64 rfl (List.Mem.tail _ (List.Mem.head _)) rfl)) ?_
      refine HeadR.det rfl (fun β hβ => (det_move rfl)) ?_
      refine HeadR.det rfl (fun β hβ => (det_fieldAddr fl69_0 rfl)) ?_
      refine HeadR.det rfl (fun β hβ => (det_loadC ty22 rfl (List.Mem.head _) rfl)) ?_
      refine HeadR.det rfl (fun β hβ => (det_move rfl)) ?_
      refine HeadR.det rfl (fun β hβ => (det_move rfl)) ?_
      refine HeadR.det rfl (fun β hβ => (det_slice3 u22 sz5 rfl rfl rfl (by have := (hok2 f hf).cap; omega) (hok2 f hf).spot)) ?_
      refine HeadR.det rfl (fun β hβ => (det_move rfl)) ?_
      refine HeadR.det rfl (fun β hβ => (det_build rfl bld69)) ?_
      refine HeadR.done ⟨by kernel_rfl, fun β hβ => ?_⟩
      refine OpsW.norm (F' := [(61, _), (62, _), (63, _), (64, _), (65, _), (66, _), (67, _), (68, _), (69, _), (70, _), (71, _), (72, _), (7, _), (6, _), (5, _), (14, _), (13, _), (12, _), (0, _), (1, _)]) (H' := ((_, _) :: (_, _) :: (_, _) :: (fhp fs2 ++ hpn))) rfl rfl ?_
      refine OpsW.mapUpdate tm64 rfl rfl rfl (Upd.there (Upd.there Upd.here)) ?_
      have hms : mset (names (fs.map FE.fl))[i] (fval f.ad N N N) clk2 (fs2.map FE.me) = (l1 ++ (⟨(names (fs.map FE.fl))[i], f.born, f.ad, N, f.hp, f.data.take N, N⟩ : FE) :: l2).map FE.me := by rw [hfs]; exact mset_at (f := f) (f' := (⟨(names (fs.map FE.fl))[i], f.born, f.ad, N, f.hp, f.data.take N, N⟩ : FE)) (by show fval f.ad (f.data.take N).length N N = _; rw [List.length_take, Nat.min_eq_left hNle]) rfl rfl hfnm hfl
      rw [show mset (names (fs.map FE.fl))[i] _ clk2 (fs2.map FE.me) = _ from hms, mclk_at hmf]
      refine OpsW.some (H' := (bD, dblk bm2 room steps fuse down) :: (bm2, mobj ((l1 ++ (⟨(names (fs.map FE.fl))[i], f.born, f.ad, N, f.hp, f.data.take N, N⟩ : FE) :: l2).map FE.me) clk2) :: (fhp (l1 ++ (⟨(names (fs.map FE.fl))[i], f.born, f.ad, N, f.hp, f.data.take N, N⟩ : FE) :: l2) ++ hpn)) (X := [(b6, blk [.slice f.ad f.data.length f.cap, .int .i64 (f.safe : Nat)] 69)]) (perm_of fun F => by simp only [wsum_app, wsum, hfs, fhp_at]; omega) ?_
      refine sLast ?_
      refine bNext ?_
      refine W.keep (F' := [(14, _), (13, _), (12, _), (0, _), (1, _)]) ⟨rfl, rfl, rfl, rfl, rfl, trivial⟩ ?_
      refine W.region ?_
      refine OpsW.det (det_addN (b := 1) rfl rfl (by have := hmany' hA; omega)) rfl ?_
      refine OpsW.det (det_move rfl) rfl ?_
      refine sLast ?_
      have hcr := crash1_eq hfs hfnm hfl hgf hm2 hft htt.1 hN hNle
      have hck := crash1_ok (keep := keep) (i := i) hA2 (s := (names (fs.map FE.fl))[i]) (fun h => fnd_of_name (List.getElem_mem hin) ((fnd_names hnms).1 h))
      rw [show crash1 keep (⟨fs2.map FE.fl, room, steps, fuse, down⟩ : AD).fs (⟨fs2.map FE.fl, room, steps, fuse, down⟩ : AD).room i (names (fs.map FE.fl))[i] = _ from hcr] at hck
      exact rEnd (i + 1, (l1 ++ (⟨(names (fs.map FE.fl))[i], f.born, f.ad, N, f.hp, f.data.take N, N⟩ : FE) :: l2).map FE.fl, (bD, dblk bm2 room steps fuse down) :: (bm2, mobj ((l1 ++ (⟨(names (fs.map FE.fl))[i], f.born, f.ad, N, f.hp, f.data.take N, N⟩ : FE) :: l2).map FE.me) clk2) :: fhp (l1 ++ (⟨(names (fs.map FE.fl))[i], f.born, f.ad, N, f.hp, f.data.take N, N⟩ : FE) :: l2)) ⟨hlt, ⟨⟨l1 ++ (⟨(names (fs.map FE.fl))[i], f.born, f.ad, N, f.hp, f.data.take N, N⟩ : FE) :: l2, clk2, room, steps, fuse, down⟩, bm2, _, (by have hr3 := hr2; rw [hfs] at hr3; exact rp_set hr3 hownc rfl), rfl, List.Perm.refl _, List.Sublist.refl _⟩, hck.1, by rw [hI, crashes_step hin, hcr], hck.2.trans hnms⟩ ⟨rfl, rfl, rfl, rfl, rfl, trivial⟩ (List.Sublist.refl _) (step_lt hlt)
    · skip
      obtain ⟨more, hmore⟩ : ∃ more : Nat, more = 0 := ⟨0, rfl⟩
      have hm2 : more = if h : i < keep.length then (max 0 (min keep[i] ((f.data.length - f.safe : Nat) : Int))).toNat else 0 := by rw [dif_neg (by have h := hc30; simp only [decide_eq_false_iff_not] at h; omega)]; exact hmore
      refine sSkip ?_
      refine sSeq ?_
      obtain ⟨N, hN⟩ : ∃ N : Nat, N = max f.safe (min (f.safe + more) (room - total (fs2.map FE.fl) + f.safe)) := ⟨_, rfl⟩
      have hNle : N ≤ f.data.length := by have h3 := hfsz.2.2; have h4 := hmore; omega
      have hownc : Own 5 f.ad (f.data.take N).length N f.hp (bcells (f.data.take N)) := by rw [bcells_take, List.length_take, Nat.min_eq_left hNle]; exact (hok2 f hf).take hNle
      refine W.draw mixed 11 [[], [0], [0, 1], [0, 1, 2], [], [4], [0, 1, 2, 3, 4, 5], [], [7], [0, 1, 2, 3, 4, 5, 6, 7, 8], [0, 1, 2, 3, 4, 5, 6, 7, 8, 9]] (cl_lt (by decide)) ?_
      refine HeadR.start (cl_lt (by decide)) ?_
      refine HeadR.det rfl (fun β hβ => (det_move rfl)) ?_
      refine HeadR.det rfl (fun β hβ => (det_nilCheck rfl)) ?_
      refine HeadR.det rfl (fun β hβ => (det_fieldAddr fl66_1 rfl)) ?_
      refine HeadR.det rfl (fun β hβ => (det_loadC ty3 rfl (List.Mem.tail _ (List.Mem.head _)) rfl)) ?_
      refine HeadR.det rfl (fun β hβ => (det_move rfl)) ?_
      refine HeadR.det rfl (fun β hβ => (det_call en33 rfl (fun w hb ho => safe_ok hnd2 hold2 (by omega) (blocks_sub ((((List.sublist_append_left _ _).cons_cons _).cons_cons _).cons _) hb)))) ?_
      refine HeadR.det rfl (fun β hβ => (det_subZ (c := ((room - total (fs2.map FE.fl) : Nat) : Int)) rfl rfl (by omega) (by omega))) ?_
      refine HeadR.det rfl (fun β hβ => (det_fieldAddr fl69_1 rfl)) ?_
      refine HeadR.det rfl (fun β hβ => (det_loadC ty3 rfl (List.Mem.head _) rfl)) ?_
      refine HeadR.det rfl (fun β hβ => (det_addN rfl rfl (by omega))) ?_
      refine HeadR.det rfl (fun β hβ => (det_assign rfl)) ?_
      refine HeadR.done ⟨by kernel_rfl, fun β hβ => ?_⟩
      refine OpsW.norm (F' := [(45, _), (46, _), (47, _), (48, _), (49, _), (50, _), (51, _), (52, _), (53, _), (54, _), (8, _), (30, _), (7, _), (6, _), (5, _), (4, _), (14, _), (13, _), (12, _), (0, _), (1, _)]) (H' := ((_, _) :: (_, _) :: (_, _) :: (fhp fs2 ++ hpn))) rfl rfl ?_
      refine sNext ?_
      refine W.keep (F' := [(8, _), (7, _), (6, _), (5, _), (14, _), (13, _), (12, _), (0, _), (1, _)]) ⟨rfl, rfl, rfl, rfl, rfl, rfl, rfl, rfl, rfl, trivial⟩ ?_
      refine sSeq ?_
      refine W.region ?_
      refine OpsW.det (det_fieldAddr fl69_1 rfl) rfl ?_
      refine OpsW.det (det_loadC ty3 rfl (List.Mem.head _) rfl) rfl ?_
      refine OpsW.det (det_move rfl) rfl ?_
      refine OpsW.det (det_move rfl) rfl ?_
      refine OpsW.det (det_min rfl rfl) rfl ?_
      refine OpsW.det (Det.to (v := .int .i64 ((N : Nat) : Int)) (det_max rfl rfl) (congrArg (Value.int .i64) (by rw [hmore] at hN; omega))) rfl ?_
      refine OpsW.det (det_assign rfl) rfl ?_
      refine sNext ?_
      refine W.keep (F' := [(7, _), (6, _), (5, _), (14, _), (13, _), (12, _), (0, _), (1, _)]) ⟨rfl, rfl, rfl, rfl, rfl, rfl, rfl, rfl, trivial⟩ ?_
      refine W.draw mixed 12 [[], [0], [0, 1], [0, 1, 2], [], [], [5], [], [], [5, 6, 7, 8], [], [5, 6, 7, 8, 9, 10], [0, 1, 2, 3, 4, 5, 6, 7, 8, 9, 10, 11]] (cl_lt (by decide)) ?_
      refine HeadR.start (cl_lt (by decide)) ?_
      refine HeadR.det rfl (fun β hβ => (det_move rfl)) ?_
      refine HeadR.det rfl (fun β hβ => (det_nilCheck rfl)) ?_
      refine HeadR.det rfl (fun β hβ => (det_fieldAddr fl66_0 rfl)) ?_
      refine HeadR.det rfl (fun β hβ => (det_loadC ty64 rfl (List.Mem.tail _ (List.Mem.head _)) rfl)) ?_
      refine HeadR.det rfl (fun β hβ => (det_move rfl)) ?_
      refine HeadR.det rfl (fun β hβ => (det_fieldAddr fl69_0 rfl)) ?_
      refine HeadR.det rfl (fun β hβ => (det_loadC ty22 rfl (List.Mem.head _) rfl)) ?_
      refine HeadR.det rfl (fun β hβ => (det_move rfl)) ?_
      refine HeadR.det rfl (fun β hβ => (det_move rfl)) ?_
      refine HeadR.det rfl (fun β hβ => (det_slice3 u22 sz5 rfl rfl rfl (by have := (hok2 f hf).cap; omega) (hok2 f hf).spot)) ?_
      refine HeadR.det rfl (fun β hβ => (det_move rfl)) ?_
      refine HeadR.det rfl (fun β hβ => (det_build rfl bld69)) ?_
      refine HeadR.done ⟨by kernel_rfl, fun β hβ => ?_⟩
      refine OpsW.norm (F' := [(61, _), (62, _), (63, _), (64, _), (65, _), (66, _), (67, _), (68, _), (69, _), (70, _), (71, _), (72, _), (7, _), (6, _), (5, _), (14, _), (13, _), (12, _), (0, _), (1, _)]) (H' := ((_, _) :: (_, _) :: (_, _) :: (fhp fs2 ++ hpn))) rfl rfl ?_
      refine OpsW.mapUpdate tm64 rfl rfl rfl (Upd.there (Upd.there Upd.here)) ?_
      have hms : mset (names (fs.map FE.fl))[i] (fval f.ad N N N) clk2 (fs2.map FE.me) = (l1 ++ (⟨(names (fs.map FE.fl))[i], f.born, f.ad, N, f.hp, f.data.take N, N⟩ : FE) :: l2).map FE.me := by rw [hfs]; exact mset_at (f := f) (f' := (⟨(names (fs.map FE.fl))[i], f.born, f.ad, N, f.hp, f.data.take N, N⟩ : FE)) (by show fval f.ad (f.data.take N).length N N = _; rw [List.length_take, Nat.min_eq_left hNle]) rfl rfl hfnm hfl
      rw [show mset (names (fs.map FE.fl))[i] _ clk2 (fs2.map FE.me) = _ from hms, mclk_at hmf]
      refine OpsW.some (H' := (bD, dblk bm2 room steps fuse down) :: (bm2, mobj ((l1 ++ (⟨(names (fs.map FE.fl))[i], f.born, f.ad, N, f.hp, f.data.take N, N⟩ : FE) :: l2).map FE.me) clk2) :: (fhp (l1 ++ (⟨(names (fs.map FE.fl))[i], f.born, f.ad, N, f.hp, f.data.take N, N⟩ : FE) :: l2) ++ hpn)) (X := [(b6, blk [.slice f.ad f.data.length f.cap, .int .i64 (f.safe : Nat)] 69)]) (perm_of fun F => by simp only [wsum_app, wsum, hfs, fhp_at]; omega) ?_
      refine sLast ?_
      refine bNext ?_
      refine W.keep (F' := [(14, _), (13, _), (12, _), (0, _), (1, _)]) ⟨rfl, rfl, rfl, rfl, rfl, trivial⟩ ?_
      refine W.region ?_
      refine OpsW.det (det_addN (b := 1) rfl rfl (by have := hmany' hA; omega)) rfl ?_
      refine OpsW.det (det_move rfl) rfl ?_
      refine sLast ?_
      have hcr := crash1_eq hfs hfnm hfl hgf hm2 hft htt.1 hN hNle
      have hck := crash1_ok (keep := keep) (i := i) hA2 (s := (names (fs.map FE.fl))[i]) (fun h => fnd_of_name (List.getElem_mem hin) ((fnd_names hnms).1 h))
      rw [show crash1 keep (⟨fs2.map FE.fl, room, steps, fuse, down⟩ : AD).fs (⟨fs2.map FE.fl, room, steps, fuse, down⟩ : AD).room i (names (fs.map FE.fl))[i] = _ from hcr] at hck
      exact rEnd (i + 1, (l1 ++ (⟨(names (fs.map FE.fl))[i], f.born, f.ad, N, f.hp, f.data.take N, N⟩ : FE) :: l2).map FE.fl, (bD, dblk bm2 room steps fuse down) :: (bm2, mobj ((l1 ++ (⟨(names (fs.map FE.fl))[i], f.born, f.ad, N, f.hp, f.data.take N, N⟩ : FE) :: l2).map FE.me) clk2) :: fhp (l1 ++ (⟨(names (fs.map FE.fl))[i], f.born, f.ad, N, f.hp, f.data.take N, N⟩ : FE) :: l2)) ⟨hlt, ⟨⟨l1 ++ (⟨(names (fs.map FE.fl))[i], f.born, f.ad, N, f.hp, f.data.take N, N⟩ : FE) :: l2, clk2, room, steps, fuse, down⟩, bm2, _, (by have hr3 := hr2; rw [hfs] at hr3; exact rp_set hr3 hownc rfl), rfl, List.Perm.refl _, List.Sublist.refl _⟩, hck.1, by rw [hI, crashes_step hin, hcr], hck.2.trans hnms⟩ ⟨rfl, rfl, rfl, rfl, rfl, trivial⟩ (List.Sublist.refl _) (step_lt hlt)
  · skip
    have hi4 : i = fs.length := by have h := hc15; simp only [decide_eq_false_iff_not] at h; omega
    refine sExit ?_
    refine xLoop ?_
    refine xHere ?_
    refine W.keep (F' := [(0, _)]) ⟨rfl, trivial⟩ ?_
    refine W.region ?_
    refine OpsW.det (det_move rfl) rfl ?_
    refine OpsW.det (det_move rfl) rfl ?_
    refine OpsW.det (det_nilCheck rfl) rfl ?_
    refine OpsW.det (det_fieldAddr fl66_3 rfl) rfl ?_
    refine OpsW.store sz3 rfl rfl rfl rfl rfl (Upd.here) rfl ?_
    refine OpsW.det (det_nilCheck rfl) rfl ?_
    refine OpsW.det (det_fieldAddr fl66_4 rfl) rfl ?_
    refine OpsW.store sz4 rfl rfl rfl rfl rfl (Upd.here) rfl ?_
    refine sLast ?_
    have hcr : crash ⟨fs.map FE.fl, room, steps, fuse, down⟩ keep = ⟨fs2.map FE.fl, room, steps, 0, false⟩ := by unfold crash; rw [hI, hi4, List.drop_eq_nil_of_le (by rw [names_length, List.length_map]; exact Nat.le_refl _)]; rfl
    exact done0 Try.results14 ⟨rfl, ⟨⟨fs2, clk2, room, steps, 0, false⟩, bm2, _, rp_any hr2, by show _ = crash ⟨fs.map FE.fl, room, steps, fuse, down⟩ keep; rw [hcr]; rfl, List.Perm.refl _, by exact ((List.sublist_append_left _ _).cons_cons _).cons_cons _⟩⟩

end Go.Dk
