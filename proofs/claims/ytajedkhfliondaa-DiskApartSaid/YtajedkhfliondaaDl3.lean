/-
  Lists of files that are alike: the walk. Conditions: as many as memory has.
-/
import Derived.Test.YtajedkhfliondaaDl2
namespace Go.Dk
open Go Go.Vm Go.RowKit Go.Proofs Go.Cu
attribute [local irreducible] W OpsW Det Fresh New Writes Vm.Pure Makes Changes ExternTo BuildTo ZeroTo FieldTo IndexTo BinTo SliceTo Vm.Enters
set_option linter.unusedVariables false
set_option linter.unusedSimpArgs false

/-- A file of a list that is read: its name, its bytes, how many are safe. -/
abbrev FT := Nm × List Nat × Int
structure FaAt (G' : Hp) (v : Value) (n i : Nat) (x : FT) (b o cap : Nat) (cs : List Value) (e : TypeId) (fr : Nat × Nat) (ad : Option Addr) (m c : Nat) : Prop where
  val : v = .slice (some ⟨b, o, none⟩) n cap
  mem : (b, Obj.cells cs.toArray e fr) ∈ G'
  c0 : cs[o + ((i : Nat) : Int).toNat * 3 + 0]? = some (sv x.1)
  c1 : cs[o + ((i : Nat) : Int).toNat * 3 + 1]? = some (.slice ad m c)
  c2 : cs[o + ((i : Nat) : Int).toNat * 3 + 2]? = some (.int .i64 x.2.2)
  bs : Bs G' (.slice ad m c) x.2.1
structure Fa (G' : Hp) (v : Value) (L : List FT) : Prop where
  shape : ∃ ad cap, v = .slice ad L.length cap
  at_ : ∀ i (h : i < L.length), ∃ b o cap cs e fr ad m c, FaAt G' v L.length i L[i] b o cap cs e fr ad m c
theorem Fa.mono {G' G'' : Hp} {v : Value} {L : List FT} (h : Fa G' v L) (hs : ∀ p ∈ G', p ∈ G'') : Fa G'' v L :=
  ⟨h.shape, fun i hi => by obtain ⟨b, o, cap, cs, e, fr, ad, m, c, h1⟩ := h.at_ i hi; exact ⟨b, o, cap, cs, e, fr, ad, m, c, h1.val, hs _ h1.mem, h1.c0, h1.c1, h1.c2, h1.bs.mono hs⟩⟩
def ft (f : Fl) : FT := (f.nm, f.data, (f.safe : Int))
theorem flat3 {α : Type} (g : α → List Value) (hg : ∀ a, (g a).length = 3) (sp : List Value) : ∀ {L : List α} {i k : Nat} (h : i < L.length), k < 3 → ((L.map g).flatten ++ sp)[i * 3 + k]? = (g L[i])[k]?
  | a :: L, 0, k, h, hk => by
    rw [List.map_cons, List.flatten_cons, List.append_assoc, List.getElem?_append_left (by rw [hg]; omega)]
    simp
  | a :: L, i + 1, k, h, hk => by
    have ih := flat3 g hg sp (L := L) (i := i) (k := k) (Nat.lt_of_succ_lt_succ h) hk
    rw [List.map_cons, List.flatten_cons, List.append_assoc, List.getElem?_append_right (by rw [hg]; omega), hg, show (i + 1) * 3 + k - 3 = i * 3 + k by omega, ih]
    rfl
theorem FilesIs.fa {v : Value} {L : List Fl} {H : Hp} (h : FilesIs v L H) (hs : ∀ f ∈ L, ∀ c ∈ f.data, c < 256) : Fa H v (L.map ft) := by
  obtain ⟨Fs, hpo, l, hsl, hok, rfl, hp, hsub⟩ := h
  obtain ⟨ad, cap, hv⟩ := hsl.shape
  refine ⟨⟨ad, cap, by rw [hv]; simp⟩, fun i hi => ?_⟩
  have hi' : i < Fs.length := by simpa using hi
  obtain ⟨b, cap2, sp, rfl, rfl, h1, h2⟩ := isSl_pos hsl (by omega)
  have hb : (b, blk ((Fs.map fcells).flatten ++ sp) 46) ∈ H := hsub.subset (hp.mem_iff.2 (by simp))
  have hc : ∀ k, k < 3 → ((Fs.map fcells).flatten ++ sp)[0 + ((i : Nat) : Int).toNat * 3 + k]? = (fcells Fs[i])[k]? := fun k hk => by
    rw [Nat.zero_add, Int.toNat_natCast]; exact flat3 fcells fcells_len sp hi' hk
  have hg : ((Fs.map FE.fl).map ft)[i] = (Fs[i].nm, Fs[i].data, (Fs[i].safe : Int)) := by simp [ft]
  rw [hg]
  have hfm : Fs[i] ∈ Fs := List.getElem_mem hi'
  refine ⟨b, 0, cap2, _, 46, (0, 0), Fs[i].ad, Fs[i].data.length, Fs[i].cap, by simp, hb, by rw [hc 0 (by omega)]; rfl, by rw [hc 1 (by omega)]; rfl, by rw [hc 2 (by omega)]; rfl, ?_⟩
  exact (Bs.own (hs Fs[i].fl (List.mem_map.2 ⟨_, hfm, rfl⟩)) (hok _ hfm)).mono fun p hp' => hsub.subset (hp.mem_iff.2 (List.mem_append_right _ (fhp_mem hfm hp')))
/-- When two lists of files are the same. -/
theorem ft_step {L1 L2 : List FT} {i : Nat} (h1 : i < L1.length) (h2 : i < L2.length) (h : L1.take i = L2.take i) (he : L1[i] = L2[i]) : L1.take (i + 1) = L2.take (i + 1) := by
  rw [List.take_succ_eq_append_getElem h1, List.take_succ_eq_append_getElem h2, h, he]
theorem ft_ne {L1 L2 : List FT} {i : Nat} (h1 : i < L1.length) (h2 : i < L2.length) (he : L1[i] ≠ L2[i]) : L1 ≠ L2 := fun h => he (by subst h; rfl)
theorem ft_cases (x y : FT) : x.1 ≠ y.1 ∨ (x.1 = y.1 ∧ x.2.2 ≠ y.2.2) ∨ (x.1 = y.1 ∧ x.2.2 = y.2.2 ∧ x.2.1 ≠ y.2.1) ∨ x = y := by
  obtain ⟨a, b, c⟩ := x
  obtain ⟨a', b', c'⟩ := y
  by_cases h1 : a = a'
  · by_cases h2 : c = c'
    · by_cases h3 : b = b'
      · subst h1 h2 h3; exact .inr (.inr (.inr rfl))
      · exact .inr (.inr (.inl ⟨h1, h2, h3⟩))
    · exact .inr (.inl ⟨h1, h2⟩)
  · exact .inl h1
theorem sv_dec {s t : Nm} : decide ((⟨s.toArray⟩ : ByteArray) = ⟨t.toArray⟩) = decide (s = t) := by
  by_cases h : s = t <;> simp [h, sv_inj]
theorem sv_ne {s t : Nm} (h : s ≠ t) : (!decide ((⟨s.toArray⟩ : ByteArray) = ⟨t.toArray⟩)) = true := by rw [sv_dec, decide_eq_false h]; rfl
theorem sv_same {s t : Nm} (h : s = t) : (!decide ((⟨s.toArray⟩ : ByteArray) = ⟨t.toArray⟩)) = false := by rw [sv_dec, decide_eq_true h]; rfl
theorem FilesIs.ok {v : Value} {A : AD} {H : Hp} (hA : A.ok) (h : FilesIs v (image A.fs) H) : Fa H v ((image A.fs).map ft) := h.fa fun f hf => by
  unfold image at hf
  obtain ⟨s, hs, rfl⟩ := List.mem_map.1 hf
  exact hA.small _ (getF_mem (fnd_of_name hs)).1

theorem fl46_0 : TyF Try.prog 46 0 0 1 := ⟨⟨9, by kernel_rfl, by kernel_rfl⟩, by decide⟩
theorem fl46_1 : TyF Try.prog 46 1 1 1 := ⟨⟨22, by kernel_rfl, by kernel_rfl⟩, by decide⟩
theorem fl46_2 : TyF Try.prog 46 2 2 1 := ⟨⟨3, by kernel_rfl, by kernel_rfl⟩, by decide⟩
theorem sz46 : sizeIn Try.prog 46 = some 3 := by kernel_rfl
theorem u38 : Try.prog.underlying 38 = some (.slice 46) := by kernel_rfl
set_option maxHeartbeats 1000000 in
theorem same17_ok {G' : Hp} {v v2 : Value} {L1 L2 : List FT} (hF : Fa G' v L1) (hF2 : Fa G' v2 L2) (hlen : L1.length ≤ 4611686018427387904) (hbl : ∀ x ∈ L1, x.2.1.length ≤ 9223372036854775806) {w : World} (hG : Blocks G' w)  : Vm.Pure Try.prog 19 #[v, v2] w (.bool (decide (L1 = L2))) := by
  obtain ⟨ad1, cap1, hvv⟩ := hF.shape
  obtain ⟨ad2, cap2, hvv2⟩ := hF2.shape
  refine pure_of_W (n := 55) (args := [v, v2]) Try.func19 rfl Try.ntmps19 (Nat.le_of_ble_eq_true rfl) hG ?_
  refine sStart ?_
  refine sSeq ?_
  subst hvv
  subst hvv2
  refine W.region ?_
  refine OpsW.det (det_assign rfl) rfl ?_
  refine sNext ?_
  refine W.keep (F' := [(0, _), (1, _)]) ⟨rfl, rfl, trivial⟩ ?_
  refine sSeq ?_
  refine sSeq ?_
  refine W.region ?_
  refine OpsW.det (det_move rfl) rfl ?_
  refine OpsW.det (det_len u38 rfl) rfl ?_
  refine OpsW.det (det_move rfl) rfl ?_
  refine OpsW.det (det_len u38 rfl) rfl ?_
  refine OpsW.det (det_neq (a := (L1.length : Int)) (b := (L2.length : Int)) rfl rfl) rfl ?_
  refine sNext ?_
  refine W.keep (F' := [(10, _), (0, _), (1, _)]) ⟨rfl, rfl, rfl, trivial⟩ ?_
  refine W.cond rfl (fun hc10 => ?_) (fun hc10 => ?_)
  · skip
    have hne : L1.length ≠ L2.length := fun h2 => by have h := hc10; rw [h2] at h; simp at h
    refine sSeq ?_
    refine W.region ?_
    refine OpsW.det (det_assign rfl) rfl ?_
    refine sNext ?_
    refine W.keep (F' := [(4, _)]) ⟨rfl, trivial⟩ ?_
    refine sRet ?_
    exact done1 Try.results19 (rv_tmp rfl) (congrArg Value.bool (decide_eq_false (fun h => hne (by rw [h]))).symm)
  · skip
    have hll : L1.length = L2.length := by have h := hc10; simp at h; omega
    refine sSkip ?_
    refine sSeq ?_
    refine sSeq ?_
    refine W.region ?_
    refine OpsW.det (det_move rfl) rfl ?_
    refine OpsW.det (det_len u38 rfl) rfl ?_
    refine OpsW.det (det_move rfl) rfl ?_
    refine sNext ?_
    refine W.keep (F' := [(13, _), (12, _), (0, _), (1, _)]) ⟨rfl, rfl, rfl, rfl, trivial⟩ ?_
    refine sBlock ?_
    refine sLoop (σ := Nat) (fun i => [(13, .int .i64 (i : Nat)), (12, .int .i64 (L1.length : Nat)), (0, .slice ad1 L1.length cap1), (1, .slice ad2 L2.length cap2)]) (fun i => []) (fun i => i ≤ L1.length ∧ L1.take i = L2.take i) (fun i => L1.length - i) 0 ⟨Nat.zero_le _, rfl⟩ ⟨rfl, rfl, rfl, rfl, trivial⟩ (List.nil_sublist _) ?_
    rintro i ⟨hi, hI⟩
    refine sSeq ?_
    refine W.region ?_
    refine OpsW.det (det_lss rfl rfl) rfl ?_
    refine sNext ?_
    refine sSeq ?_
    refine W.cond rfl (fun hc14 => ?_) (fun hc14 => ?_)
    · skip
      have hlt : i < L1.length := by have h := hc14; simp only [decide_eq_true_eq] at h; omega
      have hlt2 : i < L2.length := by omega
      refine sSkip ?_
      refine sSeq ?_
      refine sBlock ?_
      refine sSeq ?_
      refine W.region ?_
      refine OpsW.det (det_move rfl) rfl ?_
      refine OpsW.det (det_assign rfl) rfl ?_
      refine sNext ?_
      refine W.keep (F' := [(5, _), (13, _), (12, _), (0, _), (1, _)]) ⟨rfl, rfl, rfl, rfl, rfl, trivial⟩ ?_
      refine sSeq ?_
      rcases ft_cases L1[i] (L2[i]'hlt2) with hq | hq | hq | hq
      · skip
        obtain ⟨b1, o1, c1, cs1, e1, fr1, da1, m1, dc1, A1⟩ := hF.at_ i hlt
        obtain ⟨b2, o2, c2, cs2, e2, fr2, da2, m2, dc2, A2⟩ := hF2.at_ i hlt2
        have A1v := A1.val
        have A2v := A2.val
        simp only [Value.slice.injEq] at A1v A2v
        obtain ⟨rfl, _, rfl⟩ := A1v
        obtain ⟨rfl, _, rfl⟩ := A2v
        obtain ⟨hm1, _⟩ := bs_nz A1.bs
        subst hm1
        obtain ⟨hm2, _⟩ := bs_nz A2.bs
        subst hm2
        refine W.draw mixed 38 ([] :: [] :: [0, 1] :: [0, 1, 2] :: [0, 1, 2, 3] :: [] :: [] :: [5, 6] :: [5, 6, 7] :: [5, 6, 7, 8] :: [0, 1, 2, 3, 4, 5, 6, 7, 8, 9] :: [0, 1, 2, 3, 4, 5, 6, 7, 8, 9, 10] :: [0, 1, 2, 3, 4, 5, 6, 7, 8, 9, 10, 11] :: [0, 1, 2, 3, 4, 5, 6, 7, 8, 9, 10, 11] :: [0, 1, 2, 3, 4, 5, 6, 7, 8, 9, 10, 11, 12, 13] :: [0, 1, 2, 3, 4, 5, 6, 7, 8, 9, 10, 11, 12, 13, 14] :: [0, 1, 2, 3, 4, 5, 6, 7, 8, 9, 10, 11, 12, 13, 14, 15] :: [0, 1, 2, 3, 4, 5, 6, 7, 8, 9, 10, 11] :: [0, 1, 2, 3, 4, 5, 6, 7, 8, 9, 10, 11] :: [0, 1, 2, 3, 4, 5, 6, 7, 8, 9, 10, 11, 17, 18] :: [0, 1, 2, 3, 4, 5, 6, 7, 8, 9, 10, 11, 17, 18, 19] :: [0, 1, 2, 3, 4, 5, 6, 7, 8, 9, 10, 11, 17, 18, 19, 20] :: [0, 1, 2, 3, 4, 5, 6, 7, 8, 9, 10, 11, 12, 13, 14, 15, 16, 17, 18, 19, 20, 21] :: [0, 1, 2, 3, 4, 5, 6, 7, 8, 9, 10, 11, 12, 13, 14, 15, 16, 17, 18, 19, 20, 21, 22] :: [0, 1, 2, 3, 4, 5, 6, 7, 8, 9, 10, 11, 12, 13, 14, 15, 16, 17, 18, 19, 20, 21, 22, 23] :: [0, 1, 2, 3, 4, 5, 6, 7, 8, 9, 10, 11, 12, 13, 14, 15, 16, 17, 18, 19, 20, 21, 22, 23, 24] :: [0, 1, 2, 3, 4, 5, 6, 7, 8, 9, 10, 11, 12, 13, 14, 15, 16, 17, 18, 19, 20, 21, 22, 23, 24] :: [0, 1, 2, 3, 4, 5, 6, 7, 8, 9, 10, 11, 12, 13, 14, 15, 16, 17, 18, 19, 20, 21, 22, 23, 24, 25, 26] :: [0, 1, 2, 3, 4, 5, 6, 7, 8, 9, 10, 11, 12, 13, 14, 15, 16, 17, 18, 19, 20, 21, 22, 23, 24, 25, 26, 27] :: [0, 1, 2, 3, 4, 5, 6, 7, 8, 9, 10, 11, 12, 13, 14, 15, 16, 17, 18, 19, 20, 21, 22, 23, 24, 25, 26, 27, 28] :: [0, 1, 2, 3, 4, 5, 6, 7, 8, 9, 10, 11, 12, 13, 14, 15, 16, 17, 18, 19, 20, 21, 22, 23, 24] :: [0, 1, 2, 3, 4, 5, 6, 7, 8, 9, 10, 11, 12, 13, 14, 15, 16, 17, 18, 19, 20, 21, 22, 23, 24] :: [0, 1, 2, 3, 4, 5, 6, 7, 8, 9, 10, 11, 12, 13, 14, 15, 16, 17, 18, 19, 20, 21, 22, 23, 24, 30, 31] :: [0, 1, 2, 3, 4, 5, 6, 7, 8, 9, 10, 11, 12, 13, 14, 15, 16, 17, 18, 19, 20, 21, 22, 23, 24, 30, 31, 32] :: [0, 1, 2, 3, 4, 5, 6, 7, 8, 9, 10, 11, 12, 13, 14, 15, 16, 17, 18, 19, 20, 21, 22, 23, 24, 30, 31, 32, 33] :: (0 :: 1 :: 2 :: 3 :: 4 :: 5 :: 6 :: 7 :: 8 :: 9 :: 10 :: 11 :: 12 :: 13 :: 14 :: 15 :: 16 :: 17 :: 18 :: 19 :: 20 :: 21 :: 22 :: 23 :: 24 :: 25 :: 26 :: 27 :: 28 :: 29 :: 30 :: 31 :: 32 :: 33 :: 34 :: []) :: (0 :: 1 :: 2 :: 3 :: 4 :: 5 :: 6 :: 7 :: 8 :: 9 :: 10 :: 11 :: 12 :: 13 :: 14 :: 15 :: 16 :: 17 :: 18 :: 19 :: 20 :: 21 :: 22 :: 23 :: 24 :: 25 :: 26 :: 27 :: 28 :: 29 :: 30 :: 31 :: 32 :: 33 :: 34 :: 35 :: []) :: (0 :: 1 :: 2 :: 3 :: 4 :: 5 :: 6 :: 7 :: 8 :: 9 :: 10 :: 11 :: 12 :: 13 :: 14 :: 15 :: 16 :: 17 :: 18 :: 19 :: 20 :: 21 :: 22 :: 23 :: 24 :: 25 :: 26 :: 27 :: 28 :: 29 :: 30 :: 31 :: 32 :: 33 :: 34 :: 35 :: 36 :: []) :: []) (cl_lt (by decide)) ?_
        refine HeadR.start (cl_lt (by decide)) ?_
        refine HeadR.det rfl (fun β hβ => (det_move rfl)) ?_
        refine HeadR.det rfl (fun β hβ => (det_move rfl)) ?_
        refine HeadR.det rfl (fun β hβ => (det_indexAddr_sl u38 sz46 rfl rfl ⟨by omega, by omega⟩)) ?_
        refine HeadR.det rfl (fun β hβ => (det_fieldAddr fl46_0 rfl)) ?_
        refine HeadR.det rfl (fun β hβ => (det_loadC_ro ty9 rfl A1.mem A1.c0)) ?_
        refine HeadR.det rfl (fun β hβ => (det_move rfl)) ?_
        refine HeadR.det rfl (fun β hβ => (det_move rfl)) ?_
        refine HeadR.det rfl (fun β hβ => (det_indexAddr_sl u38 sz46 rfl rfl ⟨by omega, by omega⟩)) ?_
        refine HeadR.det rfl (fun β hβ => (det_fieldAddr fl46_0 rfl)) ?_
        refine HeadR.det rfl (fun β hβ => (det_loadC_ro ty9 rfl A2.mem A2.c0)) ?_
        refine HeadR.det rfl (fun β hβ => (Det.to (det_strneq rfl rfl) (congrArg Value.bool (sv_ne hq)))) ?_
        refine HeadR.det rfl (fun β hβ => (det_move rfl)) ?_
        refine HeadR.no rfl rfl (fun _ _ => rfl) ?_
        refine HeadR.no rfl rfl (fun _ _ => rfl) ?_
        refine HeadR.no rfl rfl (fun _ _ => rfl) ?_
        refine HeadR.no rfl rfl (fun _ _ => rfl) ?_
        refine HeadR.no rfl rfl (fun _ _ => rfl) ?_
        refine HeadR.no rfl rfl (fun _ _ => rfl) ?_
        refine HeadR.no rfl rfl (fun _ _ => rfl) ?_
        refine HeadR.no rfl rfl (fun _ _ => rfl) ?_
        refine HeadR.no rfl rfl (fun _ _ => rfl) ?_
        refine HeadR.no rfl rfl (fun _ _ => rfl) ?_
        refine HeadR.no rfl rfl (fun _ _ => rfl) ?_
        refine HeadR.det rfl (fun β hβ => (det_pick rfl rfl)) ?_
        refine HeadR.det rfl (fun β hβ => (det_move rfl)) ?_
        refine HeadR.no rfl rfl (fun _ _ => rfl) ?_
        refine HeadR.no rfl rfl (fun _ _ => rfl) ?_
        refine HeadR.no rfl rfl (fun _ _ => rfl) ?_
        refine HeadR.no rfl rfl (fun _ _ => rfl) ?_
        refine HeadR.no rfl rfl (fun _ _ => rfl) ?_
        refine HeadR.no rfl rfl (fun _ _ => rfl) ?_
        refine HeadR.no rfl rfl (fun _ _ => rfl) ?_
        refine HeadR.no rfl rfl (fun _ _ => rfl) ?_
        refine HeadR.no rfl rfl (fun _ _ => rfl) ?_
        refine HeadR.no rfl rfl (fun _ _ => rfl) ?_
        refine HeadR.no rfl rfl (fun _ _ => rfl) ?_
        refine HeadR.no rfl rfl (fun _ _ => rfl) ?_
        refine HeadR.det rfl (fun β hβ => (det_pick rfl rfl)) ?_
        refine HeadR.done ⟨by kernel_rfl, fun β hβ => ?_⟩
        refine OpsW.norm (F' := ((16, _) :: (17, _) :: (18, _) :: (19, _) :: (20, _) :: (21, _) :: (22, _) :: (23, _) :: (24, _) :: (25, _) :: (26, _) :: (27, _) :: (28, _) :: (29, _) :: (30, _) :: (31, _) :: (32, _) :: (33, _) :: (34, _) :: (35, _) :: (36, _) :: (37, _) :: (38, _) :: (39, _) :: (40, _) :: (41, _) :: (42, _) :: (43, _) :: (44, _) :: (45, _) :: (46, _) :: (47, _) :: (48, _) :: (49, _) :: (50, _) :: (51, _) :: (52, _) :: (53, _) :: (5, _) :: (13, _) :: (12, _) :: (0, _) :: (1, _) :: [])) (H' := []) rfl rfl ?_
        refine sNext ?_
        refine W.keep (F' := [(53, _), (13, _), (12, _), (0, _), (1, _)]) ⟨rfl, rfl, rfl, rfl, rfl, trivial⟩ ?_
        refine W.cond_true rfl ?_
        refine sSeq ?_
        refine W.region ?_
        refine OpsW.det (det_assign rfl) rfl ?_
        refine sNext ?_
        refine W.keep (F' := [(4, _)]) ⟨rfl, trivial⟩ ?_
        refine sRet ?_
        refine retBlk ?_
        refine retLoop ?_
        refine retBlk ?_
        exact done1 Try.results19 (rv_tmp rfl) (congrArg Value.bool (decide_eq_false (ft_ne hlt hlt2 (fun h => hq (by rw [h])))).symm)
      · skip
        obtain ⟨b1, o1, c1, cs1, e1, fr1, da1, m1, dc1, A1⟩ := hF.at_ i hlt
        obtain ⟨b2, o2, c2, cs2, e2, fr2, da2, m2, dc2, A2⟩ := hF2.at_ i hlt2
        have A1v := A1.val
        have A2v := A2.val
        simp only [Value.slice.injEq] at A1v A2v
        obtain ⟨rfl, _, rfl⟩ := A1v
        obtain ⟨rfl, _, rfl⟩ := A2v
        obtain ⟨hm1, _⟩ := bs_nz A1.bs
        subst hm1
        obtain ⟨hm2, _⟩ := bs_nz A2.bs
        subst hm2
        refine W.draw mixed 38 ([] :: [] :: [0, 1] :: [0, 1, 2] :: [0, 1, 2, 3] :: [] :: [] :: [5, 6] :: [5, 6, 7] :: [5, 6, 7, 8] :: [0, 1, 2, 3, 4, 5, 6, 7, 8, 9] :: [0, 1, 2, 3, 4, 5, 6, 7, 8, 9, 10] :: [0, 1, 2, 3, 4, 5, 6, 7, 8, 9, 10, 11] :: [0, 1, 2, 3, 4, 5, 6, 7, 8, 9, 10, 11] :: [0, 1, 2, 3, 4, 5, 6, 7, 8, 9, 10, 11, 12, 13] :: [0, 1, 2, 3, 4, 5, 6, 7, 8, 9, 10, 11, 12, 13, 14] :: [0, 1, 2, 3, 4, 5, 6, 7, 8, 9, 10, 11, 12, 13, 14, 15] :: [0, 1, 2, 3, 4, 5, 6, 7, 8, 9, 10, 11] :: [0, 1, 2, 3, 4, 5, 6, 7, 8, 9, 10, 11] :: [0, 1, 2, 3, 4, 5, 6, 7, 8, 9, 10, 11, 17, 18] :: [0, 1, 2, 3, 4, 5, 6, 7, 8, 9, 10, 11, 17, 18, 19] :: [0, 1, 2, 3, 4, 5, 6, 7, 8, 9, 10, 11, 17, 18, 19, 20] :: [0, 1, 2, 3, 4, 5, 6, 7, 8, 9, 10, 11, 12, 13, 14, 15, 16, 17, 18, 19, 20, 21] :: [0, 1, 2, 3, 4, 5, 6, 7, 8, 9, 10, 11, 12, 13, 14, 15, 16, 17, 18, 19, 20, 21, 22] :: [0, 1, 2, 3, 4, 5, 6, 7, 8, 9, 10, 11, 12, 13, 14, 15, 16, 17, 18, 19, 20, 21, 22, 23] :: [0, 1, 2, 3, 4, 5, 6, 7, 8, 9, 10, 11, 12, 13, 14, 15, 16, 17, 18, 19, 20, 21, 22, 23, 24] :: [0, 1, 2, 3, 4, 5, 6, 7, 8, 9, 10, 11, 12, 13, 14, 15, 16, 17, 18, 19, 20, 21, 22, 23, 24] :: [0, 1, 2, 3, 4, 5, 6, 7, 8, 9, 10, 11, 12, 13, 14, 15, 16, 17, 18, 19, 20, 21, 22, 23, 24, 25, 26] :: [0, 1, 2, 3, 4, 5, 6, 7, 8, 9, 10, 11, 12, 13, 14, 15, 16, 17, 18, 19, 20, 21, 22, 23, 24, 25, 26, 27] :: [0, 1, 2, 3, 4, 5, 6, 7, 8, 9, 10, 11, 12, 13, 14, 15, 16, 17, 18, 19, 20, 21, 22, 23, 24, 25, 26, 27, 28] :: [0, 1, 2, 3, 4, 5, 6, 7, 8, 9, 10, 11, 12, 13, 14, 15, 16, 17, 18, 19, 20, 21, 22, 23, 24] :: [0, 1, 2, 3, 4, 5, 6, 7, 8, 9, 10, 11, 12, 13, 14, 15, 16, 17, 18, 19, 20, 21, 22, 23, 24] :: [0, 1, 2, 3, 4, 5, 6, 7, 8, 9, 10, 11, 12, 13, 14, 15, 16, 17, 18, 19, 20, 21, 22, 23, 24, 30, 31] :: [0, 1, 2, 3, 4, 5, 6, 7, 8, 9, 10, 11, 12, 13, 14, 15, 16, 17, 18, 19, 20, 21, 22, 23, 24, 30, 31, 32] :: [0, 1, 2, 3, 4, 5, 6, 7, 8, 9, 10, 11, 12, 13, 14, 15, 16, 17, 18, 19, 20, 21, 22, 23, 24, 30, 31, 32, 33] :: (0 :: 1 :: 2 :: 3 :: 4 :: 5 :: 6 :: 7 :: 8 :: 9 :: 10 :: 11 :: 12 :: 13 :: 14 :: 15 :: 16 :: 17 :: 18 :: 19 :: 20 :: 21 :: 22 :: 23 :: 24 :: 25 :: 26 :: 27 :: 28 :: 29 :: 30 :: 31 :: 32 :: 33 :: 34 :: []) :: (0 :: 1 :: 2 :: 3 :: 4 :: 5 :: 6 :: 7 :: 8 :: 9 :: 10 :: 11 :: 12 :: 13 :: 14 :: 15 :: 16 :: 17 :: 18 :: 19 :: 20 :: 21 :: 22 :: 23 :: 24 :: 25 :: 26 :: 27 :: 28 :: 29 :: 30 :: 31 :: 32 :: 33 :: 34 :: 35 :: []) :: (0 :: 1 :: 2 :: 3 :: 4 :: 5 :: 6 :: 7 :: 8 :: 9 :: 10 :: 11 :: 12 :: 13 :: 14 :: 15 :: 16 :: 17 :: 18 :: 19 :: 20 :: 21 :: 22 :: 23 :: 24 :: 25 :: 26 :: 27 :: 28 :: 29 :: 30 :: 31 :: 32 :: 33 :: 34 :: 35 :: 36 :: []) :: []) (cl_lt (by decide)) ?_
        refine HeadR.start (cl_lt (by decide)) ?_
        refine HeadR.det rfl (fun β hβ => (det_move rfl)) ?_
        refine HeadR.det rfl (fun β hβ => (det_move rfl)) ?_
        refine HeadR.det rfl (fun β hβ => (det_indexAddr_sl u38 sz46 rfl rfl ⟨by omega, by omega⟩)) ?_
        refine HeadR.det rfl (fun β hβ => (det_fieldAddr fl46_0 rfl)) ?_
        refine HeadR.det rfl (fun β hβ => (det_loadC_ro ty9 rfl A1.mem A1.c0)) ?_
        refine HeadR.det rfl (fun β hβ => (det_move rfl)) ?_
        refine HeadR.det rfl (fun β hβ => (det_move rfl)) ?_
        refine HeadR.det rfl (fun β hβ => (det_indexAddr_sl u38 sz46 rfl rfl ⟨by omega, by omega⟩)) ?_
        refine HeadR.det rfl (fun β hβ => (det_fieldAddr fl46_0 rfl)) ?_
        refine HeadR.det rfl (fun β hβ => (det_loadC_ro ty9 rfl A2.mem A2.c0)) ?_
        refine HeadR.det rfl (fun β hβ => (Det.to (det_strneq rfl rfl) (congrArg Value.bool (sv_same hq.1)))) ?_
        refine HeadR.det rfl (fun β hβ => (det_move rfl)) ?_
        refine HeadR.yes rfl rfl (fun _ _ => rfl) (fun β hβ => (det_move rfl)) ?_
        refine HeadR.yes rfl rfl (fun _ _ => rfl) (fun β hβ => (det_move rfl)) ?_
        refine HeadR.yes rfl rfl (fun _ _ => rfl) (fun β hβ => (det_indexAddr_sl u38 sz46 rfl rfl ⟨by omega, by omega⟩)) ?_
        refine HeadR.yes rfl rfl (fun _ _ => rfl) (fun β hβ => (det_fieldAddr fl46_2 rfl)) ?_
        refine HeadR.yes rfl rfl (fun _ _ => rfl) (fun β hβ => (det_loadC_ro ty3 rfl A1.mem A1.c2)) ?_
        refine HeadR.yes rfl rfl (fun _ _ => rfl) (fun β hβ => (det_move rfl)) ?_
        refine HeadR.yes rfl rfl (fun _ _ => rfl) (fun β hβ => (det_move rfl)) ?_
        refine HeadR.yes rfl rfl (fun _ _ => rfl) (fun β hβ => (det_indexAddr_sl u38 sz46 rfl rfl ⟨by omega, by omega⟩)) ?_
        refine HeadR.yes rfl rfl (fun _ _ => rfl) (fun β hβ => (det_fieldAddr fl46_2 rfl)) ?_
        refine HeadR.yes rfl rfl (fun _ _ => rfl) (fun β hβ => (det_loadC_ro ty3 rfl A2.mem A2.c2)) ?_
        refine HeadR.yes rfl rfl (fun _ _ => rfl) (fun β hβ => (Det.to ((det_neq (a := L1[i].2.2) (b := L2[i].2.2) rfl rfl)) (congrArg Value.bool (show (L1[i].2.2 != L2[i].2.2) = true from bne_iff_ne.2 hq.2)))) ?_
        refine HeadR.det rfl (fun β hβ => (det_pick rfl rfl)) ?_
        refine HeadR.det rfl (fun β hβ => (det_move rfl)) ?_
        refine HeadR.no rfl rfl (fun _ _ => rfl) ?_
        refine HeadR.no rfl rfl (fun _ _ => rfl) ?_
        refine HeadR.no rfl rfl (fun _ _ => rfl) ?_
        refine HeadR.no rfl rfl (fun _ _ => rfl) ?_
        refine HeadR.no rfl rfl (fun _ _ => rfl) ?_
        refine HeadR.no rfl rfl (fun _ _ => rfl) ?_
        refine HeadR.no rfl rfl (fun _ _ => rfl) ?_
        refine HeadR.no rfl rfl (fun _ _ => rfl) ?_
        refine HeadR.no rfl rfl (fun _ _ => rfl) ?_
        refine HeadR.no rfl rfl (fun _ _ => rfl) ?_
        refine HeadR.no rfl rfl (fun _ _ => rfl) ?_
        refine HeadR.no rfl rfl (fun _ _ => rfl) ?_
        refine HeadR.det rfl (fun β hβ => (det_pick rfl rfl)) ?_
        refine HeadR.done ⟨by kernel_rfl, fun β hβ => ?_⟩
        refine OpsW.norm (F' := ((16, _) :: (17, _) :: (18, _) :: (19, _) :: (20, _) :: (21, _) :: (22, _) :: (23, _) :: (24, _) :: (25, _) :: (26, _) :: (27, _) :: (28, _) :: (29, _) :: (30, _) :: (31, _) :: (32, _) :: (33, _) :: (34, _) :: (35, _) :: (36, _) :: (37, _) :: (38, _) :: (39, _) :: (40, _) :: (41, _) :: (42, _) :: (43, _) :: (44, _) :: (45, _) :: (46, _) :: (47, _) :: (48, _) :: (49, _) :: (50, _) :: (51, _) :: (52, _) :: (53, _) :: (5, _) :: (13, _) :: (12, _) :: (0, _) :: (1, _) :: [])) (H' := []) rfl rfl ?_
        refine sNext ?_
        refine W.keep (F' := [(53, _), (13, _), (12, _), (0, _), (1, _)]) ⟨rfl, rfl, rfl, rfl, rfl, trivial⟩ ?_
        refine W.cond_true rfl ?_
        refine sSeq ?_
        refine W.region ?_
        refine OpsW.det (det_assign rfl) rfl ?_
        refine sNext ?_
        refine W.keep (F' := [(4, _)]) ⟨rfl, trivial⟩ ?_
        refine sRet ?_
        refine retBlk ?_
        refine retLoop ?_
        refine retBlk ?_
        exact done1 Try.results19 (rv_tmp rfl) (congrArg Value.bool (decide_eq_false (ft_ne hlt hlt2 (fun h => hq.2 (by rw [h])))).symm)
      · skip
        obtain ⟨b1, o1, c1, cs1, e1, fr1, da1, m1, dc1, A1⟩ := hF.at_ i hlt
        obtain ⟨b2, o2, c2, cs2, e2, fr2, da2, m2, dc2, A2⟩ := hF2.at_ i hlt2
        have A1v := A1.val
        have A2v := A2.val
        simp only [Value.slice.injEq] at A1v A2v
        obtain ⟨rfl, _, rfl⟩ := A1v
        obtain ⟨rfl, _, rfl⟩ := A2v
        obtain ⟨hm1, _⟩ := bs_nz A1.bs
        subst hm1
        obtain ⟨hm2, _⟩ := bs_nz A2.bs
        subst hm2
        refine W.draw mixed 38 ([] :: [] :: [0, 1] :: [0, 1, 2] :: [0, 1, 2, 3] :: [] :: [] :: [5, 6] :: [5, 6, 7] :: [5, 6, 7, 8] :: [0, 1, 2, 3, 4, 5, 6, 7, 8, 9] :: [0, 1, 2, 3, 4, 5, 6, 7, 8, 9, 10] :: [0, 1, 2, 3, 4, 5, 6, 7, 8, 9, 10, 11] :: [0, 1, 2, 3, 4, 5, 6, 7, 8, 9, 10, 11] :: [0, 1, 2, 3, 4, 5, 6, 7, 8, 9, 10, 11, 12, 13] :: [0, 1, 2, 3, 4, 5, 6, 7, 8, 9, 10, 11, 12, 13, 14] :: [0, 1, 2, 3, 4, 5, 6, 7, 8, 9, 10, 11, 12, 13, 14, 15] :: [0, 1, 2, 3, 4, 5, 6, 7, 8, 9, 10, 11] :: [0, 1, 2, 3, 4, 5, 6, 7, 8, 9, 10, 11] :: [0, 1, 2, 3, 4, 5, 6, 7, 8, 9, 10, 11, 17, 18] :: [0, 1, 2, 3, 4, 5, 6, 7, 8, 9, 10, 11, 17, 18, 19] :: [0, 1, 2, 3, 4, 5, 6, 7, 8, 9, 10, 11, 17, 18, 19, 20] :: [0, 1, 2, 3, 4, 5, 6, 7, 8, 9, 10, 11, 12, 13, 14, 15, 16, 17, 18, 19, 20, 21] :: [0, 1, 2, 3, 4, 5, 6, 7, 8, 9, 10, 11, 12, 13, 14, 15, 16, 17, 18, 19, 20, 21, 22] :: [0, 1, 2, 3, 4, 5, 6, 7, 8, 9, 10, 11, 12, 13, 14, 15, 16, 17, 18, 19, 20, 21, 22, 23] :: [0, 1, 2, 3, 4, 5, 6, 7, 8, 9, 10, 11, 12, 13, 14, 15, 16, 17, 18, 19, 20, 21, 22, 23, 24] :: [0, 1, 2, 3, 4, 5, 6, 7, 8, 9, 10, 11, 12, 13, 14, 15, 16, 17, 18, 19, 20, 21, 22, 23, 24] :: [0, 1, 2, 3, 4, 5, 6, 7, 8, 9, 10, 11, 12, 13, 14, 15, 16, 17, 18, 19, 20, 21, 22, 23, 24, 25, 26] :: [0, 1, 2, 3, 4, 5, 6, 7, 8, 9, 10, 11, 12, 13, 14, 15, 16, 17, 18, 19, 20, 21, 22, 23, 24, 25, 26, 27] :: [0, 1, 2, 3, 4, 5, 6, 7, 8, 9, 10, 11, 12, 13, 14, 15, 16, 17, 18, 19, 20, 21, 22, 23, 24, 25, 26, 27, 28] :: [0, 1, 2, 3, 4, 5, 6, 7, 8, 9, 10, 11, 12, 13, 14, 15, 16, 17, 18, 19, 20, 21, 22, 23, 24] :: [0, 1, 2, 3, 4, 5, 6, 7, 8, 9, 10, 11, 12, 13, 14, 15, 16, 17, 18, 19, 20, 21, 22, 23, 24] :: [0, 1, 2, 3, 4, 5, 6, 7, 8, 9, 10, 11, 12, 13, 14, 15, 16, 17, 18, 19, 20, 21, 22, 23, 24, 30, 31] :: [0, 1, 2, 3, 4, 5, 6, 7, 8, 9, 10, 11, 12, 13, 14, 15, 16, 17, 18, 19, 20, 21, 22, 23, 24, 30, 31, 32] :: [0, 1, 2, 3, 4, 5, 6, 7, 8, 9, 10, 11, 12, 13, 14, 15, 16, 17, 18, 19, 20, 21, 22, 23, 24, 30, 31, 32, 33] :: (0 :: 1 :: 2 :: 3 :: 4 :: 5 :: 6 :: 7 :: 8 :: 9 :: 10 :: 11 :: 12 :: 13 :: 14 :: 15 :: 16 :: 17 :: 18 :: 19 :: 20 :: 21 :: 22 :: 23 :: 24 :: 25 :: 26 :: 27 :: 28 :: 29 :: 30 :: 31 :: 32 :: 33 :: 34 :: []) :: (0 :: 1 :: 2 :: 3 :: 4 :: 5 :: 6 :: 7 :: 8 :: 9 :: 10 :: 11 :: 12 :: 13 :: 14 :: 15 :: 16 :: 17 :: 18 :: 19 :: 20 :: 21 :: 22 :: 23 :: 24 :: 25 :: 26 :: 27 :: 28 :: 29 :: 30 :: 31 :: 32 :: 33 :: 34 :: 35 :: []) :: (0 :: 1 :: 2 :: 3 :: 4 :: 5 :: 6 :: 7 :: 8 :: 9 :: 10 :: 11 :: 12 :: 13 :: 14 :: 15 :: 16 :: 17 :: 18 :: 19 :: 20 :: 21 :: 22 :: 23 :: 24 :: 25 :: 26 :: 27 :: 28 :: 29 :: 30 :: 31 :: 32 :: 33 :: 34 :: 35 :: 36 :: []) :: []) (cl_lt (by decide)) ?_
        refine HeadR.start (cl_lt (by decide)) ?_
        refine HeadR.det rfl (fun β hβ => (det_move rfl)) ?_
        refine HeadR.det rfl (fun β hβ => (det_move rfl)) ?_
        refine HeadR.det rfl (fun β hβ => (det_indexAddr_sl u38 sz46 rfl rfl ⟨by omega, by omega⟩)) ?_
        refine HeadR.det rfl (fun β hβ => (det_fieldAddr fl46_0 rfl)) ?_
        refine HeadR.det rfl (fun β hβ => (det_loadC_ro ty9 rfl A1.mem A1.c0)) ?_
        refine HeadR.det rfl (fun β hβ => (det_move rfl)) ?_
        refine HeadR.det rfl (fun β hβ => (det_move rfl)) ?_
        refine HeadR.det rfl (fun β hβ => (det_indexAddr_sl u38 sz46 rfl rfl ⟨by omega, by omega⟩)) ?_
        refine HeadR.det rfl (fun β hβ => (det_fieldAddr fl46_0 rfl)) ?_
        refine HeadR.det rfl (fun β hβ => (det_loadC_ro ty9 rfl A2.mem A2.c0)) ?_
        refine HeadR.det rfl (fun β hβ => (Det.to (det_strneq rfl rfl) (congrArg Value.bool (sv_same hq.1)))) ?_
        refine HeadR.det rfl (fun β hβ => (det_move rfl)) ?_
        refine HeadR.yes rfl rfl (fun _ _ => rfl) (fun β hβ => (det_move rfl)) ?_
        refine HeadR.yes rfl rfl (fun _ _ => rfl) (fun β hβ => (det_move rfl)) ?_
        refine HeadR.yes rfl rfl (fun _ _ => rfl) (fun β hβ => (det_indexAddr_sl u38 sz46 rfl rfl ⟨by omega, by omega⟩)) ?_
        refine HeadR.yes rfl rfl (fun _ _ => rfl) (fun β hβ => (det_fieldAddr fl46_2 rfl)) ?_
        refine HeadR.yes rfl rfl (fun _ _ => rfl) (fun β hβ => (det_loadC_ro ty3 rfl A1.mem A1.c2)) ?_
        refine HeadR.yes rfl rfl (fun _ _ => rfl) (fun β hβ => (det_move rfl)) ?_
        refine HeadR.yes rfl rfl (fun _ _ => rfl) (fun β hβ => (det_move rfl)) ?_
        refine HeadR.yes rfl rfl (fun _ _ => rfl) (fun β hβ => (det_indexAddr_sl u38 sz46 rfl rfl ⟨by omega, by omega⟩)) ?_
        refine HeadR.yes rfl rfl (fun _ _ => rfl) (fun β hβ => (det_fieldAddr fl46_2 rfl)) ?_
        refine HeadR.yes rfl rfl (fun _ _ => rfl) (fun β hβ => (det_loadC_ro ty3 rfl A2.mem A2.c2)) ?_
        refine HeadR.yes rfl rfl (fun _ _ => rfl) (fun β hβ => (Det.to ((det_neq (a := L1[i].2.2) (b := L2[i].2.2) rfl rfl)) (congrArg Value.bool (show (L1[i].2.2 != L2[i].2.2) = false from by rw [hq.2.1]; exact bne_self_eq_false _)))) ?_
        refine HeadR.det rfl (fun β hβ => (det_pick rfl rfl)) ?_
        refine HeadR.det rfl (fun β hβ => (det_move rfl)) ?_
        refine HeadR.yes rfl rfl (fun _ _ => rfl) (fun β hβ => (det_move rfl)) ?_
        refine HeadR.yes rfl rfl (fun _ _ => rfl) (fun β hβ => (det_move rfl)) ?_
        refine HeadR.yes rfl rfl (fun _ _ => rfl) (fun β hβ => (det_indexAddr_sl u38 sz46 rfl rfl ⟨by omega, by omega⟩)) ?_
        refine HeadR.yes rfl rfl (fun _ _ => rfl) (fun β hβ => (det_fieldAddr fl46_1 rfl)) ?_
        refine HeadR.yes rfl rfl (fun _ _ => rfl) (fun β hβ => (det_loadC_ro ty22 rfl A1.mem A1.c1)) ?_
        refine HeadR.yes rfl rfl (fun _ _ => rfl) (fun β hβ => (det_move rfl)) ?_
        refine HeadR.yes rfl rfl (fun _ _ => rfl) (fun β hβ => (det_move rfl)) ?_
        refine HeadR.yes rfl rfl (fun _ _ => rfl) (fun β hβ => (det_indexAddr_sl u38 sz46 rfl rfl ⟨by omega, by omega⟩)) ?_
        refine HeadR.yes rfl rfl (fun _ _ => rfl) (fun β hβ => (det_fieldAddr fl46_1 rfl)) ?_
        refine HeadR.yes rfl rfl (fun _ _ => rfl) (fun β hβ => (det_loadC_ro ty22 rfl A2.mem A2.c1)) ?_
        refine HeadR.yes rfl rfl (fun _ _ => rfl) (fun β hβ => (Det.to (det_call en16 rfl (fun w hb ho => same_ok A1.bs A2.bs (hbl _ (List.getElem_mem hlt)) ho.blocks)) (congrArg Value.bool (decide_eq_false hq.2.2)))) ?_
        refine HeadR.yes rfl rfl (fun _ _ => rfl) (fun β hβ => (det_not rfl)) ?_
        refine HeadR.det rfl (fun β hβ => (det_pick rfl rfl)) ?_
        refine HeadR.done ⟨by kernel_rfl, fun β hβ => ?_⟩
        refine OpsW.norm (F' := ((16, _) :: (17, _) :: (18, _) :: (19, _) :: (20, _) :: (21, _) :: (22, _) :: (23, _) :: (24, _) :: (25, _) :: (26, _) :: (27, _) :: (28, _) :: (29, _) :: (30, _) :: (31, _) :: (32, _) :: (33, _) :: (34, _) :: (35, _) :: (36, _) :: (37, _) :: (38, _) :: (39, _) :: (40, _) :: (41, _) :: (42, _) :: (43, _) :: (44, _) :: (45, _) :: (46, _) :: (47, _) :: (48, _) :: (49, _) :: (50, _) :: (51, _) :: (52, _) :: (53, _) :: (5, _) :: (13, _) :: (12, _) :: (0, _) :: (1, _) :: [])) (H' := []) rfl rfl ?_
        refine sNext ?_
        refine W.keep (F' := [(53, _), (13, _), (12, _), (0, _), (1, _)]) ⟨rfl, rfl, rfl, rfl, rfl, trivial⟩ ?_
        refine W.cond_true rfl ?_
        refine sSeq ?_
        refine W.region ?_
        refine OpsW.det (det_assign rfl) rfl ?_
        refine sNext ?_
        refine W.keep (F' := [(4, _)]) ⟨rfl, trivial⟩ ?_
        refine sRet ?_
        refine retBlk ?_
        refine retLoop ?_
        refine retBlk ?_
        exact done1 Try.results19 (rv_tmp rfl) (congrArg Value.bool (decide_eq_false (ft_ne hlt hlt2 (fun h => hq.2.2 (by rw [h])))).symm)
      · skip
        obtain ⟨b1, o1, c1, cs1, e1, fr1, da1, m1, dc1, A1⟩ := hF.at_ i hlt
        obtain ⟨b2, o2, c2, cs2, e2, fr2, da2, m2, dc2, A2⟩ := hF2.at_ i hlt2
        have A1v := A1.val
        have A2v := A2.val
        simp only [Value.slice.injEq] at A1v A2v
        obtain ⟨rfl, _, rfl⟩ := A1v
        obtain ⟨rfl, _, rfl⟩ := A2v
        obtain ⟨hm1, _⟩ := bs_nz A1.bs
        subst hm1
        obtain ⟨hm2, _⟩ := bs_nz A2.bs
        subst hm2
        refine W.draw mixed 38 ([] :: [] :: [0, 1] :: [0, 1, 2] :: [0, 1, 2, 3] :: [] :: [] :: [5, 6] :: [5, 6, 7] :: [5, 6, 7, 8] :: [0, 1, 2, 3, 4, 5, 6, 7, 8, 9] :: [0, 1, 2, 3, 4, 5, 6, 7, 8, 9, 10] :: [0, 1, 2, 3, 4, 5, 6, 7, 8, 9, 10, 11] :: [0, 1, 2, 3, 4, 5, 6, 7, 8, 9, 10, 11] :: [0, 1, 2, 3, 4, 5, 6, 7, 8, 9, 10, 11, 12, 13] :: [0, 1, 2, 3, 4, 5, 6, 7, 8, 9, 10, 11, 12, 13, 14] :: [0, 1, 2, 3, 4, 5, 6, 7, 8, 9, 10, 11, 12, 13, 14, 15] :: [0, 1, 2, 3, 4, 5, 6, 7, 8, 9, 10, 11] :: [0, 1, 2, 3, 4, 5, 6, 7, 8, 9, 10, 11] :: [0, 1, 2, 3, 4, 5, 6, 7, 8, 9, 10, 11, 17, 18] :: [0, 1, 2, 3, 4, 5, 6, 7, 8, 9, 10, 11, 17, 18, 19] :: [0, 1, 2, 3, 4, 5, 6, 7, 8, 9, 10, 11, 17, 18, 19, 20] :: [0, 1, 2, 3, 4, 5, 6, 7, 8, 9, 10, 11, 12, 13, 14, 15, 16, 17, 18, 19, 20, 21] :: [0, 1, 2, 3, 4, 5, 6, 7, 8, 9, 10, 11, 12, 13, 14, 15, 16, 17, 18, 19, 20, 21, 22] :: [0, 1, 2, 3, 4, 5, 6, 7, 8, 9, 10, 11, 12, 13, 14, 15, 16, 17, 18, 19, 20, 21, 22, 23] :: [0, 1, 2, 3, 4, 5, 6, 7, 8, 9, 10, 11, 12, 13, 14, 15, 16, 17, 18, 19, 20, 21, 22, 23, 24] :: [0, 1, 2, 3, 4, 5, 6, 7, 8, 9, 10, 11, 12, 13, 14, 15, 16, 17, 18, 19, 20, 21, 22, 23, 24] :: [0, 1, 2, 3, 4, 5, 6, 7, 8, 9, 10, 11, 12, 13, 14, 15, 16, 17, 18, 19, 20, 21, 22, 23, 24, 25, 26] :: [0, 1, 2, 3, 4, 5, 6, 7, 8, 9, 10, 11, 12, 13, 14, 15, 16, 17, 18, 19, 20, 21, 22, 23, 24, 25, 26, 27] :: [0, 1, 2, 3, 4, 5, 6, 7, 8, 9, 10, 11, 12, 13, 14, 15, 16, 17, 18, 19, 20, 21, 22, 23, 24, 25, 26, 27, 28] :: [0, 1, 2, 3, 4, 5, 6, 7, 8, 9, 10, 11, 12, 13, 14, 15, 16, 17, 18, 19, 20, 21, 22, 23, 24] :: [0, 1, 2, 3, 4, 5, 6, 7, 8, 9, 10, 11, 12, 13, 14, 15, 16, 17, 18, 19, 20, 21, 22, 23, 24] :: [0, 1, 2, 3, 4, 5, 6, 7, 8, 9, 10, 11, 12, 13, 14, 15, 16, 17, 18, 19, 20, 21, 22, 23, 24, 30, 31] :: [0, 1, 2, 3, 4, 5, 6, 7, 8, 9, 10, 11, 12, 13, 14, 15, 16, 17, 18, 19, 20, 21, 22, 23, 24, 30, 31, 32] :: [0, 1, 2, 3, 4, 5, 6, 7, 8, 9, 10, 11, 12, 13, 14, 15, 16, 17, 18, 19, 20, 21, 22, 23, 24, 30, 31, 32, 33] :: (0 :: 1 :: 2 :: 3 :: 4 :: 5 :: 6 :: 7 :: 8 :: 9 :: 10 :: 11 :: 12 :: 13 :: 14 :: 15 :: 16 :: 17 :: 18 :: 19 :: 20 :: 21 :: 22 :: 23 :: 24 :: 25 :: 26 :: 27 :: 28 :: 29 :: 30 :: 31 :: 32 :: 33 :: 34 :: []) :: (0 :: 1 :: 2 :: 3 :: 4 :: 5 :: 6 :: 7 :: 8 :: 9 :: 10 :: 11 :: 12 :: 13 :: 14 :: 15 :: 16 :: 17 :: 18 :: 19 :: 20 :: 21 :: 22 :: 23 :: 24 :: 25 :: 26 :: 27 :: 28 :: 29 :: 30 :: 31 :: 32 :: 33 :: 34 :: 35 :: []) :: (0 :: 1 :: 2 :: 3 :: 4 :: 5 :: 6 :: 7 :: 8 :: 9 :: 10 :: 11 :: 12 :: 13 :: 14 :: 15 :: 16 :: 17 :: 18 :: 19 :: 20 :: 21 :: 22 :: 23 :: 24 :: 25 :: 26 :: 27 :: 28 :: 29 :: 30 :: 31 :: 32 :: 33 :: 34 :: 35 :: 36 :: []) :: []) (cl_lt (by decide)) ?_
        refine HeadR.start (cl_lt (by decide)) ?_
        refine HeadR.det rfl (fun β hβ => (det_move rfl)) ?_
        refine HeadR.det rfl (fun β hβ => (det_move rfl)) ?_
        refine HeadR.det rfl (fun β hβ => (det_indexAddr_sl u38 sz46 rfl rfl ⟨by omega, by omega⟩)) ?_
        refine HeadR.det rfl (fun β hβ => (det_fieldAddr fl46_0 rfl)) ?_
        refine HeadR.det rfl (fun β hβ => (det_loadC_ro ty9 rfl A1.mem A1.c0)) ?_
        refine HeadR.det rfl (fun β hβ => (det_move rfl)) ?_
        refine HeadR.det rfl (fun β hβ => (det_move rfl)) ?_
        refine HeadR.det rfl (fun β hβ => (det_indexAddr_sl u38 sz46 rfl rfl ⟨by omega, by omega⟩)) ?_
        refine HeadR.det rfl (fun β hβ => (det_fieldAddr fl46_0 rfl)) ?_
        refine HeadR.det rfl (fun β hβ => (det_loadC_ro ty9 rfl A2.mem A2.c0)) ?_
        refine HeadR.det rfl (fun β hβ => (Det.to (det_strneq rfl rfl) (congrArg Value.bool (sv_same (congrArg (·.1) hq))))) ?_
        refine HeadR.det rfl (fun β hβ => (det_move rfl)) ?_
        refine HeadR.yes rfl rfl (fun _ _ => rfl) (fun β hβ => (det_move rfl)) ?_
        refine HeadR.yes rfl rfl (fun _ _ => rfl) (fun β hβ => (det_move rfl)) ?_
        refine HeadR.yes rfl rfl (fun _ _ => rfl) (fun β hβ => (det_indexAddr_sl u38 sz46 rfl rfl ⟨by omega, by omega⟩)) ?_
        refine HeadR.yes rfl rfl (fun _ _ => rfl) (fun β hβ => (det_fieldAddr fl46_2 rfl)) ?_
        refine HeadR.yes rfl rfl (fun _ _ => rfl) (fun β hβ => (det_loadC_ro ty3 rfl A1.mem A1.c2)) ?_
        refine HeadR.yes rfl rfl (fun _ _ => rfl) (fun β hβ => (det_move rfl)) ?_
        refine HeadR.yes rfl rfl (fun _ _ => rfl) (fun β hβ => (det_move rfl)) ?_
        refine HeadR.yes rfl rfl (fun _ _ => rfl) (fun β hβ => (det_indexAddr_sl u38 sz46 rfl rfl ⟨by omega, by omega⟩)) ?_
        refine HeadR.yes rfl rfl (fun _ _ => rfl) (fun β hβ => (det_fieldAddr fl46_2 rfl)) ?_
        refine HeadR.yes rfl rfl (fun _ _ => rfl) (fun β hβ => (det_loadC_ro ty3 rfl A2.mem A2.c2)) ?_
        refine HeadR.yes rfl rfl (fun _ _ => rfl) (fun β hβ => (Det.to ((det_neq (a := L1[i].2.2) (b := L2[i].2.2) rfl rfl)) (congrArg Value.bool (show (L1[i].2.2 != L2[i].2.2) = false from by rw [hq]; exact bne_self_eq_false _)))) ?_
        refine HeadR.det rfl (fun β hβ => (det_pick rfl rfl)) ?_
        refine HeadR.det rfl (fun β hβ => (det_move rfl)) ?_
        refine HeadR.yes rfl rfl (fun _ _ => rfl) (fun β hβ => (det_move rfl)) ?_
        refine HeadR.yes rfl rfl (fun _ _ => rfl) (fun β hβ => (det_move rfl)) ?_
        refine HeadR.yes rfl rfl (fun _ _ => rfl) (fun β hβ => (det_indexAddr_sl u38 sz46 rfl rfl ⟨by omega, by omega⟩)) ?_
        refine HeadR.yes rfl rfl (fun _ _ => rfl) (fun β hβ => (det_fieldAddr fl46_1 rfl)) ?_
        refine HeadR.yes rfl rfl (fun _ _ => rfl) (fun β hβ => (det_loadC_ro ty22 rfl A1.mem A1.c1)) ?_
        refine HeadR.yes rfl rfl (fun _ _ => rfl) (fun β hβ => (det_move rfl)) ?_
        refine HeadR.yes rfl rfl (fun _ _ => rfl) (fun β hβ => (det_move rfl)) ?_
        refine HeadR.yes rfl rfl (fun _ _ => rfl) (fun β hβ => (det_indexAddr_sl u38 sz46 rfl rfl ⟨by omega, by omega⟩)) ?_
        refine HeadR.yes rfl rfl (fun _ _ => rfl) (fun β hβ => (det_fieldAddr fl46_1 rfl)) ?_
        refine HeadR.yes rfl rfl (fun _ _ => rfl) (fun β hβ => (det_loadC_ro ty22 rfl A2.mem A2.c1)) ?_
        refine HeadR.yes rfl rfl (fun _ _ => rfl) (fun β hβ => (Det.to (det_call en16 rfl (fun w hb ho => same_ok A1.bs A2.bs (hbl _ (List.getElem_mem hlt)) ho.blocks)) (congrArg Value.bool (decide_eq_true (congrArg (·.2.1) hq))))) ?_
        refine HeadR.yes rfl rfl (fun _ _ => rfl) (fun β hβ => (det_not rfl)) ?_
        refine HeadR.det rfl (fun β hβ => (det_pick rfl rfl)) ?_
        refine HeadR.done ⟨by kernel_rfl, fun β hβ => ?_⟩
        refine OpsW.norm (F' := ((16, _) :: (17, _) :: (18, _) :: (19, _) :: (20, _) :: (21, _) :: (22, _) :: (23, _) :: (24, _) :: (25, _) :: (26, _) :: (27, _) :: (28, _) :: (29, _) :: (30, _) :: (31, _) :: (32, _) :: (33, _) :: (34, _) :: (35, _) :: (36, _) :: (37, _) :: (38, _) :: (39, _) :: (40, _) :: (41, _) :: (42, _) :: (43, _) :: (44, _) :: (45, _) :: (46, _) :: (47, _) :: (48, _) :: (49, _) :: (50, _) :: (51, _) :: (52, _) :: (53, _) :: (5, _) :: (13, _) :: (12, _) :: (0, _) :: (1, _) :: [])) (H' := []) rfl rfl ?_
        refine sNext ?_
        refine W.keep (F' := [(53, _), (13, _), (12, _), (0, _), (1, _)]) ⟨rfl, rfl, rfl, rfl, rfl, trivial⟩ ?_
        refine W.cond_false rfl ?_
        refine sSkip0 ?_
        refine bNext ?_
        refine W.keep (F' := [(13, _), (12, _), (0, _), (1, _)]) ⟨rfl, rfl, rfl, rfl, trivial⟩ ?_
        refine W.region ?_
        refine OpsW.det (det_addN (b := 1) rfl rfl (by omega)) rfl ?_
        refine OpsW.det (det_move rfl) rfl ?_
        refine sLast ?_
        exact rEnd (i + 1) ⟨hlt, ft_step hlt hlt2 hI hq⟩ ⟨rfl, rfl, rfl, rfl, trivial⟩ (List.nil_sublist _) (step_lt hlt)
    · skip
      have hi4 : i = L1.length := by have h := hc14; simp only [decide_eq_false_iff_not] at h; omega
      subst hi4
      refine sExit ?_
      refine xLoop ?_
      refine xHere ?_
      refine W.keep (F' := []) trivial ?_
      refine sSeq ?_
      refine W.region ?_
      refine OpsW.det (det_assign rfl) rfl ?_
      refine sNext ?_
      refine sRet ?_
      exact done1 Try.results19 (rv_tmp rfl) (congrArg Value.bool (decide_eq_true (by have h := hI; rw [List.take_length, hll, List.take_length] at h; exact h)).symm)

end Go.Dk
