/-
  The disk's Mount: the walk. Conditions: as many files as a list has.
-/
import Derived.Test.YtajedkhfliondaaDl3
namespace Go.Dk
open Go Go.Vm Go.RowKit Go.Proofs Go.Cu
attribute [local irreducible] W OpsW Det Fresh New Writes Vm.Pure Makes Changes ExternTo BuildTo ZeroTo FieldTo IndexTo BinTo SliceTo Vm.Enters
set_option linter.unusedVariables false
set_option linter.unusedSimpArgs false

theorem cut_three {cs : List Value} {o : Nat} {x y z : Value} (h0 : cs[o + 0]? = some x) (h1 : cs[o + 1]? = some y) (h2 : cs[o + 2]? = some z) : Vm.cut o 3 cs = some [x, y, z] := by
  unfold Vm.cut
  induction o generalizing cs with
  | zero =>
    match cs, h0, h1, h2 with
    | a :: b :: c :: r, h0, h1, h2 =>
      simp at h0 h1 h2
      subst h0 h1 h2
      rfl
    | [a, b], h0, h1, h2 => simp at h2
    | [a], h0, h1, h2 => simp at h1
    | [], h0, h1, h2 => simp at h0
  | succ o ih =>
    match cs, h0, h1, h2 with
    | a :: r, h0, h1, h2 =>
      have e : dropN (o + 1) (a :: r) = dropN o r := rfl
      rw [e]
      exact ih (by rw [show o + 1 + 0 = (o + 0) + 1 by omega] at h0; simpa using h0) (by rw [show o + 1 + 1 = (o + 1) + 1 by omega] at h1; simpa using h1) (by rw [show o + 1 + 2 = (o + 2) + 1 by omega] at h2; simpa using h2)
    | [], h0, h1, h2 => simp at h0
/-- What Mount makes of a list of files. -/
def toFl (x : FT) : Fl := ⟨x.1, x.2.1, x.2.2.toNat⟩
def mbad (fs : List Fl) (x : FT) : Nat := if right x.1 = false then 40 else if fnd x.1 fs ≠ none ∨ x.2.2 < 0 ∨ (x.2.1.length : Int) < x.2.2 then 1 else 0
def mounts : List Fl → List FT → List Fl × Nat
  | fs, [] => (fs, 0)
  | fs, x :: r => if mbad fs x ≠ 0 then (fs, mbad fs x) else mounts (fs ++ [toFl x]) r
def mountA (k : Int) (L : List FT) : AD × Nat :=
  if 32 < L.length then (fresh k, 43) else if (mounts [] L).2 ≠ 0 then (fresh k, (mounts [] L).2) else if (fresh k).room < total (mounts [] L).1 then (fresh k, 42) else (⟨(mounts [] L).1, (fresh k).room, 0, 0, false⟩, 0)
theorem mount_many {k : Int} {L : List FT} (h : 32 < L.length) : mountA k L = (fresh k, 43) := by unfold mountA; rw [if_pos h]
theorem mount_bad {k : Int} {L : List FT} {gs : List Fl} {i e : Nat} (h32 : ¬ 32 < L.length) (hI : mounts [] L = mounts gs (L.drop i)) (hlt : i < L.length) (hm : mbad gs L[i] = e) (he : e ≠ 0) : mountA k L = (fresh k, e) := by
  have h1 : mounts [] L = (gs, e) := by rw [hI, List.drop_eq_getElem_cons hlt]; unfold mounts; rw [hm, if_pos he]
  unfold mountA
  rw [if_neg h32, h1, if_pos he]
theorem mount_end {L : List FT} {gs : List Fl} {i : Nat} (hI : mounts [] L = mounts gs (L.drop i)) (hi : i = L.length) : mounts [] L = (gs, 0) := by
  rw [hI, List.drop_eq_nil_of_le (by omega)]; rfl
theorem mount_full {k : Int} {L : List FT} {gs : List Fl} (h32 : ¬ 32 < L.length) (hI : mounts [] L = (gs, 0)) (h : (fresh k).room < total gs) : mountA k L = (fresh k, 42) := by
  unfold mountA; rw [if_neg h32, hI, if_neg (by simp), if_pos h]
theorem mount_done {k : Int} {L : List FT} {gs : List Fl} (h32 : ¬ 32 < L.length) (hI : mounts [] L = (gs, 0)) (h : ¬ (fresh k).room < total gs) : mountA k L = (⟨gs, (fresh k).room, 0, 0, false⟩, 0) := by
  unfold mountA; rw [if_neg h32, hI, if_neg (by simp), if_neg h]
theorem mounts_step {L : List FT} {gs : List Fl} {i : Nat} (hI : mounts [] L = mounts gs (L.drop i)) (hlt : i < L.length) (hm : mbad gs L[i] = 0) : mounts [] L = mounts (gs ++ [toFl L[i]]) (L.drop (i + 1)) := by
  rw [hI, List.drop_eq_getElem_cons hlt]; conv => lhs; unfold mounts
  rw [if_neg (by rw [hm]; simp)]
theorem bad40 {gs : List Fl} {x : FT} (h : right x.1 = false) : mbad gs x = 40 := by unfold mbad; rw [if_pos h]
theorem bad1 {gs : List Fl} {x : FT} (h : right x.1 = true) (h2 : fnd x.1 gs ≠ none ∨ x.2.2 < 0 ∨ (x.2.1.length : Int) < x.2.2) : mbad gs x = 1 := by unfold mbad; rw [if_neg (by rw [h]; simp), if_pos h2]
theorem bad0 {gs : List Fl} {x : FT} (h : right x.1 = true) (h2 : fnd x.1 gs = none) (h3 : ¬ x.2.2 < 0) (h4 : ¬ (x.2.1.length : Int) < x.2.2) : mbad gs x = 0 := by
  unfold mbad; rw [if_neg (by rw [h]; simp), if_neg (by intro hh; rcases hh with hh | hh | hh; exact hh h2; exact h3 hh; exact h4 hh)]

theorem ty46 : TyA Try.prog 46 3 := ⟨by kernel_rfl, by kernel_rfl⟩
theorem z46 : TyZ Try.prog 46 (.agg #[.string .empty, .slice none 0 0, .int .i64 0]) [.string .empty, .slice none 0 0, .int .i64 0] := ⟨fun _ => by kernel_rfl, by kernel_rfl⟩
set_option maxHeartbeats 1000000 in
theorem Mount_ok {G' : Hp} {v : Value} {L : List FT} (hF : Fa G' v L) (hnl : ∀ x ∈ L, x.1.length ≤ 9223372036854775807) (hbl : ∀ x ∈ L, x.2.1.length ≤ 140737488355328) {k : Int} {w : World} (hG : Blocks G' w)  : Changes Try.prog 22 #[.int .i64 k, v] w [] (fun r H' => ((mountA k L).2 ≠ 0 ∧ r = .tuple #[.pointer none, .int .i64 ((mountA k L).2 : Nat)]) ∨ ((mountA k L).2 = 0 ∧ ∃ bD, r = .tuple #[dptr bD, .int .i64 0] ∧ DiskIs bD (mountA k L).1 H')) := by
  obtain ⟨ad1, cap1, hvv⟩ := hF.shape
  refine changes_of_W (Hf := []) (n := 73) (args := [.int .i64 k, v]) Try.func22 rfl Try.ntmps22 (Nat.le_of_ble_eq_true rfl) (fun p hp => ⟨hG p hp, by simp⟩) (fun _ h => by cases h) (by simp) ?_
  refine sStart ?_
  refine sSeq ?_
  subst hvv
  refine W.region ?_
  refine OpsW.det (det_assign rfl) rfl ?_
  refine OpsW.det (det_assign rfl) rfl ?_
  refine sNext ?_
  refine W.keep (F' := [(0, _), (1, _)]) ⟨rfl, rfl, trivial⟩ ?_
  refine sSeq ?_
  refine W.region ?_
  refine OpsW.det (det_move rfl) rfl ?_
  refine OpsW.change (Hf := []) en8 rfl (fun w hb hbn ho hbm => New_ok nob) rfl (fun v12 H12 hS12 => ?_)
  obtain ⟨bD, rfl, hD0⟩ := hS12
  refine OpsW.det (det_assign rfl) rfl ?_
  refine sNext ?_
  refine W.keep (F' := [(6, _), (1, _)]) ⟨rfl, rfl, trivial⟩ ?_
  refine sSeq ?_
  refine sSeq ?_
  refine W.region ?_
  refine OpsW.det (det_move rfl) rfl ?_
  refine OpsW.det (det_len u38 rfl) rfl ?_
  refine OpsW.det (det_gtr rfl rfl) rfl ?_
  refine sNext ?_
  refine W.keep (F' := [(15, _), (6, _), (1, _)]) ⟨rfl, rfl, rfl, trivial⟩ ?_
  refine W.cond rfl (fun hc15 => ?_) (fun hc15 => ?_)
  · skip
    refine sSeq ?_
    refine W.region ?_
    refine OpsW.det (det_assign rfl) rfl ?_
    refine OpsW.det (det_assign rfl) rfl ?_
    refine sNext ?_
    refine W.keep (F' := [(5, _), (4, _)]) ⟨rfl, rfl, trivial⟩ ?_
    refine sRet ?_
    have he := mount_many (k := k) (L := L) (by have h := hc15; simp only [decide_eq_true_eq] at h; omega)
    exact done2 Try.results22 (rv_tmp rfl) (rv_tmp rfl) (.inl ⟨by rw [he]; simp, by rw [he]; rfl⟩)
  · skip
    have h32 : ¬ 32 < L.length := by have h := hc15; simp only [decide_eq_false_iff_not] at h; omega
    refine sSkip ?_
    refine sSeq ?_
    refine sSeq ?_
    refine W.region ?_
    refine OpsW.det (det_move rfl) rfl ?_
    refine OpsW.det (det_len u38 rfl) rfl ?_
    refine OpsW.det (det_move rfl) rfl ?_
    refine sNext ?_
    refine W.keep (F' := [(18, _), (17, _), (16, _), (6, _)]) ⟨rfl, rfl, rfl, rfl, trivial⟩ ?_
    refine sBlock ?_
    refine sLoop (σ := Nat × List Fl × Hp) (fun s => [(18, .int .i64 (s.1 : Nat)), (17, .int .i64 (L.length : Nat)), (16, .slice ad1 L.length cap1), (6, dptr bD)]) (fun s => s.2.2) (fun s => s.1 ≤ L.length ∧ DiskIs bD ⟨s.2.1, (fresh k).room, 0, 0, false⟩ s.2.2 ∧ mounts [] L = mounts s.2.1 (L.drop s.1) ∧ total s.2.1 ≤ s.1 * 140737488355328) (fun s => L.length - s.1) (0, [], H12) ⟨Nat.zero_le _, hD0, rfl, (by show total [] ≤ 0 * _; rw [Nat.zero_mul]; exact Nat.le_refl 0)⟩ ⟨rfl, rfl, rfl, rfl, trivial⟩ (List.sublist_append_left _ _) ?_
    rintro ⟨i, gs, Hg⟩ ⟨hi, hDg, hI, htg⟩
    change i ≤ L.length at hi
    change DiskIs bD ⟨gs, (fresh k).room, 0, 0, false⟩ Hg at hDg
    change mounts [] L = mounts gs (L.drop i) at hI
    change total gs ≤ i * 140737488355328 at htg
    refine W.norm (F' := [(18, .int .i64 (i : Nat)), (17, .int .i64 (L.length : Nat)), (16, .slice ad1 L.length cap1), (6, dptr bD)]) (H' := Hg) rfl rfl ?_
    refine DiskIs.W hDg (fun r2 bm2 hr2 hrA2 => ?_)
    obtain ⟨fs2, clk2, room2, steps2, fuse2, down2⟩ := r2
    simp only [Rp.ad, AD.mk.injEq] at hrA2
    obtain ⟨hq1, hq2, hq3, hq4, hq5⟩ := hrA2
    subst hq1 hq2 hq3 hq4 hq5
    refine W.norm (F' := [(18, .int .i64 (i : Nat)), (17, .int .i64 (L.length : Nat)), (16, .slice ad1 L.length cap1), (6, dptr bD)]) (H' := (bD, dblk bm2 (fresh k).room 0 0 false) :: (bm2, mobj (fs2.map FE.me) clk2) :: fhp fs2) rfl rfl ?_
    have hnd2 : (fs2.map (·.born)).Nodup := hr2.borns
    have hold2 : ∀ f ∈ fs2, f.born < clk2 := hr2.old
    refine sSeq ?_
    refine W.region ?_
    refine OpsW.det (det_lss rfl rfl) rfl ?_
    refine sNext ?_
    refine sSeq ?_
    refine W.cond rfl (fun hc19 => ?_) (fun hc19 => ?_)
    · skip
      have hlt : i < L.length := by have h := hc19; simp only [decide_eq_true_eq] at h; omega
      refine sSkip ?_
      refine sSeq ?_
      refine sBlock ?_
      refine sSeq ?_
      obtain ⟨b1, o1, c1, cs1, e1, fr1, da1, m1, dc1, A1⟩ := hF.at_ i hlt
      have A1v := A1.val
      simp only [Value.slice.injEq] at A1v
      obtain ⟨rfl, _, rfl⟩ := A1v
      obtain ⟨hm1, _⟩ := bs_nz A1.bs
      subst hm1
      refine W.region ?_
      refine OpsW.det (det_indexAddr_sl u38 sz46 rfl rfl ⟨by omega, by omega⟩) rfl ?_
      refine OpsW.det (det_loadA_ro ty46 rfl A1.mem (cut_three A1.c0 A1.c1 A1.c2)) rfl ?_
      refine OpsW.fresh (fr_alloc z46) rfl fun b8 => ?_
      refine OpsW.store sz46 rfl rfl rfl rfl rfl (Upd.here) rfl ?_
      refine sNext ?_
      refine W.keep (F' := [(8, _), (18, _), (17, _), (16, _), (6, _)]) ⟨rfl, rfl, rfl, rfl, rfl, trivial⟩ ?_
      refine sSeq ?_
      rcases look_cases L[i].1 fs2 with ⟨hfn, hmf, hgf, hfl⟩ | ⟨l1, f, l2, hfs, hfnm, hfl, hmf, hgf, hf, hfd⟩
      · skip
        refine W.draw mixed 11 [[], [0], [0, 1], [0, 1, 2], [], [4], [0, 1, 2, 3, 4, 5], [0, 1, 2, 3, 4, 5, 6], [0, 1, 2, 3, 4, 5, 6, 7], [0, 1, 2, 3, 4, 5, 6, 7], [], [0, 1, 2, 3, 4, 5, 6, 7, 8, 10], [0, 1, 2, 3, 4, 5, 6, 7, 8, 9, 10, 11]] (cl_lt (by decide)) ?_
        refine HeadR.start (cl_lt (by decide)) ?_
        refine HeadR.det rfl (fun β hβ => (det_move rfl)) ?_
        refine HeadR.det rfl (fun β hβ => (det_nilCheck rfl)) ?_
        refine HeadR.det rfl (fun β hβ => (det_fieldAddr fl66_0 rfl)) ?_
        refine HeadR.det rfl (fun β hβ => (det_loadC ty64 rfl (List.Mem.tail _ (List.Mem.head _)) rfl)) ?_
        refine HeadR.det rfl (fun β hβ => (det_fieldAddr fl46_0 rfl)) ?_
        refine HeadR.det rfl (fun β hβ => (det_loadC ty9 rfl (List.Mem.head _) rfl)) ?_
        refine HeadR.det rfl (fun β hβ => (Det.to (v := .tuple [fval none 0 0 0, .bool false].toArray) (det_lookupOk tm64 rfl rfl (.inl (List.Mem.tail _ (List.Mem.tail _ (List.Mem.head _))))) (by rw [hmf]; rfl))) ?_
        refine HeadR.det rfl (fun β hβ => (det_move rfl)) ?_
        refine HeadR.det rfl (fun β hβ => (det_extract rfl rfl)) ?_
        refine HeadR.flt rfl (fun _ _ _ _ hs => flt_extract hs rfl rfl) ?_
        refine HeadR.fresh rfl (fun β hβ => (fr_alloc z69).new) ?_
        refine HeadR.done ⟨by kernel_rfl, fun β hβ => ?_⟩
        refine OpsW.norm (F' := [(23, _), (24, _), (25, _), (26, _), (27, _), (28, _), (29, _), (22, _), (30, _), (31, _), (9, .pointer (some ⟨(β 9).1, 0, none⟩)), (8, _), (18, _), (17, _), (16, _), (6, _)]) (H' := ((_, _) :: (_, _) :: (_, _) :: (_, _) :: (fhp fs2))) rfl rfl ?_
        generalize (β 9).1 = b9
        refine OpsW.store sz69 rfl rfl rfl rfl rfl (Upd.here) rfl ?_
        refine OpsW.det (det_assign rfl) rfl ?_
        refine sNext ?_
        refine W.keep (F' := [(10, _), (8, _), (18, _), (17, _), (16, _), (6, _)]) ⟨rfl, rfl, rfl, rfl, rfl, rfl, trivial⟩ ?_
        refine sSeq ?_
        refine sBlock ?_
        refine sSeq ?_
        refine W.region ?_
        refine OpsW.det (det_fieldAddr fl46_0 rfl) rfl ?_
        refine OpsW.det (det_loadC ty9 rfl (List.Mem.tail _ (List.Mem.head _)) rfl) rfl ?_
        refine OpsW.det (det_call en37 rfl (fun w hb ho => Right_ok (hnl _ (List.getElem_mem hlt)) nob)) rfl ?_
        refine OpsW.det (det_not rfl) rfl ?_
        refine OpsW.det (det_assign rfl) rfl ?_
        refine sNext ?_
        refine W.keep (F' := [(32, _), (10, _), (8, _), (18, _), (17, _), (16, _), (6, _)]) ⟨rfl, rfl, rfl, rfl, rfl, rfl, rfl, trivial⟩ ?_
        refine W.cond rfl (fun hc32 => ?_) (fun hc32 => ?_)
        · skip
          refine sSeq ?_
          refine W.region ?_
          refine OpsW.det (det_assign rfl) rfl ?_
          refine OpsW.det (det_assign rfl) rfl ?_
          refine sNext ?_
          refine W.keep (F' := [(5, _), (4, _)]) ⟨rfl, rfl, trivial⟩ ?_
          refine sRet ?_
          refine retBlk ?_
          refine retBlk ?_
          refine retLoop ?_
          refine retBlk ?_
          have he := mount_bad (k := k) h32 hI hlt (bad40 (by have h := hc32; simpa using h)) (by decide)
          exact done2 Try.results22 (rv_tmp rfl) (rv_tmp rfl) (.inl ⟨by rw [he]; simp, by rw [he]; rfl⟩)
        · skip
          have hrt : right L[i].1 = true := by have h := hc32; simpa using h
          refine sSeq ?_
          refine W.region ?_
          refine OpsW.det (det_move rfl) rfl ?_
          refine OpsW.det (det_move rfl) rfl ?_
          refine OpsW.guard_yes rfl rfl ?_
          refine OpsW.det (det_fieldAddr fl46_2 rfl) rfl ?_
          refine OpsW.guard_yes rfl rfl ?_
          refine OpsW.det (det_loadC ty3 rfl (List.Mem.tail _ (List.Mem.head _)) rfl) rfl ?_
          refine OpsW.guard_yes rfl rfl ?_
          refine OpsW.test (det_lss rfl rfl) rfl (fun hc42 => ?_) (fun hc42 => ?_)
          · skip
            refine OpsW.det (det_pick rfl rfl) rfl ?_
            refine OpsW.det (det_move rfl) rfl ?_
            refine OpsW.guard_no rfl rfl rfl ?_
            refine OpsW.guard_no rfl rfl rfl ?_
            refine OpsW.guard_no rfl rfl rfl ?_
            refine OpsW.guard_no rfl rfl rfl ?_
            refine OpsW.guard_no rfl rfl rfl ?_
            refine OpsW.guard_no rfl rfl rfl ?_
            refine OpsW.det (det_pick rfl rfl) rfl ?_
            refine OpsW.det (det_assign rfl) rfl ?_
            refine sNext ?_
            refine W.keep (F' := [(37, _), (8, _), (18, _), (17, _), (16, _), (6, _)]) ⟨rfl, rfl, rfl, rfl, rfl, rfl, trivial⟩ ?_
            refine W.cond_true rfl ?_
            refine sSeq ?_
            refine W.region ?_
            refine OpsW.det (det_assign rfl) rfl ?_
            refine OpsW.det (det_assign rfl) rfl ?_
            refine sNext ?_
            refine W.keep (F' := [(5, _), (4, _)]) ⟨rfl, rfl, trivial⟩ ?_
            refine sRet ?_
            refine retBlk ?_
            refine retBlk ?_
            refine retLoop ?_
            refine retBlk ?_
            have he := mount_bad (k := k) h32 hI hlt (bad1 hrt (.inr (.inl (of_decide_eq_true hc42)))) (by decide)
            exact done2 Try.results22 (rv_tmp rfl) (rv_tmp rfl) (.inl ⟨by rw [he]; simp, by rw [he]; rfl⟩)
          · skip
            refine OpsW.det (det_pick rfl rfl) rfl ?_
            refine OpsW.det (det_move rfl) rfl ?_
            refine OpsW.guard_yes rfl rfl ?_
            refine OpsW.det (det_fieldAddr fl46_2 rfl) rfl ?_
            refine OpsW.guard_yes rfl rfl ?_
            refine OpsW.det (det_loadC ty3 rfl (List.Mem.tail _ (List.Mem.head _)) rfl) rfl ?_
            refine OpsW.guard_yes rfl rfl ?_
            refine OpsW.det (det_fieldAddr fl46_1 rfl) rfl ?_
            refine OpsW.guard_yes rfl rfl ?_
            refine OpsW.det (det_loadC ty22 rfl (List.Mem.tail _ (List.Mem.head _)) rfl) rfl ?_
            refine OpsW.guard_yes rfl rfl ?_
            refine OpsW.det (det_len u22 rfl) rfl ?_
            refine OpsW.guard_yes rfl rfl ?_
            refine OpsW.det (det_gtr rfl rfl) rfl ?_
            refine OpsW.det (det_pick rfl rfl) rfl ?_
            refine OpsW.det (det_assign rfl) rfl ?_
            refine sNext ?_
            refine W.keep (F' := [(37, _), (8, _), (18, _), (17, _), (16, _), (6, _)]) ⟨rfl, rfl, rfl, rfl, rfl, rfl, trivial⟩ ?_
            refine W.cond rfl (fun hc37 => ?_) (fun hc37 => ?_)
            · skip
              refine sSeq ?_
              refine W.region ?_
              refine OpsW.det (det_assign rfl) rfl ?_
              refine OpsW.det (det_assign rfl) rfl ?_
              refine sNext ?_
              refine W.keep (F' := [(5, _), (4, _)]) ⟨rfl, rfl, trivial⟩ ?_
              refine sRet ?_
              refine retBlk ?_
              refine retBlk ?_
              refine retLoop ?_
              refine retBlk ?_
              have he := mount_bad (k := k) h32 hI hlt (bad1 hrt (.inr (.inr (by have h := hc37; simpa using h)))) (by decide)
              exact done2 Try.results22 (rv_tmp rfl) (rv_tmp rfl) (.inl ⟨by rw [he]; simp, by rw [he]; rfl⟩)
            · skip
              refine sSkip0 ?_
              refine bNext ?_
              refine W.keep (F' := [(8, _), (18, _), (17, _), (16, _), (6, _)]) ⟨rfl, rfl, rfl, rfl, rfl, trivial⟩ ?_
              refine W.draw mixed 12 [[], [0], [0, 1], [0, 1, 2], [], [4], [], [6], [6, 7], [], [9], [6, 7, 8, 9, 10], [0, 1, 2, 3, 4, 5, 6, 7, 8, 9, 10, 11]] (cl_lt (by decide)) ?_
              refine HeadR.start (cl_lt (by decide)) ?_
              refine HeadR.det rfl (fun β hβ => (det_move rfl)) ?_
              refine HeadR.det rfl (fun β hβ => (det_nilCheck rfl)) ?_
              refine HeadR.det rfl (fun β hβ => (det_fieldAddr fl66_0 rfl)) ?_
              refine HeadR.det rfl (fun β hβ => (det_loadC ty64 rfl (List.Mem.tail _ (List.Mem.tail _ (List.Mem.head _))) rfl)) ?_
              refine HeadR.det rfl (fun β hβ => (det_fieldAddr fl46_0 rfl)) ?_
              refine HeadR.det rfl (fun β hβ => (det_loadC ty9 rfl (List.Mem.tail _ (List.Mem.head _)) rfl)) ?_
              refine HeadR.det rfl (fun β hβ => (det_fieldAddr fl46_1 rfl)) ?_
              refine HeadR.det rfl (fun β hβ => (det_loadC ty22 rfl (List.Mem.tail _ (List.Mem.head _)) rfl)) ?_
              refine HeadR.fresh rfl (fun β hβ => (new_call en36 rfl (fun w hb ho => Clone_ok (A1.bs) (hbl _ (List.getElem_mem hlt)) ho.blocks))) ?_
              refine HeadR.det rfl (fun β hβ => (det_fieldAddr fl46_2 rfl)) ?_
              refine HeadR.det rfl (fun β hβ => (det_loadC ty3 rfl (List.Mem.tail _ (List.Mem.head _)) rfl)) ?_
              refine HeadR.dep [60] (fun ps => .agg [clv da1 L[i].2.1.length (ps.getD 0 (0, 0, [])), .int .i64 L[i].2.2].toArray) rfl (fun β hβ => (det_build rfl bld69)) ?_
              refine HeadR.done ⟨by kernel_rfl, fun β hβ => ?_⟩
              refine OpsW.norm (F' := [(52, _), (53, _), (54, _), (55, _), (56, _), (57, _), (58, _), (59, _), (60, clv da1 L[i].2.1.length (β 60)), (61, _), (62, _), (63, .agg [clv da1 L[i].2.1.length (β 60), .int .i64 L[i].2.2].toArray), (8, _), (18, _), (17, _), (16, _), (6, _)]) (H' := clh L[i].2.1 (β 60) ++ ((b9, blk [.slice none 0 0, .int .i64 ((0 : Nat) : Int)] 69) :: (b8, blk [sv L[i].1, .slice da1 L[i].2.1.length dc1, .int .i64 L[i].2.2] 46) :: (bD, dblk bm2 (fresh k).room 0 0 false) :: (bm2, mobj (fs2.map FE.me) clk2) :: fhp fs2)) rfl (by simp only [allH, List.reverse_cons, List.reverse_nil, List.nil_append, List.cons_append, List.append_nil, List.append_assoc]) ?_
              have hp60 : clok da1 L[i].2.1 (β 60) := hβ.1
              generalize (β 60) = p60 at hp60 ⊢
              have hsf : ((L[i].2.2.toNat : Nat) : Int) = L[i].2.2 := by have h := hc42; simp only [decide_eq_false_iff_not] at h; omega
              refine OpsW.some (H' := (bD, dblk bm2 (fresh k).room 0 0 false) :: (bm2, mobj (fs2.map FE.me) clk2) :: (fhp fs2 ++ clh L[i].2.1 p60)) (X := [(b9, blk [.slice none 0 0, .int .i64 ((0 : Nat) : Int)] 69), (b8, blk [sv L[i].1, .slice da1 L[i].2.1.length dc1, .int .i64 L[i].2.2] 46)]) (perm_of fun F => by simp only [wsum_app, wsum]; omega) ?_
              refine OpsW.mapUpdate tm64 rfl rfl rfl (Upd.there Upd.here) ?_
              have hms : mset L[i].1 (.agg [clv da1 L[i].2.1.length p60, .int .i64 L[i].2.2].toArray) clk2 (fs2.map FE.me) = (fs2 ++ [(⟨L[i].1, clk2, da1.map fun _ => ⟨p60.1, 0, none⟩, p60.2.1, clh L[i].2.1 p60, L[i].2.1, L[i].2.2.toNat⟩ : FE)]).map FE.me := by rw [mset_new hmf, List.map_append]; show _ ++ [_] = _ ++ [(L[i].1, fval (da1.map fun _ => ⟨p60.1, 0, none⟩) L[i].2.1.length p60.2.1 L[i].2.2.toNat, clk2)]; rw [fval, hsf]
              rw [show mset L[i].1 _ clk2 (fs2.map FE.me) = _ from hms, mclk_no hmf]
              refine sLast ?_
              refine bNext ?_
              refine W.keep (F' := [(18, _), (17, _), (16, _), (6, _)]) ⟨rfl, rfl, rfl, rfl, trivial⟩ ?_
              refine W.region ?_
              refine OpsW.det (det_addN (b := 1) rfl rfl (by omega)) rfl ?_
              refine OpsW.det (det_move rfl) rfl ?_
              refine sLast ?_
              have hb0 := bad0 hrt hfn (of_decide_eq_false hc42) (by have h := hc37; simpa using h)
              have htn : total (fs2.map FE.fl ++ [toFl L[i]]) ≤ (i + 1) * 140737488355328 := by rw [total_app]; have h1 := hbl _ (List.getElem_mem hlt); have h2 := hsf; have h3 := hc37; simp only [decide_eq_false_iff_not] at h3; show _ + total [toFl L[i]] ≤ _; simp only [total, toFl, List.map_cons, List.map_nil, List.sum_cons, List.sum_nil] at htg ⊢; omega
              exact rEnd (i + 1, fs2.map FE.fl ++ [toFl L[i]], (bD, dblk bm2 (fresh k).room 0 0 false) :: (bm2, mobj ((fs2 ++ [(⟨L[i].1, clk2, da1.map fun _ => ⟨p60.1, 0, none⟩, p60.2.1, clh L[i].2.1 p60, L[i].2.1, L[i].2.2.toNat⟩ : FE)]).map FE.me) (clk2 + 1)) :: (fhp fs2 ++ clh L[i].2.1 p60)) ⟨hlt, ⟨⟨fs2 ++ [(⟨L[i].1, clk2, da1.map fun _ => ⟨p60.1, 0, none⟩, p60.2.1, clh L[i].2.1 p60, L[i].2.1, L[i].2.2.toNat⟩ : FE)], clk2 + 1, (fresh k).room, 0, 0, false⟩, bm2, _, rp_new hr2 (clone_own hp60) rfl, by simp only [Rp.ad, List.map_append]; rfl, List.Perm.refl _, by simp only [Rp.hp, fhp_snoc]; exact List.Sublist.refl _⟩, mounts_step hI hlt hb0, htn⟩ ⟨rfl, rfl, rfl, rfl, trivial⟩ (List.Sublist.refl _) (step_lt hlt)
      · skip
        refine W.draw mixed 11 [[], [0], [0, 1], [0, 1, 2], [], [4], [0, 1, 2, 3, 4, 5], [0, 1, 2, 3, 4, 5, 6], [0, 1, 2, 3, 4, 5, 6, 7], [0, 1, 2, 3, 4, 5, 6, 7], [], [0, 1, 2, 3, 4, 5, 6, 7, 8, 10], [0, 1, 2, 3, 4, 5, 6, 7, 8, 9, 10, 11]] (cl_lt (by decide)) ?_
        refine HeadR.start (cl_lt (by decide)) ?_
        refine HeadR.det rfl (fun β hβ => (det_move rfl)) ?_
        refine HeadR.det rfl (fun β hβ => (det_nilCheck rfl)) ?_
        refine HeadR.det rfl (fun β hβ => (det_fieldAddr fl66_0 rfl)) ?_
        refine HeadR.det rfl (fun β hβ => (det_loadC ty64 rfl (List.Mem.tail _ (List.Mem.head _)) rfl)) ?_
        refine HeadR.det rfl (fun β hβ => (det_fieldAddr fl46_0 rfl)) ?_
        refine HeadR.det rfl (fun β hβ => (det_loadC ty9 rfl (List.Mem.head _) rfl)) ?_
        refine HeadR.det rfl (fun β hβ => (Det.to (v := .tuple [f.val, .bool true].toArray) (det_lookupOk tm64 rfl rfl (.inl (List.Mem.tail _ (List.Mem.tail _ (List.Mem.head _))))) (by rw [hmf]; rfl))) ?_
        refine HeadR.det rfl (fun β hβ => (det_move rfl)) ?_
        refine HeadR.det rfl (fun β hβ => (det_extract rfl rfl)) ?_
        refine HeadR.flt rfl (fun _ _ _ _ hs => flt_extract hs rfl rfl) ?_
        refine HeadR.fresh rfl (fun β hβ => (fr_alloc z69).new) ?_
        refine HeadR.done ⟨by kernel_rfl, fun β hβ => ?_⟩
        refine OpsW.norm (F' := [(23, _), (24, _), (25, _), (26, _), (27, _), (28, _), (29, _), (22, _), (30, _), (31, _), (9, .pointer (some ⟨(β 9).1, 0, none⟩)), (8, _), (18, _), (17, _), (16, _), (6, _)]) (H' := ((_, _) :: (_, _) :: (_, _) :: (_, _) :: (fhp fs2))) rfl rfl ?_
        generalize (β 9).1 = b9
        refine OpsW.store sz69 rfl rfl rfl rfl rfl (Upd.here) rfl ?_
        refine OpsW.det (det_assign rfl) rfl ?_
        refine sNext ?_
        refine W.keep (F' := [(10, _), (8, _), (18, _), (17, _), (16, _), (6, _)]) ⟨rfl, rfl, rfl, rfl, rfl, rfl, trivial⟩ ?_
        refine sSeq ?_
        refine sBlock ?_
        refine sSeq ?_
        refine W.region ?_
        refine OpsW.det (det_fieldAddr fl46_0 rfl) rfl ?_
        refine OpsW.det (det_loadC ty9 rfl (List.Mem.tail _ (List.Mem.head _)) rfl) rfl ?_
        refine OpsW.det (det_call en37 rfl (fun w hb ho => Right_ok (hnl _ (List.getElem_mem hlt)) nob)) rfl ?_
        refine OpsW.det (det_not rfl) rfl ?_
        refine OpsW.det (det_assign rfl) rfl ?_
        refine sNext ?_
        refine W.keep (F' := [(32, _), (10, _), (8, _), (18, _), (17, _), (16, _), (6, _)]) ⟨rfl, rfl, rfl, rfl, rfl, rfl, rfl, trivial⟩ ?_
        refine W.cond rfl (fun hc32 => ?_) (fun hc32 => ?_)
        · skip
          refine sSeq ?_
          refine W.region ?_
          refine OpsW.det (det_assign rfl) rfl ?_
          refine OpsW.det (det_assign rfl) rfl ?_
          refine sNext ?_
          refine W.keep (F' := [(5, _), (4, _)]) ⟨rfl, rfl, trivial⟩ ?_
          refine sRet ?_
          refine retBlk ?_
          refine retBlk ?_
          refine retLoop ?_
          refine retBlk ?_
          have he := mount_bad (k := k) h32 hI hlt (bad40 (by have h := hc32; simpa using h)) (by decide)
          exact done2 Try.results22 (rv_tmp rfl) (rv_tmp rfl) (.inl ⟨by rw [he]; simp, by rw [he]; rfl⟩)
        · skip
          have hrt : right L[i].1 = true := by have h := hc32; simpa using h
          refine sSeq ?_
          refine W.region ?_
          refine OpsW.det (det_move rfl) rfl ?_
          refine OpsW.det (det_move rfl) rfl ?_
          refine OpsW.guard_no rfl rfl rfl ?_
          refine OpsW.guard_no rfl rfl rfl ?_
          refine OpsW.guard_no rfl rfl rfl ?_
          refine OpsW.det (det_pick rfl rfl) rfl ?_
          refine OpsW.det (det_move rfl) rfl ?_
          refine OpsW.guard_no rfl rfl rfl ?_
          refine OpsW.guard_no rfl rfl rfl ?_
          refine OpsW.guard_no rfl rfl rfl ?_
          refine OpsW.guard_no rfl rfl rfl ?_
          refine OpsW.guard_no rfl rfl rfl ?_
          refine OpsW.guard_no rfl rfl rfl ?_
          refine OpsW.det (det_pick rfl rfl) rfl ?_
          refine OpsW.det (det_assign rfl) rfl ?_
          refine sNext ?_
          refine W.keep (F' := [(37, _), (8, _), (18, _), (17, _), (16, _), (6, _)]) ⟨rfl, rfl, rfl, rfl, rfl, rfl, trivial⟩ ?_
          refine W.cond_true rfl ?_
          refine sSeq ?_
          refine W.region ?_
          refine OpsW.det (det_assign rfl) rfl ?_
          refine OpsW.det (det_assign rfl) rfl ?_
          refine sNext ?_
          refine W.keep (F' := [(5, _), (4, _)]) ⟨rfl, rfl, trivial⟩ ?_
          refine sRet ?_
          refine retBlk ?_
          refine retBlk ?_
          refine retLoop ?_
          refine retBlk ?_
          have he := mount_bad (k := k) h32 hI hlt (bad1 hrt (.inl (by rw [hfd]; simp))) (by decide)
          exact done2 Try.results22 (rv_tmp rfl) (rv_tmp rfl) (.inl ⟨by rw [he]; simp, by rw [he]; rfl⟩)
    · skip
      have hi4 : i = L.length := by have h := hc19; simp only [decide_eq_false_iff_not] at h; omega
      refine sExit ?_
      refine xLoop ?_
      refine xHere ?_
      refine W.keep (F' := [(6, _)]) ⟨rfl, trivial⟩ ?_
      refine sSeq ?_
      refine sSeq ?_
      refine W.draw mixed 7 [[], [0], [], [2], [2, 3], [2, 3, 4], [0, 1, 2, 3, 4, 5]] (cl_lt (by decide)) ?_
      refine HeadR.start (cl_lt (by decide)) ?_
      refine HeadR.det rfl (fun β hβ => (det_move rfl)) ?_
      refine HeadR.det rfl (fun β hβ => (det_call en33 rfl (fun w hb ho => safe_ok hnd2 hold2 (by omega) hb))) ?_
      refine HeadR.det rfl (fun β hβ => (det_move rfl)) ?_
      refine HeadR.det rfl (fun β hβ => (det_nilCheck rfl)) ?_
      refine HeadR.det rfl (fun β hβ => (det_fieldAddr fl66_1 rfl)) ?_
      refine HeadR.det rfl (fun β hβ => (det_loadC ty3 rfl (List.Mem.head _) rfl)) ?_
      refine HeadR.det rfl (fun β hβ => (det_gtr rfl rfl)) ?_
      refine HeadR.done ⟨by kernel_rfl, fun β hβ => ?_⟩
      refine OpsW.norm (F' := [(65, _), (66, _), (67, _), (68, _), (69, _), (70, _), (71, _), (6, _)]) (H' := ((_, _) :: (_, _) :: (fhp fs2))) rfl rfl ?_
      refine sNext ?_
      refine W.keep (F' := [(71, _), (6, _)]) ⟨rfl, rfl, trivial⟩ ?_
      refine W.cond rfl (fun hc71 => ?_) (fun hc71 => ?_)
      · skip
        refine sSeq ?_
        refine W.region ?_
        refine OpsW.det (det_assign rfl) rfl ?_
        refine OpsW.det (det_assign rfl) rfl ?_
        refine sNext ?_
        refine W.keep (F' := [(5, _), (4, _)]) ⟨rfl, rfl, trivial⟩ ?_
        refine sRet ?_
        have he := mount_full (k := k) h32 (mount_end hI hi4) (by have h := hc71; simp only [decide_eq_true_eq] at h; omega)
        exact done2 Try.results22 (rv_tmp rfl) (rv_tmp rfl) (.inl ⟨by rw [he]; simp, by rw [he]; rfl⟩)
      · skip
        refine sSkip ?_
        refine sSeq ?_
        refine W.region ?_
        refine OpsW.det (det_move rfl) rfl ?_
        refine OpsW.det (det_assign rfl) rfl ?_
        refine OpsW.det (det_assign rfl) rfl ?_
        refine sNext ?_
        refine W.keep (F' := [(5, _), (4, _)]) ⟨rfl, rfl, trivial⟩ ?_
        refine sRet ?_
        have he := mount_done (k := k) h32 (mount_end hI hi4) (by have h := hc71; simp only [decide_eq_false_iff_not] at h; omega)
        exact done2 Try.results22 (rv_tmp rfl) (rv_tmp rfl) (.inr ⟨by rw [he], bD, rfl, ⟨⟨fs2, clk2, (fresh k).room, 0, 0, false⟩, bm2, _, hr2, by rw [he]; rfl, List.Perm.refl _, List.Sublist.refl _⟩⟩)

end Go.Dk
