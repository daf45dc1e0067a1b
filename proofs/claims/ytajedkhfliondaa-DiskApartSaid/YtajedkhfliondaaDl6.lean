/-
  A file that is safe, whatever befalls the others: the walk. Conditions: as many bytes as memory has.
-/
import Derived.Test.YtajedkhfliondaaDs
namespace Go.Dk
open Go Go.Vm Go.RowKit Go.Proofs Go.Cu
attribute [local irreducible] W OpsW Det Fresh New Writes Vm.Pure Makes Changes ExternTo BuildTo ZeroTo FieldTo IndexTo BinTo SliceTo Vm.Enters
set_option linter.unusedVariables false
set_option linter.unusedSimpArgs false

theorem old_apart {K : List Nat} {G Hd : Hp} {w0 w : World} (ho : Old K G w0 w) (hm : ∀ p ∈ Hd, p.1 ∈ K ∨ w0.heap.size ≤ p.1) : ∀ p ∈ G, p.1 ∉ Hd.map (·.1) := fun p hp hmem => by
  obtain ⟨q, hq, he⟩ := List.mem_map.1 hmem
  obtain ⟨h1, h2⟩ := ho.ro p hp
  have h3 := lt_of_some h1
  rcases hm q hq with h | h
  · exact h2 (he ▸ h)
  · omega
theorem right_own : right [111, 119, 110] = true := by decide
theorem da1 {a : List Nat} (ha : a.length ≤ 65536) : append (fresh 4194304) [111, 119, 110] a = (⟨[⟨[111, 119, 110], a, 0⟩], 4194304, 1, 0, false⟩, 0) :=
  append_new (s := [111, 119, 110]) (b := a) (room := 4194304) (st := 0) (fu := 0) right_own (by unfold maxRoom; omega)
theorem da2 {a : List Nat} (ha : a.length ≤ 65536) : sync ⟨[⟨[111, 119, 110], a, 0⟩], 4194304, 1, 0, false⟩ [111, 119, 110] = (⟨[⟨[111, 119, 110], a, a.length⟩], 4194304, 2, 0, false⟩, 0) :=
  sync_one right_own (by omega) (by decide)
theorem nm_ne {s t : Nm} (h : decide ((⟨s.toArray⟩ : ByteArray) = ⟨t.toArray⟩) = false) : s ≠ t := of_decide_eq_false (sv_dec.symm.trans h)

theorem en26 : Vm.Enters Try.prog 26 := Vm.Enters.of fun _ _ => by kernel_rfl
theorem sz52 : sizeIn Try.prog 52 = some 6 := by kernel_rfl
theorem ty52 : TyA Try.prog 52 6 := ⟨by kernel_rfl, by kernel_rfl⟩
theorem u50 : Try.prog.underlying 50 = some (.slice 52) := by kernel_rfl
theorem z52 : TyZ Try.prog 52 (.agg #[.int .i64 0, .string .empty, .string .empty, .slice none 0 0, .int .i64 0, .slice none 0 0]) [.int .i64 0, .string .empty, .string .empty, .slice none 0 0, .int .i64 0, .slice none 0 0] := ⟨fun _ => by kernel_rfl, by kernel_rfl⟩
set_option maxHeartbeats 1000000 in
theorem DiskApart_ok {G' : Hp} {va vL : Value} {a : List Nat} {L : List OT} (hBa : Bs G' va a) (hla : a.length ≤ 140737488355328) (hL : Oa G' vL L) (hLl : L.length ≤ 140737488355328) (hLo : ∀ x ∈ L, OTok x) {w : World} (hG : Blocks G' w)  : Vm.Pure Try.prog 6 #[va, vL] w (.bool true) := by
  obtain ⟨ada, ca, hva⟩ := hBa.shape
  have hsa := hBa.small
  obtain ⟨adL, capL, hvL⟩ := hL.shape
  have hLs : ∀ x ∈ L, ∀ c ∈ x.data, c < 256 := fun x hx => by obtain ⟨i, hi, rfl⟩ := List.mem_iff_getElem.1 hx; obtain ⟨b, o, cap, cs, e, fr, ad, c, adk, ck, h⟩ := hL.at_ i hi; exact h.bs.small
  refine pure_of_W (n := 97) (args := [va, vL]) Try.func6 rfl Try.ntmps6 (Nat.le_of_ble_eq_true rfl) hG ?_
  refine sStart ?_
  refine sSeq ?_
  subst hva
  subst hvL
  refine W.region ?_
  refine OpsW.det (det_assign rfl) rfl ?_
  refine sNext ?_
  refine W.keep (F' := [(0, _), (1, _)]) ⟨rfl, rfl, trivial⟩ ?_
  refine sSeq ?_
  refine sSeq ?_
  refine W.region ?_
  refine OpsW.det (Det.to (det_call en9 rfl (fun w hb ho => head17_ok nob)) (congrArg Value.bool (rfl))) rfl ?_
  refine OpsW.det (det_not rfl) rfl ?_
  refine sNext ?_
  refine W.keep (F' := [(13, _), (0, _), (1, _)]) ⟨rfl, rfl, rfl, trivial⟩ ?_
  refine W.cond_false rfl ?_
  refine sSkip ?_
  refine sSeq ?_
  refine W.region ?_
  refine OpsW.change (Hf := []) en8 rfl (fun w hb hbn ho hbm => New_ok nob) rfl (fun v14 H14 hS14 => ?_)
  obtain ⟨bD, rfl, hD0⟩ := hS14
  refine OpsW.det (det_assign rfl) rfl ?_
  refine sNext ?_
  refine W.keep (F' := [(5, _), (0, _), (1, _)]) ⟨rfl, rfl, rfl, trivial⟩ ?_
  refine sSeq ?_
  refine sSeq ?_
  refine W.region ?_
  refine OpsW.det (det_move rfl) rfl ?_
  refine OpsW.det (det_len u22 rfl) rfl ?_
  refine OpsW.test (det_gtr rfl rfl) rfl (fun hc17 => ?_) (fun hc17 => ?_)
  · skip
    refine OpsW.det (det_move rfl) rfl ?_
    refine OpsW.guard_no rfl rfl rfl ?_
    refine OpsW.guard_no rfl rfl rfl ?_
    refine OpsW.guard_no rfl rfl rfl ?_
    refine OpsW.guard_no rfl rfl rfl ?_
    refine OpsW.guard_no rfl rfl rfl ?_
    refine OpsW.det (det_pick rfl rfl) rfl ?_
    refine OpsW.det (det_move rfl) rfl ?_
    refine OpsW.guard_no rfl rfl rfl ?_
    refine OpsW.guard_no rfl rfl rfl ?_
    refine OpsW.guard_no rfl rfl rfl ?_
    refine OpsW.det (det_pick rfl rfl) rfl ?_
    refine sNext ?_
    refine W.keep (F' := [(29, _), (5, _), (0, _), (1, _)]) ⟨rfl, rfl, rfl, rfl, trivial⟩ ?_
    refine W.cond_true rfl ?_
    refine sSeq ?_
    refine W.region ?_
    refine OpsW.det (det_move rfl) rfl ?_
    refine OpsW.det (det_len u22 rfl) rfl ?_
    refine OpsW.det (det_gtr rfl rfl) rfl ?_
    refine OpsW.det (det_assign rfl) rfl ?_
    refine sNext ?_
    refine W.keep (F' := [(4, _)]) ⟨rfl, trivial⟩ ?_
    refine sRet ?_
    exact done1 Try.results6 (rv_tmp rfl) (congrArg Value.bool hc17)
  · skip
    have ha64 : a.length ≤ 65536 := by have h := hc17; simp only [decide_eq_false_iff_not] at h; omega
    refine OpsW.det (det_move rfl) rfl ?_
    refine OpsW.guard_yes rfl rfl ?_
    refine OpsW.det (det_move rfl) rfl ?_
    refine OpsW.guard_yes rfl rfl ?_
    refine OpsW.det (det_move rfl) rfl ?_
    refine OpsW.guard_yes rfl rfl ?_
    refine OpsW.new (new_call en11 rfl (fun w hb ho => Copy_ok hBa (by omega) ho.blocks)) rfl fun p21 hp21 => ?_
    refine OpsW.guard_yes rfl rfl ?_
    refine OpsW.changeM (Hl := [(_, _)]) (Hd := H14) (Hr := []) en10 rfl (fun w hb hbn ho hbm => Append_ok hD0 (fresh_ok _) (Nat.le_of_ble_eq_true rfl) (by decide) ((Bs.of (l := a) (spare := []) (e := 5) (fr := (0, 0)) hsa (Nat.le_refl _)).mono (fun p hp => by rw [List.mem_singleton.1 hp]; exact (List.Mem.head _))) (by omega) (bl_left (Hl := [(_, _)]) hb) (bl_mid (Hl := [(_, _)]) hb) (nd_mid (Hl := [(_, _)]) hbn) (nd_dis (Hl := [(_, _)]) hbn)) rfl (fun v22 H22 hS22 => ?_)
    obtain ⟨hv22, hD1⟩ := hS22
    rw [da1 (by omega)] at hv22 hD1
    subst hv22
    refine OpsW.norm (H' := ((_, _) :: (H22 ++ []))) rfl rfl ?_
    refine OpsW.guard_yes rfl rfl ?_
    refine OpsW.det (Det.to (det_neq rfl rfl) (congrArg Value.bool (rfl))) rfl ?_
    refine OpsW.det (det_pick rfl rfl) rfl ?_
    refine OpsW.det (det_move rfl) rfl ?_
    refine OpsW.guard_yes rfl rfl ?_
    refine OpsW.det (det_move rfl) rfl ?_
    refine OpsW.guard_yes rfl rfl ?_
    refine OpsW.changeM (Hl := [(_, _)]) (Hd := H22) (Hr := []) en12 rfl (fun w hb hbn ho hbm => Sync_ok hD1 (ok_one (Nat.zero_le _) (by unfold maxRoom; omega) hsa (Nat.zero_le _) (by decide) (by omega)) (Nat.le_of_ble_eq_true rfl) (by decide) nob (bl_mid (Hl := [(_, _)]) hb) (nd_mid (Hl := [(_, _)]) hbn)) rfl (fun v27 H27 hS27 => ?_)
    obtain ⟨hv27, hD2⟩ := hS27
    rw [da2 (by omega)] at hv27 hD2
    subst hv27
    refine OpsW.norm (H' := ((_, _) :: (H27 ++ []))) rfl rfl ?_
    refine OpsW.guard_yes rfl rfl ?_
    refine OpsW.det (Det.to (det_neq rfl rfl) (congrArg Value.bool (rfl))) rfl ?_
    refine OpsW.det (det_pick rfl rfl) rfl ?_
    refine sNext ?_
    refine W.keep (F' := [(29, _), (5, _), (0, _), (1, _)]) ⟨rfl, rfl, rfl, rfl, trivial⟩ ?_
    refine W.cond_false rfl ?_
    refine sSkip ?_
    refine sSeq ?_
    refine sSeq ?_
    refine W.region ?_
    refine OpsW.det (det_assign rfl) rfl ?_
    refine sNext ?_
    refine W.keep (F' := [(6, _), (5, _), (0, _), (1, _)]) ⟨rfl, rfl, rfl, rfl, trivial⟩ ?_
    refine sBlock ?_
    refine sLoop (σ := Nat × AD × Hp) (fun s => [(6, .int .i64 (s.1 : Nat)), (1, .slice adL L.length capL), (5, dptr bD), (0, .slice ada a.length ca)]) (fun s => s.2.2 ++ []) (fun s => s.1 ≤ L.length ∧ DiskIs bD s.2.1 s.2.2 ∧ AD.ok s.2.1 ∧ s.2.1.steps ≤ 2 + s.1 ∧ fnd [111, 119, 110] s.2.1.fs = some ⟨[111, 119, 110], a, a.length⟩) (fun s => L.length - s.1) (0, ⟨[⟨[111, 119, 110], a, a.length⟩], 4194304, 2, 0, false⟩, H27) ⟨Nat.zero_le _, hD2, ok_one (Nat.le_refl _) (by unfold maxRoom; omega) hsa (by omega) (by decide) (by omega), Nat.le_refl _, fnd_one⟩ ⟨rfl, rfl, rfl, rfl, trivial⟩ (List.sublist_cons_self _ _) ?_
    rintro ⟨i, A, Hg⟩ ⟨hi, hDg, hAg, hsg, hOg⟩
    change i ≤ L.length at hi
    change DiskIs bD A Hg at hDg
    change AD.ok A at hAg
    change A.steps ≤ 2 + i at hsg
    change fnd [111, 119, 110] A.fs = some ⟨[111, 119, 110], a, a.length⟩ at hOg
    refine W.norm (F' := [(6, .int .i64 (i : Nat)), (1, .slice adL L.length capL), (5, dptr bD), (0, .slice ada a.length ca)]) (H' := Hg ++ []) rfl rfl ?_
    refine sSeq ?_
    refine sSeq ?_
    refine W.region ?_
    refine OpsW.det (det_move rfl) rfl ?_
    refine OpsW.det (det_move rfl) rfl ?_
    refine OpsW.det (det_len u50 rfl) rfl ?_
    refine OpsW.test (det_lss rfl rfl) rfl (fun hc36 => ?_) (fun hc36 => ?_)
    · skip
      have hlt : i < L.length := by have h := hc36; simp only [decide_eq_true_eq] at h; omega
      refine OpsW.det (det_move rfl) rfl ?_
      refine OpsW.guard_yes rfl rfl ?_
      refine OpsW.det (det_move rfl) rfl ?_
      refine OpsW.guard_yes rfl rfl ?_
      refine OpsW.det (det_lss rfl rfl) rfl ?_
      refine OpsW.det (det_pick rfl rfl) rfl ?_
      refine sNext ?_
      refine W.keep (F' := [(40, _), (6, _), (1, _), (5, _), (0, _)]) ⟨rfl, rfl, rfl, rfl, rfl, trivial⟩ ?_
      refine W.cond rfl (fun hc40 => ?_) (fun hc40 => ?_)
      · skip
        refine sSkip ?_
        refine sSeq ?_
        refine sBlock ?_
        refine sSeq ?_
        obtain ⟨b1, o1, c1, cs1, e1, fr1, da1', dc1, dk1, ck1, A1⟩ := hL.at_ i hlt
        have A1v := A1.val
        simp only [Value.slice.injEq] at A1v
        obtain ⟨rfl, _, rfl⟩ := A1v
        refine W.region ?_
        refine OpsW.det (det_move rfl) rfl ?_
        refine OpsW.det (det_move rfl) rfl ?_
        refine OpsW.det (det_indexAddr_sl u50 sz52 rfl rfl ⟨by omega, by omega⟩) rfl ?_
        refine OpsW.det (det_loadA_ro ty52 rfl A1.mem A1.cells) rfl ?_
        refine OpsW.fresh (fr_alloc z52) rfl fun b7 => ?_
        refine OpsW.store sz52 rfl rfl rfl rfl rfl (Upd.here) rfl ?_
        refine sNext ?_
        refine W.keep (F' := [(7, _), (6, _), (1, _), (5, _), (0, _)]) ⟨rfl, rfl, rfl, rfl, rfl, trivial⟩ ?_
        refine sSeq ?_
        refine sSeq ?_
        refine W.region ?_
        refine OpsW.det (det_fieldAddr fl52_1 rfl) rfl ?_
        refine OpsW.det (det_loadC ty9 rfl (List.Mem.head _) rfl) rfl ?_
        refine OpsW.test (det_streql rfl rfl) rfl (fun hc49 => ?_) (fun hc49 => ?_)
        · skip
          refine OpsW.det (det_move rfl) rfl ?_
          refine OpsW.guard_no rfl rfl rfl ?_
          refine OpsW.guard_no rfl rfl rfl ?_
          refine OpsW.guard_no rfl rfl rfl ?_
          refine OpsW.det (det_pick rfl rfl) rfl ?_
          refine OpsW.det (det_move rfl) rfl ?_
          refine OpsW.guard_no rfl rfl rfl ?_
          refine OpsW.guard_no rfl rfl rfl ?_
          refine OpsW.guard_no rfl rfl rfl ?_
          refine OpsW.det (det_pick rfl rfl) rfl ?_
          refine sNext ?_
          refine W.keep (F' := [(59, _), (7, _), (6, _), (1, _), (5, _), (0, _)]) ⟨rfl, rfl, rfl, rfl, rfl, rfl, trivial⟩ ?_
          refine W.cond_true rfl ?_
          refine sExit ?_
          refine xHere ?_
          refine W.keep (F' := [(6, _), (1, _), (5, _), (0, _)]) ⟨rfl, rfl, rfl, rfl, trivial⟩ ?_
          refine W.region ?_
          refine OpsW.det (det_move rfl) rfl ?_
          refine OpsW.det (det_addN (b := 1) rfl rfl (by omega)) rfl ?_
          refine OpsW.det (det_assign rfl) rfl ?_
          refine sLast ?_
          exact rEnd (i + 1, A, Hg) ⟨hlt, hDg, hAg, Nat.le_trans hsg (by omega), hOg⟩ ⟨rfl, rfl, rfl, rfl, trivial⟩ (List.sublist_cons_self _ _) (step_lt hlt)
        · skip
          refine OpsW.det (det_move rfl) rfl ?_
          refine OpsW.guard_yes rfl rfl ?_
          refine OpsW.det (det_fieldAddr fl52_2 rfl) rfl ?_
          refine OpsW.guard_yes rfl rfl ?_
          refine OpsW.det (det_loadC ty9 rfl (List.Mem.head _) rfl) rfl ?_
          refine OpsW.guard_yes rfl rfl ?_
          refine OpsW.test (det_streql rfl rfl) rfl (fun hc53 => ?_) (fun hc53 => ?_)
          · skip
            refine OpsW.det (det_pick rfl rfl) rfl ?_
            refine OpsW.det (det_move rfl) rfl ?_
            refine OpsW.guard_no rfl rfl rfl ?_
            refine OpsW.guard_no rfl rfl rfl ?_
            refine OpsW.guard_no rfl rfl rfl ?_
            refine OpsW.det (det_pick rfl rfl) rfl ?_
            refine sNext ?_
            refine W.keep (F' := [(59, _), (7, _), (6, _), (1, _), (5, _), (0, _)]) ⟨rfl, rfl, rfl, rfl, rfl, rfl, trivial⟩ ?_
            refine W.cond_true rfl ?_
            refine sExit ?_
            refine xHere ?_
            refine W.keep (F' := [(6, _), (1, _), (5, _), (0, _)]) ⟨rfl, rfl, rfl, rfl, trivial⟩ ?_
            refine W.region ?_
            refine OpsW.det (det_move rfl) rfl ?_
            refine OpsW.det (det_addN (b := 1) rfl rfl (by omega)) rfl ?_
            refine OpsW.det (det_assign rfl) rfl ?_
            refine sLast ?_
            exact rEnd (i + 1, A, Hg) ⟨hlt, hDg, hAg, Nat.le_trans hsg (by omega), hOg⟩ ⟨rfl, rfl, rfl, rfl, trivial⟩ (List.sublist_cons_self _ _) (step_lt hlt)
          · skip
            refine OpsW.det (det_pick rfl rfl) rfl ?_
            refine OpsW.det (det_move rfl) rfl ?_
            refine OpsW.guard_yes rfl rfl ?_
            refine OpsW.det (det_fieldAddr fl52_0 rfl) rfl ?_
            refine OpsW.guard_yes rfl rfl ?_
            refine OpsW.det (det_loadC ty3 rfl (List.Mem.head _) rfl) rfl ?_
            refine OpsW.guard_yes rfl rfl ?_
            refine OpsW.det (det_eql rfl rfl) rfl ?_
            refine OpsW.det (det_pick rfl rfl) rfl ?_
            refine sNext ?_
            refine W.keep (F' := [(59, _), (7, _), (6, _), (1, _), (5, _), (0, _)]) ⟨rfl, rfl, rfl, rfl, rfl, rfl, trivial⟩ ?_
            refine W.cond rfl (fun hc59 => ?_) (fun hc59 => ?_)
            · skip
              refine sExit ?_
              refine xHere ?_
              refine W.keep (F' := [(6, _), (1, _), (5, _), (0, _)]) ⟨rfl, rfl, rfl, rfl, trivial⟩ ?_
              refine W.region ?_
              refine OpsW.det (det_move rfl) rfl ?_
              refine OpsW.det (det_addN (b := 1) rfl rfl (by omega)) rfl ?_
              refine OpsW.det (det_assign rfl) rfl ?_
              refine sLast ?_
              exact rEnd (i + 1, A, Hg) ⟨hlt, hDg, hAg, Nat.le_trans hsg (by omega), hOg⟩ ⟨rfl, rfl, rfl, rfl, trivial⟩ (List.sublist_cons_self _ _) (step_lt hlt)
            · skip
              refine sSkip ?_
              refine W.region ?_
              refine OpsW.det (det_move rfl) rfl ?_
              refine OpsW.det (det_loadA ty52 rfl (List.Mem.head _) rfl) rfl ?_
              refine OpsW.changeM (Hl := [(_, _)]) (Hd := Hg) (Hr := []) en26 rfl (fun w hb hbn ho hbm => do_ok (o := L[i]) hDg hAg (by omega) (hLo _ (List.getElem_mem hlt)).1 (hLo _ (List.getElem_mem hlt)).2.1 A1.bs (hLo _ (List.getElem_mem hlt)).2.2.1 A1.ks (hLo _ (List.getElem_mem hlt)).2.2.2.1 (hLo _ (List.getElem_mem hlt)).2.2.2.2.1 ho.blocks (bl_mid (Hl := [(_, _)]) hb) (nd_mid (Hl := [(_, _)]) hbn) (old_apart ho hbm)) rfl (fun v62 H62 hS62 => ?_)
              refine OpsW.norm (H' := ((_, _) :: (H62 ++ []))) rfl rfl ?_
              refine sLast ?_
              refine bNext ?_
              refine W.keep (F' := [(6, _), (1, _), (5, _), (0, _)]) ⟨rfl, rfl, rfl, rfl, trivial⟩ ?_
              refine W.region ?_
              refine OpsW.det (det_move rfl) rfl ?_
              refine OpsW.det (det_addN (b := 1) rfl rfl (by omega)) rfl ?_
              refine OpsW.det (det_assign rfl) rfl ?_
              refine sLast ?_
              have hok := doA_ok (o := L[i]) hAg (hLs _ (List.getElem_mem hlt)) (hLo _ (List.getElem_mem hlt)).2.2.2.2.2
              exact rEnd (i + 1, (doA A L[i]).1, H62) ⟨hlt, hS62.disk, hok.1, Nat.le_trans hok.2 (by omega), (doA_keeps (nm_ne (t := [111, 119, 110]) hc49) (nm_ne (t := [111, 119, 110]) hc53) (ne_of_beq_false hc59)).trans hOg⟩ ⟨rfl, rfl, rfl, rfl, trivial⟩ (List.sublist_cons_self _ _) (step_lt hlt)
      · skip
        refine sExit ?_
        refine xLoop ?_
        refine xHere ?_
        refine W.keep (F' := [(5, _), (0, _)]) ⟨rfl, rfl, trivial⟩ ?_
        refine sSeq ?_
        refine W.region ?_
        refine OpsW.det (det_move rfl) rfl ?_
        refine OpsW.changeM (Hl := []) (Hd := Hg) (Hr := []) en14 rfl (fun w hb hbn ho hbm => Crash_ok (G' := []) hDg hAg (by omega) Ints.nil (by decide) (fun _ h => by cases h) nob (bl_mid (Hl := []) hb) (nd_mid (Hl := []) hbn) (fun _ h => by cases h)) rfl (fun v64 H64 hS64 => ?_)
        obtain ⟨hv64, hD3⟩ := hS64
        subst hv64
        have hAc := (crash_ok (keep := []) hAg).1
        have hOc := owned_crash hAg hOg
        refine OpsW.norm (H' := ((H64 ++ []))) rfl rfl ?_
        refine sNext ?_
        refine W.keep (F' := [(5, _), (0, _)]) ⟨rfl, rfl, trivial⟩ ?_
        refine sSeq ?_
        refine W.region ?_
        refine OpsW.det (det_move rfl) rfl ?_
        refine OpsW.change (Hf := []) en15 rfl (fun w hb hbn ho hbm => Read_d hD3 hAc (by decide) (bl_mid (Hl := []) hb)) rfl (fun v67 H67 hS67 => ?_)
        obtain ⟨adr, capr, hpr, nr, hvr, hnr, hownr, hsubr⟩ := hS67
        rw [owned_read hOc rfl right_own] at hvr hnr hownr
        dsimp only at hvr hnr hownr
        subst hvr
        subst hnr
        refine OpsW.tuck (Hl := []) (Hd := H64) (Hr := []) (hp := hpr) hsubr ?_
        refine OpsW.norm (H' := ((H64 ++ (hpr ++ [])))) rfl rfl ?_
        refine OpsW.det (det_move rfl) rfl ?_
        refine OpsW.det (det_extract rfl rfl) rfl ?_
        refine OpsW.det (det_extract rfl rfl) rfl ?_
        refine OpsW.det (det_assign rfl) rfl ?_
        refine OpsW.det (det_assign rfl) rfl ?_
        refine sNext ?_
        refine W.keep (F' := [(9, _), (8, _), (5, _), (0, _)]) ⟨rfl, rfl, rfl, rfl, trivial⟩ ?_
        refine sSeq ?_
        refine W.region ?_
        refine OpsW.det (det_move rfl) rfl ?_
        refine OpsW.change (Hf := []) en18 rfl (fun w hb hbn ho hbm => Image_d hD3 hAc (bl_mid (Hl := []) hb)) rfl (fun v71 H71 hS71 => ?_)
        obtain ⟨Xi, hfii, hxsi⟩ : ∃ X, FilesIs v71 (image _) X ∧ X.Sublist H71 := ⟨_, hS71, List.Sublist.refl _⟩
        have hfai := FilesIs.ok hAc hfii
        obtain ⟨adi, capi, hvi⟩ := hfai.shape
        subst hvi
        refine OpsW.tuck (Hl := []) (Hd := H64) (Hr := (hpr ++ [])) (hp := Xi) hxsi ?_
        refine OpsW.norm (H' := ((H64 ++ (Xi ++ (hpr ++ []))))) rfl rfl ?_
        refine OpsW.det (det_assign rfl) rfl ?_
        refine sNext ?_
        refine W.keep (F' := [(10, _), (9, _), (8, _), (0, _)]) ⟨rfl, rfl, rfl, rfl, trivial⟩ ?_
        refine sSeq ?_
        refine sSeq ?_
        refine W.region ?_
        refine OpsW.det (det_move rfl) rfl ?_
        refine OpsW.det (det_len u38 rfl) rfl ?_
        refine OpsW.det (det_move rfl) rfl ?_
        refine sNext ?_
        refine W.keep (F' := [(74, _), (73, _), (10, _), (9, _), (8, _), (0, _)]) ⟨rfl, rfl, rfl, rfl, rfl, rfl, trivial⟩ ?_
        refine sBlock ?_
        refine sLoop (σ := Nat) (fun s => [(74, .int .i64 (s : Nat)), (73, .int .i64 (((image (crash A []).fs).map ft).length : Nat)), (10, .slice adi ((image (crash A []).fs).map ft).length capi), (8, .slice adr a.length capr), (9, .int .i64 0), (0, .slice ada a.length ca)]) (fun s => H64 ++ (Xi ++ (hpr ++ []))) (fun s => s ≤ ((image (crash A []).fs).map ft).length) (fun s => ((image (crash A []).fs).map ft).length - s) 0 (Nat.zero_le _) ⟨rfl, rfl, rfl, rfl, rfl, rfl, trivial⟩ (List.Sublist.refl _) ?_
        intro j hj
        refine sSeq ?_
        refine W.region ?_
        refine OpsW.det (det_lss rfl rfl) rfl ?_
        refine sNext ?_
        refine sSeq ?_
        refine W.cond rfl (fun hc75 => ?_) (fun hc75 => ?_)
        · skip
          have hjl : j < ((image (crash A []).fs).map ft).length := by have h := hc75; simp only [decide_eq_true_eq] at h; omega
          have hsl := image_settled hAg _ (List.getElem_mem hjl)
          refine sSkip ?_
          refine sSeq ?_
          refine sBlock ?_
          refine sSeq ?_
          refine W.region ?_
          refine OpsW.det (det_move rfl) rfl ?_
          refine OpsW.det (det_assign rfl) rfl ?_
          refine sNext ?_
          refine W.keep (F' := [(11, _), (74, _), (73, _), (10, _), (8, _), (9, _), (0, _)]) ⟨rfl, rfl, rfl, rfl, rfl, rfl, rfl, trivial⟩ ?_
          refine sSeq ?_
          obtain ⟨b1, o1, c1, cs1, e1, fr1, da1', m1, dc1, A1⟩ := hfai.at_ j hjl
          have A1v := A1.val
          simp only [Value.slice.injEq] at A1v
          obtain ⟨rfl, _, rfl⟩ := A1v
          obtain ⟨hm1, _⟩ := bs_nz A1.bs
          subst hm1
          refine W.draw mixed 12 [[], [], [0, 1], [0, 1, 2], [0, 1, 2, 3], [], [], [5, 6], [5, 6, 7], [5, 6, 7, 8], [5, 6, 7, 8, 9], [0, 1, 2, 3, 4, 5, 6, 7, 8, 9, 10]] (cl_lt (by decide)) ?_
          refine HeadR.start (cl_lt (by decide)) ?_
          refine HeadR.det rfl (fun β hβ => (det_move rfl)) ?_
          refine HeadR.det rfl (fun β hβ => (det_move rfl)) ?_
          refine HeadR.det rfl (fun β hβ => (det_indexAddr_sl u38 sz46 rfl rfl ⟨by omega, by omega⟩)) ?_
          refine HeadR.det rfl (fun β hβ => (det_fieldAddr fl46_2 rfl)) ?_
          refine HeadR.det rfl (fun β hβ => (det_loadC ty3 rfl (List.mem_append_right H64 (List.mem_append_left _ A1.mem)) A1.c2)) ?_
          refine HeadR.det rfl (fun β hβ => (det_move rfl)) ?_
          refine HeadR.det rfl (fun β hβ => (det_move rfl)) ?_
          refine HeadR.det rfl (fun β hβ => (det_indexAddr_sl u38 sz46 rfl rfl ⟨by omega, by omega⟩)) ?_
          refine HeadR.det rfl (fun β hβ => (det_fieldAddr fl46_1 rfl)) ?_
          refine HeadR.det rfl (fun β hβ => (det_loadC ty22 rfl (List.mem_append_right H64 (List.mem_append_left _ A1.mem)) A1.c1)) ?_
          refine HeadR.det rfl (fun β hβ => (det_len u22 rfl)) ?_
          refine HeadR.det rfl (fun β hβ => (Det.to ((det_neq (a := (((image (crash A []).fs).map ft)[j]).2.2) (b := ((((((image (crash A []).fs).map ft)[j]).2.1).length : Nat) : Int)) rfl rfl)) (congrArg Value.bool ((show ((((image (crash A []).fs).map ft)[j]).2.2 != ((((((image (crash A []).fs).map ft)[j]).2.1).length : Nat) : Int)) = false from by rw [hsl]; exact bne_self_eq_false _))))) ?_
          refine HeadR.done ⟨by kernel_rfl, fun β hβ => ?_⟩
          refine OpsW.norm (F' := [(77, _), (78, _), (79, _), (80, _), (81, _), (82, _), (83, _), (84, _), (85, _), (86, _), (87, _), (88, _), (11, _), (74, _), (73, _), (10, _), (8, _), (9, _), (0, _)]) (H' := ((H64 ++ (Xi ++ (hpr ++ []))))) rfl rfl ?_
          refine sNext ?_
          refine W.keep (F' := [(88, _), (74, _), (73, _), (10, _), (8, _), (9, _), (0, _)]) ⟨rfl, rfl, rfl, rfl, rfl, rfl, rfl, trivial⟩ ?_
          refine W.cond_false rfl ?_
          refine sSkip0 ?_
          refine bNext ?_
          refine W.keep (F' := [(74, _), (73, _), (10, _), (8, _), (9, _), (0, _)]) ⟨rfl, rfl, rfl, rfl, rfl, rfl, trivial⟩ ?_
          refine W.region ?_
          refine OpsW.det (det_addN (b := 1) rfl rfl (by rw [List.length_map, image_len] at hjl; have := hAc.many; omega)) rfl ?_
          refine OpsW.det (det_move rfl) rfl ?_
          refine sLast ?_
          exact rEnd (j + 1) hjl ⟨rfl, rfl, rfl, rfl, rfl, rfl, trivial⟩ (List.Sublist.refl _) (step_lt hjl)
        · skip
          refine sExit ?_
          refine xLoop ?_
          refine xHere ?_
          refine W.keep (F' := [(8, _), (9, _), (0, _)]) ⟨rfl, rfl, rfl, trivial⟩ ?_
          refine sSeq ?_
          refine W.region ?_
          refine OpsW.det (det_move rfl) rfl ?_
          refine OpsW.det (Det.to (det_eql rfl rfl) (congrArg Value.bool (rfl))) rfl ?_
          refine OpsW.det (det_move rfl) rfl ?_
          refine OpsW.guard_yes rfl rfl ?_
          refine OpsW.det (det_move rfl) rfl ?_
          refine OpsW.guard_yes rfl rfl ?_
          refine OpsW.det (det_move rfl) rfl ?_
          refine OpsW.guard_yes rfl rfl ?_
          refine OpsW.det (Det.to (det_call en16 rfl (fun w hb ho => same_ok (hBa.mono (fun p hp => List.mem_append_right _ hp)) ((Bs.own hsa hownr).mono (fun p hp => List.mem_append_left _ ((fun p hp => List.mem_append_right [] (List.mem_append_right _ (List.mem_append_right _ (List.mem_append_left _ hp)))) p hp))) (by omega) (blocks_app hb ho.blocks))) (congrArg Value.bool (decide_eq_true rfl))) rfl ?_
          refine OpsW.det (det_pick rfl rfl) rfl ?_
          refine OpsW.det (det_assign rfl) rfl ?_
          refine sNext ?_
          refine W.keep (F' := [(4, _)]) ⟨rfl, trivial⟩ ?_
          refine sRet ?_
          exact done1 Try.results6 (rv_tmp rfl) rfl
    · skip
      refine OpsW.det (det_move rfl) rfl ?_
      refine OpsW.guard_no rfl rfl rfl ?_
      refine OpsW.guard_no rfl rfl rfl ?_
      refine OpsW.det (det_pick rfl rfl) rfl ?_
      refine sNext ?_
      refine W.keep (F' := [(40, _), (6, _), (1, _), (5, _), (0, _)]) ⟨rfl, rfl, rfl, rfl, rfl, trivial⟩ ?_
      refine W.cond_false rfl ?_
      refine sExit ?_
      refine xLoop ?_
      refine xHere ?_
      refine W.keep (F' := [(5, _), (0, _)]) ⟨rfl, rfl, trivial⟩ ?_
      refine sSeq ?_
      refine W.region ?_
      refine OpsW.det (det_move rfl) rfl ?_
      refine OpsW.changeM (Hl := []) (Hd := Hg) (Hr := []) en14 rfl (fun w hb hbn ho hbm => Crash_ok (G' := []) hDg hAg (by omega) Ints.nil (by decide) (fun _ h => by cases h) nob (bl_mid (Hl := []) hb) (nd_mid (Hl := []) hbn) (fun _ h => by cases h)) rfl (fun v64 H64 hS64 => ?_)
      obtain ⟨hv64, hD3⟩ := hS64
      subst hv64
      have hAc := (crash_ok (keep := []) hAg).1
      have hOc := owned_crash hAg hOg
      refine OpsW.norm (H' := ((H64 ++ []))) rfl rfl ?_
      refine sNext ?_
      refine W.keep (F' := [(5, _), (0, _)]) ⟨rfl, rfl, trivial⟩ ?_
      refine sSeq ?_
      refine W.region ?_
      refine OpsW.det (det_move rfl) rfl ?_
      refine OpsW.change (Hf := []) en15 rfl (fun w hb hbn ho hbm => Read_d hD3 hAc (by decide) (bl_mid (Hl := []) hb)) rfl (fun v67 H67 hS67 => ?_)
      obtain ⟨adr, capr, hpr, nr, hvr, hnr, hownr, hsubr⟩ := hS67
      rw [owned_read hOc rfl right_own] at hvr hnr hownr
      dsimp only at hvr hnr hownr
      subst hvr
      subst hnr
      refine OpsW.tuck (Hl := []) (Hd := H64) (Hr := []) (hp := hpr) hsubr ?_
      refine OpsW.norm (H' := ((H64 ++ (hpr ++ [])))) rfl rfl ?_
      refine OpsW.det (det_move rfl) rfl ?_
      refine OpsW.det (det_extract rfl rfl) rfl ?_
      refine OpsW.det (det_extract rfl rfl) rfl ?_
      refine OpsW.det (det_assign rfl) rfl ?_
      refine OpsW.det (det_assign rfl) rfl ?_
      refine sNext ?_
      refine W.keep (F' := [(9, _), (8, _), (5, _), (0, _)]) ⟨rfl, rfl, rfl, rfl, trivial⟩ ?_
      refine sSeq ?_
      refine W.region ?_
      refine OpsW.det (det_move rfl) rfl ?_
      refine OpsW.change (Hf := []) en18 rfl (fun w hb hbn ho hbm => Image_d hD3 hAc (bl_mid (Hl := []) hb)) rfl (fun v71 H71 hS71 => ?_)
      obtain ⟨Xi, hfii, hxsi⟩ : ∃ X, FilesIs v71 (image _) X ∧ X.Sublist H71 := ⟨_, hS71, List.Sublist.refl _⟩
      have hfai := FilesIs.ok hAc hfii
      obtain ⟨adi, capi, hvi⟩ := hfai.shape
      subst hvi
      refine OpsW.tuck (Hl := []) (Hd := H64) (Hr := (hpr ++ [])) (hp := Xi) hxsi ?_
      refine OpsW.norm (H' := ((H64 ++ (Xi ++ (hpr ++ []))))) rfl rfl ?_
      refine OpsW.det (det_assign rfl) rfl ?_
      refine sNext ?_
      refine W.keep (F' := [(10, _), (9, _), (8, _), (0, _)]) ⟨rfl, rfl, rfl, rfl, trivial⟩ ?_
      refine sSeq ?_
      refine sSeq ?_
      refine W.region ?_
      refine OpsW.det (det_move rfl) rfl ?_
      refine OpsW.det (det_len u38 rfl) rfl ?_
      refine OpsW.det (det_move rfl) rfl ?_
      refine sNext ?_
      refine W.keep (F' := [(74, _), (73, _), (10, _), (9, _), (8, _), (0, _)]) ⟨rfl, rfl, rfl, rfl, rfl, rfl, trivial⟩ ?_
      refine sBlock ?_
      refine sLoop (σ := Nat) (fun s => [(74, .int .i64 (s : Nat)), (73, .int .i64 (((image (crash A []).fs).map ft).length : Nat)), (10, .slice adi ((image (crash A []).fs).map ft).length capi), (8, .slice adr a.length capr), (9, .int .i64 0), (0, .slice ada a.length ca)]) (fun s => H64 ++ (Xi ++ (hpr ++ []))) (fun s => s ≤ ((image (crash A []).fs).map ft).length) (fun s => ((image (crash A []).fs).map ft).length - s) 0 (Nat.zero_le _) ⟨rfl, rfl, rfl, rfl, rfl, rfl, trivial⟩ (List.Sublist.refl _) ?_
      intro j hj
      refine sSeq ?_
      refine W.region ?_
      refine OpsW.det (det_lss rfl rfl) rfl ?_
      refine sNext ?_
      refine sSeq ?_
      refine W.cond rfl (fun hc75 => ?_) (fun hc75 => ?_)
      · skip
        have hjl : j < ((image (crash A []).fs).map ft).length := by have h := hc75; simp only [decide_eq_true_eq] at h; omega
        have hsl := image_settled hAg _ (List.getElem_mem hjl)
        refine sSkip ?_
        refine sSeq ?_
        refine sBlock ?_
        refine sSeq ?_
        refine W.region ?_
        refine OpsW.det (det_move rfl) rfl ?_
        refine OpsW.det (det_assign rfl) rfl ?_
        refine sNext ?_
        refine W.keep (F' := [(11, _), (74, _), (73, _), (10, _), (8, _), (9, _), (0, _)]) ⟨rfl, rfl, rfl, rfl, rfl, rfl, rfl, trivial⟩ ?_
        refine sSeq ?_
        obtain ⟨b1, o1, c1, cs1, e1, fr1, da1', m1, dc1, A1⟩ := hfai.at_ j hjl
        have A1v := A1.val
        simp only [Value.slice.injEq] at A1v
        obtain ⟨rfl, _, rfl⟩ := A1v
        obtain ⟨hm1, _⟩ := bs_nz A1.bs
        subst hm1
        refine W.draw mixed 12 [[], [], [0, 1], [0, 1, 2], [0, 1, 2, 3], [], [], [5, 6], [5, 6, 7], [5, 6, 7, 8], [5, 6, 7, 8, 9], [0, 1, 2, 3, 4, 5, 6, 7, 8, 9, 10]] (cl_lt (by decide)) ?_
        refine HeadR.start (cl_lt (by decide)) ?_
        refine HeadR.det rfl (fun β hβ => (det_move rfl)) ?_
        refine HeadR.det rfl (fun β hβ => (det_move rfl)) ?_
        refine HeadR.det rfl (fun β hβ => (det_indexAddr_sl u38 sz46 rfl rfl ⟨by omega, by omega⟩)) ?_
        refine HeadR.det rfl (fun β hβ => (det_fieldAddr fl46_2 rfl)) ?_
        refine HeadR.det rfl (fun β hβ => (det_loadC ty3 rfl (List.mem_append_right H64 (List.mem_append_left _ A1.mem)) A1.c2)) ?_
        refine HeadR.det rfl (fun β hβ => (det_move rfl)) ?_
        refine HeadR.det rfl (fun β hβ => (det_move rfl)) ?_
        refine HeadR.det rfl (fun β hβ => (det_indexAddr_sl u38 sz46 rfl rfl ⟨by omega, by omega⟩)) ?_
        refine HeadR.det rfl (fun β hβ => (det_fieldAddr fl46_1 rfl)) ?_
        refine HeadR.det rfl (fun β hβ => (det_loadC ty22 rfl (List.mem_append_right H64 (List.mem_append_left _ A1.mem)) A1.c1)) ?_
        refine HeadR.det rfl (fun β hβ => (det_len u22 rfl)) ?_
        refine HeadR.det rfl (fun β hβ => (Det.to ((det_neq (a := (((image (crash A []).fs).map ft)[j]).2.2) (b := ((((((image (crash A []).fs).map ft)[j]).2.1).length : Nat) : Int)) rfl rfl)) (congrArg Value.bool ((show ((((image (crash A []).fs).map ft)[j]).2.2 != ((((((image (crash A []).fs).map ft)[j]).2.1).length : Nat) : Int)) = false from by rw [hsl]; exact bne_self_eq_false _))))) ?_
        refine HeadR.done ⟨by kernel_rfl, fun β hβ => ?_⟩
        refine OpsW.norm (F' := [(77, _), (78, _), (79, _), (80, _), (81, _), (82, _), (83, _), (84, _), (85, _), (86, _), (87, _), (88, _), (11, _), (74, _), (73, _), (10, _), (8, _), (9, _), (0, _)]) (H' := ((H64 ++ (Xi ++ (hpr ++ []))))) rfl rfl ?_
        refine sNext ?_
        refine W.keep (F' := [(88, _), (74, _), (73, _), (10, _), (8, _), (9, _), (0, _)]) ⟨rfl, rfl, rfl, rfl, rfl, rfl, rfl, trivial⟩ ?_
        refine W.cond_false rfl ?_
        refine sSkip0 ?_
        refine bNext ?_
        refine W.keep (F' := [(74, _), (73, _), (10, _), (8, _), (9, _), (0, _)]) ⟨rfl, rfl, rfl, rfl, rfl, rfl, trivial⟩ ?_
        refine W.region ?_
        refine OpsW.det (det_addN (b := 1) rfl rfl (by rw [List.length_map, image_len] at hjl; have := hAc.many; omega)) rfl ?_
        refine OpsW.det (det_move rfl) rfl ?_
        refine sLast ?_
        exact rEnd (j + 1) hjl ⟨rfl, rfl, rfl, rfl, rfl, rfl, trivial⟩ (List.Sublist.refl _) (step_lt hjl)
      · skip
        refine sExit ?_
        refine xLoop ?_
        refine xHere ?_
        refine W.keep (F' := [(8, _), (9, _), (0, _)]) ⟨rfl, rfl, rfl, trivial⟩ ?_
        refine sSeq ?_
        refine W.region ?_
        refine OpsW.det (det_move rfl) rfl ?_
        refine OpsW.det (Det.to (det_eql rfl rfl) (congrArg Value.bool (rfl))) rfl ?_
        refine OpsW.det (det_move rfl) rfl ?_
        refine OpsW.guard_yes rfl rfl ?_
        refine OpsW.det (det_move rfl) rfl ?_
        refine OpsW.guard_yes rfl rfl ?_
        refine OpsW.det (det_move rfl) rfl ?_
        refine OpsW.guard_yes rfl rfl ?_
        refine OpsW.det (Det.to (det_call en16 rfl (fun w hb ho => same_ok (hBa.mono (fun p hp => List.mem_append_right _ hp)) ((Bs.own hsa hownr).mono (fun p hp => List.mem_append_left _ ((fun p hp => List.mem_append_right [] (List.mem_append_right _ (List.mem_append_right _ (List.mem_append_left _ hp)))) p hp))) (by omega) (blocks_app hb ho.blocks))) (congrArg Value.bool (decide_eq_true rfl))) rfl ?_
        refine OpsW.det (det_pick rfl rfl) rfl ?_
        refine OpsW.det (det_assign rfl) rfl ?_
        refine sNext ?_
        refine W.keep (F' := [(4, _)]) ⟨rfl, trivial⟩ ?_
        refine sRet ?_
        exact done1 Try.results6 (rv_tmp rfl) rfl

end Go.Dk
