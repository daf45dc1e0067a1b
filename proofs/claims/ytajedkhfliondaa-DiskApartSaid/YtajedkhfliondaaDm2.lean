/-
  A call that a test makes: the walk. Conditions: as many bytes as memory has.
-/
import Derived.Test.YtajedkhfliondaaDl5
namespace Go.Dk
open Go Go.Vm Go.RowKit Go.Proofs Go.Cu
attribute [local irreducible] W OpsW Det Fresh New Writes Vm.Pure Makes Changes ExternTo BuildTo ZeroTo FieldTo IndexTo BinTo SliceTo Vm.Enters
set_option linter.unusedVariables false
set_option linter.unusedSimpArgs false

/-- A call on a disk, as a test names it. -/
structure OT where
  kind : Int
  nm : Nm
  to : Nm
  data : List Nat
  n : Int
  keep : List Int
def doA (A : AD) (o : OT) : AD × List Nat × Nat :=
  if o.kind = 0 then ((append A o.nm o.data).1, [], (append A o.nm o.data).2) else if o.kind = 1 then ((sync A o.nm).1, [], (sync A o.nm).2) else if o.kind = 2 then ((cut A o.nm o.n).1, [], (cut A o.nm o.n).2) else
  if o.kind = 3 then ((move A o.nm o.to).1, [], (move A o.nm o.to).2) else if o.kind = 4 then ((drop A o.nm).1, [], (drop A o.nm).2) else if o.kind = 5 then (A, (readA A o.nm).1, (readA A o.nm).2) else
  if o.kind = 6 then (fuseTo A o.n, [], 0) else if o.kind = 7 then (crash A o.keep, [], 0) else (A, [], 0)
/-- What such a call hands back, and the disk behind it. -/
def DoIs (bD : Nat) (R : AD × List Nat × Nat) (v : Value) (H' : Hp) : Prop :=
  ∃ (ad : Option Addr) (cap : Nat) (hp Hx l : Hp), v = .tuple #[.slice ad R.2.1.length cap, .int .i64 (R.2.2 : Nat)] ∧ Own 5 ad R.2.1.length cap hp (bcells R.2.1) ∧ DiskIs bD R.1 Hx ∧ l.Perm (Hx ++ hp) ∧ l.Sublist H'
theorem do_none {bD : Nat} {A : AD} {e : Nat} {Hx H' : Hp} {R : AD × List Nat × Nat} (hR : R = (A, [], e)) (hD : DiskIs bD A Hx) (hs : Hx.Sublist H') : DoIs bD R (.tuple #[.slice none 0 0, .int .i64 (e : Nat)]) H' := by
  subst hR
  exact ⟨none, 0, [], Hx, Hx, rfl, .none (fun a h => by cases h), hD, by rw [List.append_nil], hs⟩
theorem ts32 : TyS Try.prog 32 3 1 8 [.int .i64 0] := ⟨by kernel_rfl, by kernel_rfl, by kernel_rfl, ⟨.int .i64 0, by kernel_rfl, by kernel_rfl⟩, rfl, by decide⟩
theorem slice32e : SliceTo Try.prog 32 0 [] [] 3 := SliceTo.of fun _ => by kernel_rfl
abbrev icells (l : List Int) : List Value := l.map (Value.int .i64)
theorem icells_one (l : List Int) : (icells l).all (·.oneCell') = true := by
  rw [List.all_eq_true]
  intro v hv
  obtain ⟨z, _, rfl⟩ := List.mem_map.1 hv
  rfl
theorem Ints.src {G' H G : Hp} {ad : Option Addr} {c : Nat} {l : List Int} {n : Nat} (hB : Ints G' (.slice ad n c) l) (hG : ∀ p ∈ G', p ∈ H ∨ p ∈ G) : Src H G ad n (icells l) := by
  obtain ⟨_, _, hv⟩ := hB.shape
  injection hv with h1 h2 h3
  subst h2
  refine ⟨by simp, ?_⟩
  rcases Nat.eq_zero_or_pos l.length with h0 | h0
  · exact .inl h0
  · obtain ⟨b, o, cap, cs, e, fr, hv, hm, hc⟩ := hB.all h0
    injection hv with h4 h5 h6
    refine .inr ⟨b, o, cs, e, fr, h4, hG _ hm, fun j u hj => ?_⟩
    have hjl : j < l.length := by
      have := List.getElem?_eq_some_iff.1 hj
      obtain ⟨h7, _⟩ := this
      simpa using h7
    rw [List.getElem?_map, List.getElem?_eq_getElem hjl] at hj
    have hj : Value.int .i64 l[j] = u := by simpa using hj
    rw [← hj]
    exact hc j hjl
theorem Ints.ownI {ad : Option Addr} {c : Nat} {hp : Hp} {l : List Int} (h : Own 3 ad l.length c hp (icells l)) : Ints hp (.slice ad l.length c) l := by
  refine ⟨⟨_, _, rfl⟩, fun h0 => ?_⟩
  obtain ⟨b, sp, rfl, rfl, _⟩ := own_pos h h0
  refine ⟨b, 0, c, _, 3, _, rfl, List.mem_singleton.2 rfl, fun i hi => ?_⟩
  rw [Nat.zero_add, List.getElem?_append_left (by simpa using hi), List.getElem?_map, List.getElem?_eq_getElem hi]
  rfl
theorem perm_nil {l : Hp} : ((l ++ []) ++ []).Perm l := by simp

theorem en38 : Vm.Enters Try.prog 38 := Vm.Enters.of fun _ _ => by kernel_rfl
theorem fl52_0 : TyF Try.prog 52 0 0 1 := ⟨⟨3, by kernel_rfl, by kernel_rfl⟩, by decide⟩
theorem fl52_1 : TyF Try.prog 52 1 1 1 := ⟨⟨9, by kernel_rfl, by kernel_rfl⟩, by decide⟩
theorem fl52_2 : TyF Try.prog 52 2 2 1 := ⟨⟨9, by kernel_rfl, by kernel_rfl⟩, by decide⟩
theorem fl52_3 : TyF Try.prog 52 3 3 1 := ⟨⟨22, by kernel_rfl, by kernel_rfl⟩, by decide⟩
theorem fl52_4 : TyF Try.prog 52 4 4 1 := ⟨⟨3, by kernel_rfl, by kernel_rfl⟩, by decide⟩
theorem fl52_5 : TyF Try.prog 52 5 5 1 := ⟨⟨32, by kernel_rfl, by kernel_rfl⟩, by decide⟩
theorem ty32 : TyC Try.prog 32 := ⟨by kernel_rfl, by kernel_rfl⟩
set_option maxHeartbeats 1000000 in
theorem do_ok {G' : Hp} {bD : Nat} {A : AD} {Hd : Hp} (hD : DiskIs bD A Hd) (hA : A.ok) (hst : A.steps < 4611686018427387904) {o : OT} (hnm : o.nm.length ≤ 9223372036854775807) (hto : o.to.length ≤ 9223372036854775807) {ad adk : Option Addr} {c ck : Nat} (hB : Bs G' (.slice ad o.data.length c) o.data) (hbl : o.data.length ≤ 140737488355328) (hK : Ints G' (.slice adk o.keep.length ck) o.keep) (hkl : o.keep.length * 8 ≤ 140737488355328) (hkr : ∀ z ∈ o.keep, -9223372036854775808 ≤ z ∧ z ≤ 9223372036854775807) {w : World} (hG : Blocks G' w) (hHd : Blocks Hd w) (hndH : (Hd.map (·.1)).Nodup) (hdis : ∀ p ∈ G', p.1 ∉ Hd.map (·.1)) : Changes Try.prog 26 #[dptr bD, (.agg [.int .i64 o.kind, sv o.nm, sv o.to, .slice ad o.data.length c, .int .i64 o.n, .slice adk o.keep.length ck].toArray)] w Hd (fun v H' => DoIs bD (doA A o) v H') := by
  refine changes_of_W (n := 84) (args := [dptr bD, (.agg [.int .i64 o.kind, sv o.nm, sv o.to, .slice ad o.data.length c, .int .i64 o.n, .slice adk o.keep.length ck].toArray)]) Try.func26 rfl Try.ntmps26 (Nat.le_of_ble_eq_true rfl) (fun p hp => ⟨hG p hp, hdis p hp⟩) hHd hndH ?_
  refine sStart ?_
  refine W.some (H' := Hd ++ []) (X := []) perm_nil ?_
  refine sSeq ?_
  refine W.region ?_
  refine OpsW.fresh (fr_box rfl rfl) rfl fun b3 => ?_
  refine OpsW.det (det_assign rfl) rfl ?_
  refine OpsW.det (det_assign rfl) rfl ?_
  refine sNext ?_
  refine W.keep (F' := [(3, _), (0, _)]) ⟨rfl, rfl, trivial⟩ ?_
  refine sSeq ?_
  refine W.region ?_
  refine OpsW.det (det_fieldAddr fl52_3 rfl) rfl ?_
  refine OpsW.det (det_loadC ty22 rfl (List.Mem.head _) rfl) rfl ?_
  refine OpsW.new (new_call en11 rfl (fun w hb ho => Copy_ok hB (by omega) ho.blocks)) rfl fun p11 hp11 => ?_
  refine OpsW.det (det_assign rfl) rfl ?_
  refine sNext ?_
  refine W.keep (F' := [(6, _), (3, _), (0, _)]) ⟨rfl, rfl, rfl, trivial⟩ ?_
  refine sSeq ?_
  refine W.region ?_
  refine OpsW.det (det_assign rfl) rfl ?_
  refine sNext ?_
  refine sSeq ?_
  refine sSeq ?_
  refine W.region ?_
  refine OpsW.det (det_fieldAddr fl52_0 rfl) rfl ?_
  refine OpsW.det (det_loadC ty3 rfl (List.Mem.tail _ (List.Mem.head _)) rfl) rfl ?_
  refine sNext ?_
  refine W.keep (F' := [(13, _), (7, _), (6, _), (3, _), (0, _)]) ⟨rfl, rfl, rfl, rfl, rfl, trivial⟩ ?_
  refine sBlock ?_
  refine sSeq ?_
  refine W.region ?_
  refine OpsW.det (det_eql rfl rfl) rfl ?_
  refine OpsW.det (det_assign rfl) rfl ?_
  refine sNext ?_
  refine W.keep (F' := [(14, _), (13, _), (7, _), (6, _), (3, _), (0, _)]) ⟨rfl, rfl, rfl, rfl, rfl, rfl, trivial⟩ ?_
  refine W.cond rfl (fun hc14 => ?_) (fun hc14 => ?_)
  · skip
    refine sSeq ?_
    refine W.region ?_
    refine OpsW.det (det_move rfl) rfl ?_
    refine OpsW.det (det_fieldAddr fl52_1 rfl) rfl ?_
    refine OpsW.det (det_loadC ty9 rfl (List.Mem.tail _ (List.Mem.head _)) rfl) rfl ?_
    refine OpsW.det (det_move rfl) rfl ?_
    refine OpsW.changeM (Hl := [(_, _), (_, _)]) (Hd := Hd) (Hr := []) en10 rfl (fun w hb hbn ho hbm => Append_ok hD hA hst hnm ((Bs.of (l := o.data) (spare := []) (e := 5) (fr := (0, 0)) hB.small (Nat.le_refl _)).mono (fun p hp => by rw [List.mem_singleton.1 hp]; exact (List.Mem.head _))) hbl (bl_left (Hl := [(_, _), (_, _)]) hb) (bl_mid (Hl := [(_, _), (_, _)]) hb) (nd_mid (Hl := [(_, _), (_, _)]) hbn) (nd_dis (Hl := [(_, _), (_, _)]) hbn)) rfl (fun v20 H20 hS20 => ?_)
    obtain ⟨hv20, hD2⟩ := hS20
    subst hv20
    refine OpsW.norm (H' := ((_, _) :: (_, _) :: (H20 ++ []))) rfl rfl ?_
    refine OpsW.det (det_assign rfl) rfl ?_
    refine sNext ?_
    refine W.keep (F' := [(7, _), (6, _)]) ⟨rfl, rfl, trivial⟩ ?_
    refine sSeq ?_
    refine W.region ?_
    refine OpsW.det (det_move rfl) rfl ?_
    refine OpsW.det (det_len u22 rfl) rfl ?_
    refine OpsW.det (det_move rfl) rfl ?_
    refine sNext ?_
    refine W.keep (F' := [(23, _), (22, _), (7, _), (6, _)]) ⟨rfl, rfl, rfl, rfl, trivial⟩ ?_
    refine sBlock ?_
    refine sLoop (σ := Nat × List Value) (fun s => [(23, .int .i64 (s.1 : Nat)), (22, .int .i64 (o.data.length : Nat)), (6, .slice (some ⟨p11.1, 0, none⟩) o.data.length o.data.length), (7, .int .i64 ((append A o.nm o.data).2 : Nat))]) (fun s => (p11.1, blk (s.2 ++ []) 5) :: (H20 ++ [])) (fun s => s.1 ≤ o.data.length ∧ s.2.length = o.data.length ∧ ∀ j (h : j < o.data.length), s.1 ≤ j → s.2[j]? = some (u8 o.data[j])) (fun s => o.data.length - s.1) (0, bcells o.data) ⟨Nat.zero_le _, bcells_length _, fun j h _ => by show (bcells o.data)[j]? = _; simp [bcells, h]⟩ ⟨rfl, rfl, rfl, rfl, trivial⟩ ((List.sublist_cons_self _ _).cons_cons _) ?_
    rintro ⟨i, ys⟩ ⟨hi, hyl, hys⟩
    change i ≤ o.data.length at hi
    change ys.length = o.data.length at hyl
    change ∀ j (h : j < o.data.length), i ≤ j → ys[j]? = some (u8 o.data[j]) at hys
    refine W.norm (F' := [(23, .int .i64 (i : Nat)), (22, .int .i64 (o.data.length : Nat)), (6, .slice (some ⟨p11.1, 0, none⟩) o.data.length o.data.length), (7, .int .i64 ((append A o.nm o.data).2 : Nat))]) (H' := (p11.1, blk (ys ++ []) 5) :: (H20 ++ [])) rfl rfl ?_
    refine sSeq ?_
    refine W.region ?_
    refine OpsW.det (det_lss rfl rfl) rfl ?_
    refine sNext ?_
    refine sSeq ?_
    refine W.cond rfl (fun hc24 => ?_) (fun hc24 => ?_)
    · skip
      have hlt : i < o.data.length := by have h := hc24; simp only [decide_eq_true_eq] at h; omega
      have hly : i < ys.length := by omega
      refine sSkip ?_
      refine sSeq ?_
      refine sBlock ?_
      refine sSeq ?_
      refine W.region ?_
      refine OpsW.det (det_move rfl) rfl ?_
      refine OpsW.det (det_assign rfl) rfl ?_
      refine sNext ?_
      refine W.keep (F' := [(8, _), (23, _), (22, _), (6, _), (7, _)]) ⟨rfl, rfl, rfl, rfl, rfl, trivial⟩ ?_
      refine W.region ?_
      refine OpsW.det (det_move rfl) rfl ?_
      refine OpsW.det (det_move rfl) rfl ?_
      refine OpsW.det (det_indexAddr_sl u22 sz5 rfl rfl ⟨by omega, by omega⟩) rfl ?_
      refine OpsW.det (det_loadC ty5 rfl (List.Mem.head _) (show (ys ++ [])[0 + ((i : Nat) : Int).toNat * 1]? = some (u8 o.data[i]) by rw [Int.toNat_natCast, Nat.mul_one, Nat.zero_add, List.append_nil]; exact hys i hlt (Nat.le_refl i))) rfl ?_
      refine OpsW.det (det_xor rfl rfl) rfl ?_
      refine OpsW.det (det_indexAddr_sl u22 sz5 rfl rfl ⟨by omega, by omega⟩) rfl ?_
      refine OpsW.store sz5 rfl rfl rfl rfl rfl (Upd.here) (spl_at hly) ?_
      refine sLast ?_
      refine bNext ?_
      refine W.keep (F' := [(23, _), (22, _), (6, _), (7, _)]) ⟨rfl, rfl, rfl, rfl, trivial⟩ ?_
      refine W.region ?_
      refine OpsW.det (det_addN (b := 1) rfl rfl (by omega)) rfl ?_
      refine OpsW.det (det_move rfl) rfl ?_
      refine sLast ?_
      exact rEnd (i + 1, ys.set i _) ⟨hlt, by show (ys.set i _).length = _; rw [List.length_set]; exact hyl, fun j h hij => by show (ys.set i _)[j]? = _; rw [List.getElem?_set_ne (show i ≠ j from by have h9 : i + 1 ≤ j := hij; omega)]; exact hys j h (by have h9 : i + 1 ≤ j := hij; omega)⟩ ⟨rfl, rfl, rfl, rfl, trivial⟩ (List.Sublist.refl _) (step_lt hlt)
    · skip
      refine sExit ?_
      refine xLoop ?_
      refine xHere0 ?_
      refine bNext ?_
      refine W.keep (F' := [(7, _)]) ⟨rfl, trivial⟩ ?_
      refine sSeq ?_
      refine W.region ?_
      refine OpsW.det (det_move rfl) rfl ?_
      refine OpsW.det (det_assign rfl) rfl ?_
      refine OpsW.det (det_assign rfl) rfl ?_
      refine sNext ?_
      refine W.keep (F' := [(5, _), (4, _)]) ⟨rfl, rfl, trivial⟩ ?_
      refine sRet ?_
      have he : doA A o = ((append A o.nm o.data).1, [], (append A o.nm o.data).2) := by unfold doA; rw [if_pos (eq_of_beq hc14)]
      exact done2 Try.results26 (rv_tmp rfl) (rv_tmp rfl) (do_none he hD2 (by exact ((List.sublist_append_left _ _).cons _)))
  · skip
    refine sSeq ?_
    refine W.region ?_
    refine OpsW.det (det_eql rfl rfl) rfl ?_
    refine OpsW.det (det_assign rfl) rfl ?_
    refine sNext ?_
    refine W.keep (F' := [(33, _), (13, _), (7, _), (3, _), (0, _)]) ⟨rfl, rfl, rfl, rfl, rfl, trivial⟩ ?_
    refine W.cond rfl (fun hc33 => ?_) (fun hc33 => ?_)
    · skip
      refine W.region ?_
      refine OpsW.det (det_move rfl) rfl ?_
      refine OpsW.det (det_fieldAddr fl52_1 rfl) rfl ?_
      refine OpsW.det (det_loadC ty9 rfl (List.Mem.tail _ (List.Mem.head _)) rfl) rfl ?_
      refine OpsW.changeM (Hl := [(_, _), (_, _)]) (Hd := Hd) (Hr := []) en12 rfl (fun w hb hbn ho hbm => Sync_ok hD hA hst hnm nob (bl_mid (Hl := [(_, _), (_, _)]) hb) (nd_mid (Hl := [(_, _), (_, _)]) hbn)) rfl (fun v38 H38 hS38 => ?_)
      obtain ⟨hv38, hD2⟩ := hS38
      subst hv38
      refine OpsW.norm (H' := ((_, _) :: (_, _) :: (H38 ++ []))) rfl rfl ?_
      refine OpsW.det (det_assign rfl) rfl ?_
      refine sLast ?_
      refine bNext ?_
      refine W.keep (F' := [(7, _)]) ⟨rfl, trivial⟩ ?_
      refine sSeq ?_
      refine W.region ?_
      refine OpsW.det (det_move rfl) rfl ?_
      refine OpsW.det (det_assign rfl) rfl ?_
      refine OpsW.det (det_assign rfl) rfl ?_
      refine sNext ?_
      refine W.keep (F' := [(5, _), (4, _)]) ⟨rfl, rfl, trivial⟩ ?_
      refine sRet ?_
      have he : doA A o = ((sync A o.nm).1, [], (sync A o.nm).2) := by unfold doA; rw [if_neg (ne_of_beq_false hc14), if_pos (eq_of_beq hc33)]
      exact done2 Try.results26 (rv_tmp rfl) (rv_tmp rfl) (do_none he hD2 (by exact ((List.sublist_append_left _ _).cons _).cons _))
    · skip
      refine sSeq ?_
      refine W.region ?_
      refine OpsW.det (det_eql rfl rfl) rfl ?_
      refine OpsW.det (det_assign rfl) rfl ?_
      refine sNext ?_
      refine W.keep (F' := [(39, _), (13, _), (7, _), (3, _), (0, _)]) ⟨rfl, rfl, rfl, rfl, rfl, trivial⟩ ?_
      refine W.cond rfl (fun hc39 => ?_) (fun hc39 => ?_)
      · skip
        refine W.region ?_
        refine OpsW.det (det_move rfl) rfl ?_
        refine OpsW.det (det_fieldAddr fl52_1 rfl) rfl ?_
        refine OpsW.det (det_loadC ty9 rfl (List.Mem.tail _ (List.Mem.head _)) rfl) rfl ?_
        refine OpsW.det (det_fieldAddr fl52_4 rfl) rfl ?_
        refine OpsW.det (det_loadC ty3 rfl (List.Mem.tail _ (List.Mem.head _)) rfl) rfl ?_
        refine OpsW.changeM (Hl := [(_, _), (_, _)]) (Hd := Hd) (Hr := []) en21 rfl (fun w hb hbn ho hbm => Cut_ok hD hA hst hnm nob (bl_mid (Hl := [(_, _), (_, _)]) hb) (nd_mid (Hl := [(_, _), (_, _)]) hbn)) rfl (fun v46 H46 hS46 => ?_)
        obtain ⟨hv46, hD2⟩ := hS46
        subst hv46
        refine OpsW.norm (H' := ((_, _) :: (_, _) :: (H46 ++ []))) rfl rfl ?_
        refine OpsW.det (det_assign rfl) rfl ?_
        refine sLast ?_
        refine bNext ?_
        refine W.keep (F' := [(7, _)]) ⟨rfl, trivial⟩ ?_
        refine sSeq ?_
        refine W.region ?_
        refine OpsW.det (det_move rfl) rfl ?_
        refine OpsW.det (det_assign rfl) rfl ?_
        refine OpsW.det (det_assign rfl) rfl ?_
        refine sNext ?_
        refine W.keep (F' := [(5, _), (4, _)]) ⟨rfl, rfl, trivial⟩ ?_
        refine sRet ?_
        have he : doA A o = ((cut A o.nm o.n).1, [], (cut A o.nm o.n).2) := by unfold doA; rw [if_neg (ne_of_beq_false hc14), if_neg (ne_of_beq_false hc33), if_pos (eq_of_beq hc39)]
        exact done2 Try.results26 (rv_tmp rfl) (rv_tmp rfl) (do_none he hD2 (by exact ((List.sublist_append_left _ _).cons _).cons _))
      · skip
        refine sSeq ?_
        refine W.region ?_
        refine OpsW.det (det_eql rfl rfl) rfl ?_
        refine OpsW.det (det_assign rfl) rfl ?_
        refine sNext ?_
        refine W.keep (F' := [(47, _), (13, _), (7, _), (3, _), (0, _)]) ⟨rfl, rfl, rfl, rfl, rfl, trivial⟩ ?_
        refine W.cond rfl (fun hc47 => ?_) (fun hc47 => ?_)
        · skip
          refine W.region ?_
          refine OpsW.det (det_move rfl) rfl ?_
          refine OpsW.det (det_fieldAddr fl52_1 rfl) rfl ?_
          refine OpsW.det (det_loadC ty9 rfl (List.Mem.tail _ (List.Mem.head _)) rfl) rfl ?_
          refine OpsW.det (det_fieldAddr fl52_2 rfl) rfl ?_
          refine OpsW.det (det_loadC ty9 rfl (List.Mem.tail _ (List.Mem.head _)) rfl) rfl ?_
          refine OpsW.changeM (Hl := [(_, _), (_, _)]) (Hd := Hd) (Hr := []) en38 rfl (fun w hb hbn ho hbm => Move_ok hD hA hst hnm hto nob (bl_mid (Hl := [(_, _), (_, _)]) hb) (nd_mid (Hl := [(_, _), (_, _)]) hbn)) rfl (fun v54 H54 hS54 => ?_)
          obtain ⟨hv54, hD2⟩ := hS54
          subst hv54
          refine OpsW.norm (H' := ((_, _) :: (_, _) :: (H54 ++ []))) rfl rfl ?_
          refine OpsW.det (det_assign rfl) rfl ?_
          refine sLast ?_
          refine bNext ?_
          refine W.keep (F' := [(7, _)]) ⟨rfl, trivial⟩ ?_
          refine sSeq ?_
          refine W.region ?_
          refine OpsW.det (det_move rfl) rfl ?_
          refine OpsW.det (det_assign rfl) rfl ?_
          refine OpsW.det (det_assign rfl) rfl ?_
          refine sNext ?_
          refine W.keep (F' := [(5, _), (4, _)]) ⟨rfl, rfl, trivial⟩ ?_
          refine sRet ?_
          have he : doA A o = ((move A o.nm o.to).1, [], (move A o.nm o.to).2) := by unfold doA; rw [if_neg (ne_of_beq_false hc14), if_neg (ne_of_beq_false hc33), if_neg (ne_of_beq_false hc39), if_pos (eq_of_beq hc47)]
          exact done2 Try.results26 (rv_tmp rfl) (rv_tmp rfl) (do_none he hD2 (by exact ((List.sublist_append_left _ _).cons _).cons _))
        · skip
          refine sSeq ?_
          refine W.region ?_
          refine OpsW.det (det_eql rfl rfl) rfl ?_
          refine OpsW.det (det_assign rfl) rfl ?_
          refine sNext ?_
          refine W.keep (F' := [(55, _), (13, _), (7, _), (3, _), (0, _)]) ⟨rfl, rfl, rfl, rfl, rfl, trivial⟩ ?_
          refine W.cond rfl (fun hc55 => ?_) (fun hc55 => ?_)
          · skip
            refine W.region ?_
            refine OpsW.det (det_move rfl) rfl ?_
            refine OpsW.det (det_fieldAddr fl52_1 rfl) rfl ?_
            refine OpsW.det (det_loadC ty9 rfl (List.Mem.tail _ (List.Mem.head _)) rfl) rfl ?_
            refine OpsW.changeM (Hl := [(_, _), (_, _)]) (Hd := Hd) (Hr := []) en20 rfl (fun w hb hbn ho hbm => Drop_ok hD hA hst hnm nob (bl_mid (Hl := [(_, _), (_, _)]) hb) (nd_mid (Hl := [(_, _), (_, _)]) hbn)) rfl (fun v60 H60 hS60 => ?_)
            obtain ⟨hv60, hD2⟩ := hS60
            subst hv60
            refine OpsW.norm (H' := ((_, _) :: (_, _) :: (H60 ++ []))) rfl rfl ?_
            refine OpsW.det (det_assign rfl) rfl ?_
            refine sLast ?_
            refine bNext ?_
            refine W.keep (F' := [(7, _)]) ⟨rfl, trivial⟩ ?_
            refine sSeq ?_
            refine W.region ?_
            refine OpsW.det (det_move rfl) rfl ?_
            refine OpsW.det (det_assign rfl) rfl ?_
            refine OpsW.det (det_assign rfl) rfl ?_
            refine sNext ?_
            refine W.keep (F' := [(5, _), (4, _)]) ⟨rfl, rfl, trivial⟩ ?_
            refine sRet ?_
            have he : doA A o = ((drop A o.nm).1, [], (drop A o.nm).2) := by unfold doA; rw [if_neg (ne_of_beq_false hc14), if_neg (ne_of_beq_false hc33), if_neg (ne_of_beq_false hc39), if_neg (ne_of_beq_false hc47), if_pos (eq_of_beq hc55)]
            exact done2 Try.results26 (rv_tmp rfl) (rv_tmp rfl) (do_none he hD2 (by exact ((List.sublist_append_left _ _).cons _).cons _))
          · skip
            refine sSeq ?_
            refine W.region ?_
            refine OpsW.det (det_eql rfl rfl) rfl ?_
            refine OpsW.det (det_assign rfl) rfl ?_
            refine sNext ?_
            refine W.keep (F' := [(61, _), (13, _), (7, _), (3, _), (0, _)]) ⟨rfl, rfl, rfl, rfl, rfl, trivial⟩ ?_
            refine W.cond rfl (fun hc61 => ?_) (fun hc61 => ?_)
            · skip
              refine sSeq ?_
              refine W.region ?_
              refine OpsW.det (det_move rfl) rfl ?_
              refine OpsW.det (det_fieldAddr fl52_1 rfl) rfl ?_
              refine OpsW.det (det_loadC ty9 rfl (List.Mem.tail _ (List.Mem.head _)) rfl) rfl ?_
              refine OpsW.change (Hf := []) en15 rfl (fun w hb hbn ho hbm => Read_d hD hA hnm (bl_mid (Hl := [(_, _), (_, _)]) hb)) rfl (fun v66 H66 hS66 => ?_)
              obtain ⟨adr, capr, hpr, nr, hvr, hnr, hownr, hsubr⟩ := hS66
              subst hvr
              subst hnr
              refine OpsW.tuck (Hl := [(_, _), (_, _)]) (Hd := Hd) (Hr := []) (hp := hpr) hsubr ?_
              refine OpsW.norm (H' := ((_, _) :: (_, _) :: (Hd ++ (hpr ++ [])))) rfl rfl ?_
              refine OpsW.det (det_extract rfl rfl) rfl ?_
              refine OpsW.det (det_extract rfl rfl) rfl ?_
              refine OpsW.det (det_assign rfl) rfl ?_
              refine OpsW.det (det_assign rfl) rfl ?_
              refine sNext ?_
              refine W.keep (F' := [(5, _), (4, _)]) ⟨rfl, rfl, trivial⟩ ?_
              refine sRet ?_
              refine retBlk ?_
              have he : doA A o = (A, (readA A o.nm).1, (readA A o.nm).2) := by unfold doA; rw [if_neg (ne_of_beq_false hc14), if_neg (ne_of_beq_false hc33), if_neg (ne_of_beq_false hc39), if_neg (ne_of_beq_false hc47), if_neg (ne_of_beq_false hc55), if_pos (eq_of_beq hc61)]
              exact done2 Try.results26 (rv_tmp rfl) (rv_tmp rfl) (by rw [he]; exact ⟨adr, capr, hpr, Hd, Hd ++ hpr, rfl, hownr, hD, List.Perm.refl _, ((by rw [← List.append_assoc]; exact List.sublist_append_left _ _ : (Hd ++ hpr).Sublist (Hd ++ (hpr ++ []))).cons _).cons _⟩)
            · skip
              refine sSeq ?_
              refine W.region ?_
              refine OpsW.det (det_eql rfl rfl) rfl ?_
              refine OpsW.det (det_assign rfl) rfl ?_
              refine sNext ?_
              refine W.keep (F' := [(69, _), (13, _), (7, _), (3, _), (0, _)]) ⟨rfl, rfl, rfl, rfl, rfl, trivial⟩ ?_
              refine W.cond rfl (fun hc69 => ?_) (fun hc69 => ?_)
              · skip
                refine W.region ?_
                refine OpsW.det (det_move rfl) rfl ?_
                refine OpsW.det (det_fieldAddr fl52_4 rfl) rfl ?_
                refine OpsW.det (det_loadC ty3 rfl (List.Mem.tail _ (List.Mem.head _)) rfl) rfl ?_
                refine OpsW.changeM (Hl := [(_, _), (_, _)]) (Hd := Hd) (Hr := []) en13 rfl (fun w hb hbn ho hbm => Fuse_ok hD hA hst nob (bl_mid (Hl := [(_, _), (_, _)]) hb) (nd_mid (Hl := [(_, _), (_, _)]) hbn)) rfl (fun v74 H74 hS74 => ?_)
                obtain ⟨hv74, hD2⟩ := hS74
                subst hv74
                refine OpsW.norm (H' := ((_, _) :: (_, _) :: (H74 ++ []))) rfl rfl ?_
                refine sLast ?_
                refine bNext ?_
                refine W.keep (F' := [(7, _)]) ⟨rfl, trivial⟩ ?_
                refine sSeq ?_
                refine W.region ?_
                refine OpsW.det (det_move rfl) rfl ?_
                refine OpsW.det (det_assign rfl) rfl ?_
                refine OpsW.det (det_assign rfl) rfl ?_
                refine sNext ?_
                refine W.keep (F' := [(5, _), (4, _)]) ⟨rfl, rfl, trivial⟩ ?_
                refine sRet ?_
                have he : doA A o = (fuseTo A o.n, [], 0) := by unfold doA; rw [if_neg (ne_of_beq_false hc14), if_neg (ne_of_beq_false hc33), if_neg (ne_of_beq_false hc39), if_neg (ne_of_beq_false hc47), if_neg (ne_of_beq_false hc55), if_neg (ne_of_beq_false hc61), if_pos (eq_of_beq hc69)]
                exact done2 Try.results26 (rv_tmp rfl) (rv_tmp rfl) (do_none he hD2 (by exact ((List.sublist_append_left _ _).cons _).cons _))
              · skip
                refine sSeq ?_
                refine W.region ?_
                refine OpsW.det (det_eql rfl rfl) rfl ?_
                refine OpsW.det (det_assign rfl) rfl ?_
                refine sNext ?_
                refine W.keep (F' := [(75, _), (7, _), (3, _), (0, _)]) ⟨rfl, rfl, rfl, rfl, trivial⟩ ?_
                refine W.cond rfl (fun hc75 => ?_) (fun hc75 => ?_)
                · skip
                  refine W.region ?_
                  refine OpsW.det (det_move rfl) rfl ?_
                  refine OpsW.fresh (fr_buildSlice rfl slice32e) rfl fun b78 => ?_
                  refine OpsW.det (det_fieldAddr fl52_5 rfl) rfl ?_
                  refine OpsW.det (det_loadC ty32 rfl (List.Mem.tail _ (List.Mem.tail _ (List.Mem.head _))) rfl) rfl ?_
                  refine OpsW.appendOwn (hp := [(b78, blk ([] ++ []) 3)]) (xs := []) (len := 0) (cap := 0) ts32 rfl (.at_ rfl (Nat.le_refl _) (Nat.le_refl _) (by decide)) rfl (Ints.src hK (fun p hp => .inr hp)) (icells_one o.keep) (by show 0 + o.keep.length ≤ 9223372036854775807; omega) (by omega) rfl (fun ad81 cap81 hp81 hown81 => ?_)
                  rw [Nat.zero_add, List.nil_append] at hown81
                  rw [Nat.zero_add]
                  refine OpsW.tuck (Hl := [(_, _), (_, _)]) (Hd := Hd) (Hr := []) (hp := hp81) (List.Sublist.refl _) ?_
                  have hK81 := Ints.ownI hown81
                  refine OpsW.changeM (Hl := [(_, _), (_, _)]) (Hd := Hd) (Hr := (hp81 ++ [])) en14 rfl (fun w hb hbn ho hbm => Crash_ok hD hA hst (hK81.mono (fun p hp => List.mem_append_left _ hp)) (by omega) hkr (bl_right (Hl := [(_, _), (_, _)]) hb) (bl_mid (Hl := [(_, _), (_, _)]) hb) (nd_mid (Hl := [(_, _), (_, _)]) hbn) (nd_disr (Hl := [(_, _), (_, _)]) hbn)) rfl (fun v82 H82 hS82 => ?_)
                  obtain ⟨hv82, hD2⟩ := hS82
                  subst hv82
                  refine OpsW.norm (H' := ((_, _) :: (_, _) :: (H82 ++ (hp81 ++ [])))) rfl rfl ?_
                  refine sLast ?_
                  refine bNext ?_
                  refine W.keep (F' := [(7, _)]) ⟨rfl, trivial⟩ ?_
                  refine sSeq ?_
                  refine W.region ?_
                  refine OpsW.det (det_move rfl) rfl ?_
                  refine OpsW.det (det_assign rfl) rfl ?_
                  refine OpsW.det (det_assign rfl) rfl ?_
                  refine sNext ?_
                  refine W.keep (F' := [(5, _), (4, _)]) ⟨rfl, rfl, trivial⟩ ?_
                  refine sRet ?_
                  have he : doA A o = (crash A o.keep, [], 0) := by unfold doA; rw [if_neg (ne_of_beq_false hc14), if_neg (ne_of_beq_false hc33), if_neg (ne_of_beq_false hc39), if_neg (ne_of_beq_false hc47), if_neg (ne_of_beq_false hc55), if_neg (ne_of_beq_false hc61), if_neg (ne_of_beq_false hc69), if_pos (eq_of_beq hc75)]
                  exact done2 Try.results26 (rv_tmp rfl) (rv_tmp rfl) (do_none he hD2 (by exact ((List.sublist_append_left _ _).cons _).cons _))
                · skip
                  refine sSkip0 ?_
                  refine bNext ?_
                  refine W.keep (F' := [(7, _)]) ⟨rfl, trivial⟩ ?_
                  refine sSeq ?_
                  refine W.region ?_
                  refine OpsW.det (det_move rfl) rfl ?_
                  refine OpsW.det (det_assign rfl) rfl ?_
                  refine OpsW.det (det_assign rfl) rfl ?_
                  refine sNext ?_
                  refine W.keep (F' := [(5, _), (4, _)]) ⟨rfl, rfl, trivial⟩ ?_
                  refine sRet ?_
                  have he : doA A o = (A, [], 0) := by unfold doA; rw [if_neg (ne_of_beq_false hc14), if_neg (ne_of_beq_false hc33), if_neg (ne_of_beq_false hc39), if_neg (ne_of_beq_false hc47), if_neg (ne_of_beq_false hc55), if_neg (ne_of_beq_false hc61), if_neg (ne_of_beq_false hc69), if_neg (ne_of_beq_false hc75)]
                  exact done2 Try.results26 (rv_tmp rfl) (rv_tmp rfl) (do_none he hD (by exact ((List.sublist_append_left _ _).cons _).cons _))

end Go.Dk
