/-
  What a disk hands out is nobody's but the caller's: the walk. Conditions: as many bytes as memory has.
-/
import Derived.Test.YtajedkhfliondaaDl4
import Derived.Test.YtajedkhfliondaaDm1
namespace Go.Dk
open Go Go.Vm Go.RowKit Go.Proofs Go.Cu
attribute [local irreducible] W OpsW Det Fresh New Writes Vm.Pure Makes Changes ExternTo BuildTo ZeroTo FieldTo IndexTo BinTo SliceTo Vm.Enters
set_option linter.unusedVariables false
set_option linter.unusedSimpArgs false

theorem bld46b {s : ByteArray} {ad : Option Addr} {n c : Nat} : BuildTo Try.prog 46 [(0, .string s), (1, .slice ad n c)] (.agg [.string s, .slice ad n c, .int .i64 0].toArray) := BuildTo.of fun _ => by kernel_rfl
theorem Fa.one {G' : Hp} {b e : Nat} {fr : Nat × Nat} {s : Nm} {ad : Option Addr} {c : Nat} {x : List Nat} {k : Int} (hm : (b, Obj.cells [sv s, .slice ad x.length c, .int .i64 k].toArray e fr) ∈ G') (hb : Bs G' (.slice ad x.length c) x) : Fa G' (.slice (some ⟨b, 0, none⟩) 1 1) [(s, x, k)] := by
  refine ⟨⟨_, _, rfl⟩, fun i hi => ?_⟩
  have : i = 0 := by simpa using hi
  subst this
  exact ⟨b, 0, 1, _, e, fr, ad, x.length, c, rfl, hm, rfl, rfl, rfl, hb⟩
theorem mount_one {s : Nm} {a : List Nat} {k : Int} (hs : right s = true) : mountA k [(s, a, 0)] = (⟨[⟨s, a, 0⟩], (fresh k).room, 0, 0, false⟩, 0) := by
  have hI : mounts [] [(s, a, 0)] = ([⟨s, a, 0⟩], 0) := by
    have h0 : mbad [] (s, a, (0 : Int)) = 0 := bad0 hs rfl (by simp) (by simp)
    unfold mounts
    rw [if_neg (by rw [h0]; simp)]
    rfl
  exact mount_done (by simp) hI (by rw [total_one]; simp)
theorem wsum_perm {l m : Hp} (h : l.Perm m) (F : Nat × Obj → Nat) : wsum F l = wsum F m := by
  induction h with
  | nil => rfl
  | cons x _ ih => simp only [wsum, ih]
  | swap x y l => simp only [wsum]; omega
  | trans _ _ h1 h2 => exact h1.trans h2
theorem files_one {v : Value} {x : Fl} {H : Hp} (h : FilesIs v [x] H) : ∃ (b cap : Nat) (sp : List Value) (ad : Option Addr) (c : Nat) (hp l : Hp), v = .slice (some ⟨b, 0, none⟩) 1 cap ∧ Own 5 ad x.data.length c hp (bcells x.data) ∧
    l.Perm ((b, blk ([sv x.nm, .slice ad x.data.length c, .int .i64 (x.safe : Nat)] ++ sp) 46) :: hp) ∧ l.Sublist H := by
  obtain ⟨Fs, hpo, l, hsl, hok, hfs, hp, hsub⟩ := h
  match Fs, hfs with
  | [f], hfs =>
    have hx : f.fl = x := by simpa using hfs
    subst hx
    obtain ⟨b, cap, sp, rfl, rfl, h1, h2⟩ := isSl_pos hsl (by simp)
    refine ⟨b, cap, sp, f.ad, f.cap, f.hp, l, rfl, hok f (by simp), ?_, hsub⟩
    have : fhp [f] = f.hp := by simp [fhp]
    rw [this] at hp
    exact hp
  | [], hfs => simp at hfs
  | _ :: _ :: _, hfs => simp at hfs
theorem image_one {x : Fl} : image [x] = [x] := by
  unfold image; rw [names_one]
  simp only [List.map_cons, List.map_nil]
  congr 1
  unfold getF fnd
  simp
theorem ok_big {s : Nm} {d : List Nat} {k room st fu : Nat} {dn : Bool} (h1 : k ≤ d.length) (h2 : d.length ≤ bigRoom) (h3 : ∀ c ∈ d, c < 256) (h4 : k ≤ room) (h5 : room ≤ maxRoom) (h6 : fu ≤ 9223372036854775807) : AD.ok ⟨[⟨s, d, k⟩], room, st, fu, dn⟩ := by
  refine ⟨by simp, fun f hf => ?_, fun f hf => ?_, fun f hf => ?_, by show total [⟨s, d, k⟩] ≤ room; rw [total_one]; exact h4, h5, by show 1 ≤ 32; decide, h6⟩
  all_goals
    rw [List.mem_singleton.1 hf]
    assumption
theorem own_pos {el : TypeId} {ad : Option Addr} {n cap : Nat} {hp : Hp} {xs : List Value} (h : Own el ad n cap hp xs) (hn : 0 < n) : ∃ b sp, ad = some ⟨b, 0, .none⟩ ∧ hp = [(b, blk (xs ++ sp) el)] ∧ ∀ ys : List Value, ys.length = n → Own el (some ⟨b, 0, .none⟩) n cap [(b, blk (ys ++ sp) el)] ys := by
  cases h with
  | none => omega
  | @at_ b _ _ _ sp h0 h1 h2 h3 => exact ⟨b, sp, rfl, rfl, fun ys hy => .at_ hy h1 (by simp only [List.length_append] at h2 ⊢; omega) h3⟩
theorem splice_in {v : Value} {sp : List Value} : ∀ {xs : List Value} {i : Nat}, i < xs.length → splice i [v] (xs ++ sp) = some (xs.set i v ++ sp)
  | x :: xs, 0, h => rfl
  | x :: xs, i + 1, h => by
    have := splice_in (v := v) (sp := sp) (xs := xs) (i := i) (Nat.lt_of_succ_lt_succ h)
    show splice (i + 1) [v] (x :: (xs ++ sp)) = some (x :: (xs.set i v ++ sp))
    unfold splice
    rw [this]
theorem spl_at {v : Value} {sp xs : List Value} {i : Nat} (h : i < xs.length) : splice (0 + ((i : Nat) : Int).toNat * 1) [v] (xs ++ sp) = some (xs.set i v ++ sp) := by
  rw [Int.toNat_natCast, Nat.mul_one, Nat.zero_add]; exact splice_in h

theorem en22 : Vm.Enters Try.prog 22 := Vm.Enters.of fun _ _ => by kernel_rfl
theorem en24 : Vm.Enters Try.prog 24 := Vm.Enters.of fun _ _ => by kernel_rfl
theorem en25 : Vm.Enters Try.prog 25 := Vm.Enters.of fun _ _ => by kernel_rfl
theorem DiskOwn_ok {G' : Hp} {va : Value} {a : List Nat} (hBa : Bs G' va a) (hla : a.length ≤ 140737488355328) {z : Int} {w : World} (hG : Blocks G' w)  : Vm.Pure Try.prog 5 #[va, .int .u8 z] w (.bool true) := by
  obtain ⟨ada, ca, hva⟩ := hBa.shape
  have hsa := hBa.small
  refine pure_of_W (n := 127) (args := [va, .int .u8 z]) Try.func5 rfl Try.ntmps5 (Nat.le_of_ble_eq_true rfl) hG ?_
  refine sStart ?_
  refine sSeq ?_
  subst hva
  refine W.region ?_
  refine OpsW.det (det_assign rfl) rfl ?_
  refine sNext ?_
  refine W.keep (F' := [(0, _), (1, _)]) ⟨rfl, rfl, trivial⟩ ?_
  refine sSeq ?_
  refine sSeq ?_
  refine W.region ?_
  refine OpsW.det (Det.to (det_call en9 rfl (fun w hb ho => head17_ok nob)) (congrArg Value.bool (rfl))) rfl ?_
  refine OpsW.det (det_not rfl) rfl ?_
  refine sNext ?_
  refine W.keep (F' := [(18, _), (0, _), (1, _)]) ⟨rfl, rfl, rfl, trivial⟩ ?_
  refine W.cond_false rfl ?_
  refine sSkip ?_
  refine sSeq ?_
  refine W.region ?_
  refine OpsW.det (det_move rfl) rfl ?_
  refine OpsW.new (new_call en11 rfl (fun w hb ho => Copy_ok hBa (by omega) ho.blocks)) rfl fun p21 hp21 => ?_
  refine OpsW.det (det_build rfl bld46b) rfl ?_
  refine OpsW.fresh (fr_buildSlice rfl (slice38 (s := [97]))) rfl fun b23 => ?_
  refine OpsW.change (Hf := []) en22 rfl (fun w hb hbn ho hbm => Mount_ok (k := 1000000) (L := [([97], a, 0)]) (Fa.one (s := [97]) (x := a) (k := 0) (List.Mem.head _) ((Bs.of (l := a) (spare := []) (e := 5) (fr := (0, 0)) hsa (Nat.le_refl _)).mono (fun p hp => by rw [List.mem_singleton.1 hp]; exact (List.Mem.tail _ (List.Mem.head _))))) (fun x hx => by rw [List.mem_singleton.1 hx]; show 1 ≤ 9223372036854775807; omega) (fun x hx => by rw [List.mem_singleton.1 hx]; exact hla) hb) rfl (fun v24 H24 hS24 => ?_)
  rcases hS24 with ⟨hne, _⟩ | ⟨_, bD, rfl, hD1⟩
  · exact absurd (by rw [mount_one (by decide)]) hne
  rw [mount_one (by decide)] at hD1
  refine OpsW.lessH (H' := H24 ++ []) ((List.nil_sublist _).append_left _) ?_
  refine OpsW.norm (H' := ((H24 ++ []))) rfl rfl ?_
  refine OpsW.det (det_move rfl) rfl ?_
  refine OpsW.det (det_extract rfl rfl) rfl ?_
  refine OpsW.det (det_extract rfl rfl) rfl ?_
  refine OpsW.det (det_assign rfl) rfl ?_
  refine OpsW.det (det_assign rfl) rfl ?_
  refine sNext ?_
  refine W.keep (F' := [(6, _), (5, _), (0, _), (1, _)]) ⟨rfl, rfl, rfl, rfl, trivial⟩ ?_
  refine sSeq ?_
  refine sSeq ?_
  refine W.region ?_
  refine OpsW.det (det_move rfl) rfl ?_
  refine OpsW.det (Det.to (det_neq rfl rfl) (congrArg Value.bool (rfl))) rfl ?_
  refine OpsW.det (det_move rfl) rfl ?_
  refine OpsW.guard_yes rfl rfl ?_
  refine OpsW.det (det_move rfl) rfl ?_
  refine OpsW.guard_yes rfl rfl ?_
  refine OpsW.det (Det.to (det_nilPtr u23 rfl rfl) (congrArg Value.bool (rfl))) rfl ?_
  refine OpsW.det (det_pick rfl rfl) rfl ?_
  refine sNext ?_
  refine W.keep (F' := [(32, _), (5, _), (0, _), (1, _)]) ⟨rfl, rfl, rfl, rfl, trivial⟩ ?_
  refine W.cond_false rfl ?_
  refine sSkip ?_
  refine sSeq ?_
  refine W.region ?_
  refine OpsW.det (det_move rfl) rfl ?_
  refine OpsW.change (Hf := []) en15 rfl (fun w hb hbn ho hbm => Read_d hD1 (ok_big (Nat.zero_le _) (by show a.length ≤ 140737488355328; omega) hsa (Nat.zero_le _) (fresh_room _) (by omega)) (by decide) (bl_mid (Hl := []) hb)) rfl (fun v35 H35 hS35 => ?_)
  obtain ⟨adr, capr, hpr, nr, hvr, hnr, hownr, hsubr⟩ := hS35
  rw [readA_one (s := [97]) (by decide)] at hvr hnr hownr
  dsimp only at hvr hnr hownr
  subst hvr
  subst hnr
  refine OpsW.tuck (Hl := []) (Hd := H24) (Hr := []) (hp := hpr) hsubr ?_
  refine OpsW.norm (H' := ((H24 ++ (hpr ++ [])))) rfl rfl ?_
  refine OpsW.det (det_move rfl) rfl ?_
  refine OpsW.det (det_extract rfl rfl) rfl ?_
  refine OpsW.det (det_extract rfl rfl) rfl ?_
  refine OpsW.det (det_assign rfl) rfl ?_
  refine OpsW.det (det_assign rfl) rfl ?_
  refine sNext ?_
  refine W.keep (F' := [(7, _), (5, _), (0, _), (1, _)]) ⟨rfl, rfl, rfl, rfl, trivial⟩ ?_
  refine sSeq ?_
  refine W.region ?_
  refine OpsW.det (det_move rfl) rfl ?_
  refine OpsW.change (Hf := []) en18 rfl (fun w hb hbn ho hbm => Image_d hD1 (ok_big (Nat.zero_le _) (by show a.length ≤ 140737488355328; omega) hsa (Nat.zero_le _) (fresh_room _) (by omega)) (bl_mid (Hl := []) hb)) rfl (fun v39 H39 hS39 => ?_)
  rw [image_one] at hS39
  obtain ⟨bI, capI, spI, adI, cI, hpI, Xi, hvI, hownI, hXi, hxsi⟩ := files_one hS39
  subst hvI
  refine OpsW.tuck (Hl := []) (Hd := H24) (Hr := (hpr ++ [])) (hp := Xi) hxsi ?_
  refine OpsW.some (H' := (bI, blk ([sv [97], .slice adI a.length cI, .int .i64 ((0 : Nat) : Int)] ++ spI) 46) :: (H24 ++ (hpI ++ (hpr ++ [])))) (X := []) (perm_of fun F => by have hq := wsum_perm hXi F; simp only [wsum_app, wsum] at hq ⊢; omega) ?_
  refine OpsW.norm (H' := ((_, _) :: (H24 ++ (hpI ++ (hpr ++ []))))) rfl rfl ?_
  refine OpsW.det (det_assign rfl) rfl ?_
  refine sNext ?_
  refine W.keep (F' := [(9, _), (7, _), (5, _), (0, _), (1, _)]) ⟨rfl, rfl, rfl, rfl, rfl, trivial⟩ ?_
  refine sSeq ?_
  refine sSeq ?_
  refine W.region ?_
  refine OpsW.det (det_move rfl) rfl ?_
  refine OpsW.det (det_len u22 rfl) rfl ?_
  refine OpsW.det (det_move rfl) rfl ?_
  refine sNext ?_
  refine W.keep (F' := [(42, _), (41, _), (9, _), (7, _), (5, _), (0, _), (1, _)]) ⟨rfl, rfl, rfl, rfl, rfl, rfl, rfl, trivial⟩ ?_
  refine sBlock ?_
  refine sLoop (σ := Nat × Hp) (fun s => [(42, .int .i64 (s.1 : Nat)), (41, .int .i64 (a.length : Nat)), (7, .slice adr a.length capr), (9, .slice (some ⟨bI, 0, none⟩) 1 capI), (1, .int .u8 z), (5, dptr bD), (0, .slice ada a.length ca)]) (fun s => (bI, blk ([sv [97], .slice adI a.length cI, .int .i64 ((0 : Nat) : Int)] ++ spI) 46) :: (H24 ++ (hpI ++ (s.2 ++ [])))) (fun s => s.1 ≤ a.length ∧ ∃ xs, Own 5 adr a.length capr s.2 xs) (fun s => a.length - s.1) (0, hpr) ⟨Nat.zero_le _, _, hownr⟩ ⟨rfl, rfl, rfl, rfl, rfl, rfl, rfl, trivial⟩ (List.Sublist.refl _) ?_
  rintro ⟨i, hp1⟩ ⟨hi, xs, hO⟩
  change i ≤ a.length at hi
  change Own 5 adr a.length capr hp1 xs at hO
  refine W.norm (F' := [(42, .int .i64 (i : Nat)), (41, .int .i64 (a.length : Nat)), (7, .slice adr a.length capr), (9, .slice (some ⟨bI, 0, none⟩) 1 capI), (1, .int .u8 z), (5, dptr bD), (0, .slice ada a.length ca)]) (H' := (bI, blk ([sv [97], .slice adI a.length cI, .int .i64 ((0 : Nat) : Int)] ++ spI) 46) :: (H24 ++ (hpI ++ (hp1 ++ [])))) rfl rfl ?_
  refine sSeq ?_
  refine W.region ?_
  refine OpsW.det (det_lss rfl rfl) rfl ?_
  refine sNext ?_
  refine sSeq ?_
  refine W.cond rfl (fun hc43 => ?_) (fun hc43 => ?_)
  · skip
    have hlt : i < a.length := by have h := hc43; simp only [decide_eq_true_eq] at h; omega
    have hlx : i < xs.length := by rw [hO.len]; exact hlt
    obtain ⟨bx, spx, hq1, hq2, hset⟩ := own_pos hO (by omega)
    subst hq1 hq2
    refine sSkip ?_
    refine sSeq ?_
    refine sBlock ?_
    refine sSeq ?_
    refine W.region ?_
    refine OpsW.det (det_move rfl) rfl ?_
    refine OpsW.det (det_assign rfl) rfl ?_
    refine sNext ?_
    refine W.keep (F' := [(10, _), (42, _), (41, _), (7, _), (9, _), (1, _), (5, _), (0, _)]) ⟨rfl, rfl, rfl, rfl, rfl, rfl, rfl, rfl, trivial⟩ ?_
    refine W.region ?_
    refine OpsW.det (det_move rfl) rfl ?_
    refine OpsW.det (det_move rfl) rfl ?_
    refine OpsW.det (det_move rfl) rfl ?_
    refine OpsW.det (det_indexAddr_sl u22 sz5 rfl rfl ⟨by omega, by omega⟩) rfl ?_
    refine OpsW.some (H' := (bx, blk (xs ++ spx) 5) :: (bI, blk ([sv [97], .slice adI a.length cI, .int .i64 ((0 : Nat) : Int)] ++ spI) 46) :: (H24 ++ hpI)) (X := []) (perm_of fun F => by simp only [wsum_app, wsum]; omega) ?_
    refine OpsW.store sz5 rfl rfl rfl rfl rfl Upd.here (spl_at hlx) ?_
    refine OpsW.some (H' := (bI, blk ([sv [97], .slice adI a.length cI, .int .i64 ((0 : Nat) : Int)] ++ spI) 46) :: (H24 ++ (hpI ++ ([(bx, blk (xs.set i (.int .u8 z) ++ spx) 5)] ++ [])))) (X := []) (perm_of fun F => by simp only [wsum_app, wsum]; omega) ?_
    refine sLast ?_
    refine bNext ?_
    refine W.keep (F' := [(42, _), (41, _), (7, _), (9, _), (1, _), (5, _), (0, _)]) ⟨rfl, rfl, rfl, rfl, rfl, rfl, rfl, trivial⟩ ?_
    refine W.region ?_
    refine OpsW.det (det_addN (b := 1) rfl rfl (by omega)) rfl ?_
    refine OpsW.det (det_move rfl) rfl ?_
    refine sLast ?_
    exact rEnd (i + 1, [(bx, blk (xs.set i (.int .u8 z) ++ spx) 5)]) ⟨hlt, _, hset _ (by rw [List.length_set]; exact hO.len)⟩ ⟨rfl, rfl, rfl, rfl, rfl, rfl, rfl, trivial⟩ (List.Sublist.refl _) (step_lt hlt)
  · skip
    refine sExit ?_
    refine xLoop ?_
    refine xHere ?_
    refine W.keep (F' := [(9, _), (1, _), (5, _), (0, _)]) ⟨rfl, rfl, rfl, rfl, trivial⟩ ?_
    refine sSeq ?_
    refine sSeq ?_
    refine W.region ?_
    refine OpsW.det (det_move rfl) rfl ?_
    refine OpsW.det (det_len u38 rfl) rfl ?_
    refine OpsW.det (Det.to (det_neq rfl rfl) (congrArg Value.bool (rfl))) rfl ?_
    refine sNext ?_
    refine W.keep (F' := [(52, _), (9, _), (1, _), (5, _), (0, _)]) ⟨rfl, rfl, rfl, rfl, rfl, trivial⟩ ?_
    refine W.cond_false rfl ?_
    refine sSkip ?_
    refine sSeq ?_
    refine sSeq ?_
    refine W.region ?_
    refine OpsW.det (det_move rfl) rfl ?_
    refine OpsW.det (det_indexAddr_sl u38 sz46 rfl rfl ⟨by decide, by decide⟩) rfl ?_
    refine OpsW.det (det_fieldAddr fl46_1 rfl) rfl ?_
    refine OpsW.det (det_loadC ty22 rfl (List.Mem.head _) rfl) rfl ?_
    refine OpsW.det (det_len u22 rfl) rfl ?_
    refine OpsW.det (det_move rfl) rfl ?_
    refine sNext ?_
    refine W.keep (F' := [(58, _), (57, _), (9, _), (1, _), (5, _), (0, _)]) ⟨rfl, rfl, rfl, rfl, rfl, rfl, trivial⟩ ?_
    refine sBlock ?_
    refine sLoop (σ := Nat × Hp) (fun s => [(58, .int .i64 (s.1 : Nat)), (57, .int .i64 (a.length : Nat)), (9, .slice (some ⟨bI, 0, none⟩) 1 capI), (1, .int .u8 z), (5, dptr bD), (0, .slice ada a.length ca)]) (fun s => (bI, blk ([sv [97], .slice adI a.length cI, .int .i64 ((0 : Nat) : Int)] ++ spI) 46) :: (H24 ++ (s.2 ++ []))) (fun s => s.1 ≤ a.length ∧ ∃ xs, Own 5 adI a.length cI s.2 xs) (fun s => a.length - s.1) (0, hpI) ⟨Nat.zero_le _, _, hownI⟩ ⟨rfl, rfl, rfl, rfl, rfl, rfl, trivial⟩ ((((List.nil_sublist _).append_left _).append_left _).cons_cons _) ?_
    rintro ⟨i, hp2⟩ ⟨hi, xs, hO⟩
    change i ≤ a.length at hi
    change Own 5 adI a.length cI hp2 xs at hO
    refine W.norm (F' := [(58, .int .i64 (i : Nat)), (57, .int .i64 (a.length : Nat)), (9, .slice (some ⟨bI, 0, none⟩) 1 capI), (1, .int .u8 z), (5, dptr bD), (0, .slice ada a.length ca)]) (H' := (bI, blk ([sv [97], .slice adI a.length cI, .int .i64 ((0 : Nat) : Int)] ++ spI) 46) :: (H24 ++ (hp2 ++ []))) rfl rfl ?_
    refine sSeq ?_
    refine W.region ?_
    refine OpsW.det (det_lss rfl rfl) rfl ?_
    refine sNext ?_
    refine sSeq ?_
    refine W.cond rfl (fun hc59 => ?_) (fun hc59 => ?_)
    · skip
      have hlt : i < a.length := by have h := hc59; simp only [decide_eq_true_eq] at h; omega
      have hlx : i < xs.length := by rw [hO.len]; exact hlt
      obtain ⟨bx, spx, hq1, hq2, hset⟩ := own_pos hO (by omega)
      subst hq1 hq2
      refine sSkip ?_
      refine sSeq ?_
      refine sBlock ?_
      refine sSeq ?_
      refine W.region ?_
      refine OpsW.det (det_move rfl) rfl ?_
      refine OpsW.det (det_assign rfl) rfl ?_
      refine sNext ?_
      refine W.keep (F' := [(11, _), (58, _), (57, _), (9, _), (1, _), (5, _), (0, _)]) ⟨rfl, rfl, rfl, rfl, rfl, rfl, rfl, trivial⟩ ?_
      refine W.region ?_
      refine OpsW.det (det_move rfl) rfl ?_
      refine OpsW.det (det_indexAddr_sl u38 sz46 rfl rfl ⟨by decide, by decide⟩) rfl ?_
      refine OpsW.det (det_fieldAddr fl46_1 rfl) rfl ?_
      refine OpsW.det (det_loadC ty22 rfl (List.Mem.head _) rfl) rfl ?_
      refine OpsW.det (det_move rfl) rfl ?_
      refine OpsW.det (det_move rfl) rfl ?_
      refine OpsW.det (det_indexAddr_sl u22 sz5 rfl rfl ⟨by omega, by omega⟩) rfl ?_
      refine OpsW.some (H' := (bx, blk (xs ++ spx) 5) :: (bI, blk ([sv [97], .slice (some ⟨bx, 0, none⟩) a.length cI, .int .i64 ((0 : Nat) : Int)] ++ spI) 46) :: H24) (X := []) (perm_of fun F => by simp only [wsum_app, wsum]; omega) ?_
      refine OpsW.store sz5 rfl rfl rfl rfl rfl Upd.here (spl_at hlx) ?_
      refine OpsW.some (H' := (bI, blk ([sv [97], .slice (some ⟨bx, 0, none⟩) a.length cI, .int .i64 ((0 : Nat) : Int)] ++ spI) 46) :: (H24 ++ ([(bx, blk (xs.set i (.int .u8 z) ++ spx) 5)] ++ []))) (X := []) (perm_of fun F => by simp only [wsum_app, wsum]; omega) ?_
      refine sLast ?_
      refine bNext ?_
      refine W.keep (F' := [(58, _), (57, _), (9, _), (1, _), (5, _), (0, _)]) ⟨rfl, rfl, rfl, rfl, rfl, rfl, trivial⟩ ?_
      refine W.region ?_
      refine OpsW.det (det_addN (b := 1) rfl rfl (by omega)) rfl ?_
      refine OpsW.det (det_move rfl) rfl ?_
      refine sLast ?_
      exact rEnd (i + 1, [(bx, blk (xs.set i (.int .u8 z) ++ spx) 5)]) ⟨hlt, _, hset _ (by rw [List.length_set]; exact hO.len)⟩ ⟨rfl, rfl, rfl, rfl, rfl, rfl, trivial⟩ (List.Sublist.refl _) (step_lt hlt)
    · skip
      refine sExit ?_
      refine xLoop ?_
      refine xHere ?_
      refine W.keep (F' := [(5, _), (0, _)]) ⟨rfl, rfl, trivial⟩ ?_
      refine sSeq ?_
      refine W.region ?_
      refine OpsW.det (det_move rfl) rfl ?_
      refine OpsW.change (Hf := []) en15 rfl (fun w hb hbn ho hbm => Read_d hD1 (ok_big (Nat.zero_le _) (by show a.length ≤ 140737488355328; omega) hsa (Nat.zero_le _) (fresh_room _) (by omega)) (by decide) (bl_mid (Hl := [(_, _)]) hb)) rfl (fun v71 H71 hS71 => ?_)
      obtain ⟨adq, capq, hpq, nq, hvq, hnq, hownq, hsubq⟩ := hS71
      rw [readA_one (s := [97]) (by decide)] at hvq hnq hownq
      dsimp only at hvq hnq hownq
      subst hvq
      subst hnq
      refine OpsW.tuck (Hl := [(_, _)]) (Hd := H24) (Hr := (hp2 ++ [])) (hp := hpq) hsubq ?_
      refine OpsW.norm (H' := ((_, _) :: (H24 ++ (hpq ++ (hp2 ++ []))))) rfl rfl ?_
      refine OpsW.det (det_move rfl) rfl ?_
      refine OpsW.det (det_extract rfl rfl) rfl ?_
      refine OpsW.det (det_extract rfl rfl) rfl ?_
      refine OpsW.det (det_assign rfl) rfl ?_
      refine OpsW.det (det_assign rfl) rfl ?_
      refine sNext ?_
      refine W.keep (F' := [(12, _), (0, _)]) ⟨rfl, rfl, trivial⟩ ?_
      refine sSeq ?_
      refine W.region ?_
      refine OpsW.det (det_assign rfl) rfl ?_
      refine sNext ?_
      refine sSeq ?_
      refine W.region ?_
      refine OpsW.det (det_move rfl) rfl ?_
      refine OpsW.det (det_call en13 rfl (fun w hb ho => FuseN_ok nob)) rfl ?_
      refine sNext ?_
      refine W.keep (F' := [(14, _), (12, _), (0, _)]) ⟨rfl, rfl, rfl, trivial⟩ ?_
      refine sSeq ?_
      refine W.region ?_
      refine OpsW.det (det_move rfl) rfl ?_
      refine OpsW.det (det_call en14 rfl (fun w hb ho => CrashN_ok nob)) rfl ?_
      refine sNext ?_
      refine W.keep (F' := [(14, _), (12, _), (0, _)]) ⟨rfl, rfl, rfl, trivial⟩ ?_
      refine sSeq ?_
      refine W.region ?_
      refine OpsW.det (det_move rfl) rfl ?_
      refine OpsW.det (det_call en15 rfl (fun w hb ho => ReadN_ok nob)) rfl ?_
      refine OpsW.det (det_move rfl) rfl ?_
      refine OpsW.det (det_extract rfl rfl) rfl ?_
      refine OpsW.det (det_extract rfl rfl) rfl ?_
      refine OpsW.det (det_assign rfl) rfl ?_
      refine OpsW.det (det_assign rfl) rfl ?_
      refine sNext ?_
      refine W.keep (F' := [(16, _), (14, _), (12, _), (0, _)]) ⟨rfl, rfl, rfl, rfl, trivial⟩ ?_
      refine sSeq ?_
      refine W.region ?_
      refine OpsW.det (det_move rfl) rfl ?_
      refine OpsW.det (det_move rfl) rfl ?_
      refine OpsW.det (Det.to (det_call en16 rfl (fun w hb ho => same_ok ((Bs.own hsa hownq).mono (fun p hp => List.mem_append_left _ ((fun p hp => List.mem_append_right [(_, _)] (List.mem_append_right _ (List.mem_append_left _ hp))) p hp))) (hBa.mono (fun p hp => List.mem_append_right _ hp)) (by omega) (blocks_app hb ho.blocks))) (congrArg Value.bool (decide_eq_true rfl))) rfl ?_
      refine OpsW.det (det_move rfl) rfl ?_
      refine OpsW.guard_yes rfl rfl ?_
      refine OpsW.det (det_move rfl) rfl ?_
      refine OpsW.guard_yes rfl rfl ?_
      refine OpsW.det (Det.to (det_eql rfl rfl) (congrArg Value.bool (rfl))) rfl ?_
      refine OpsW.det (det_pick rfl rfl) rfl ?_
      refine OpsW.det (det_move rfl) rfl ?_
      refine OpsW.guard_yes rfl rfl ?_
      refine OpsW.det (det_move rfl) rfl ?_
      refine OpsW.guard_yes rfl rfl ?_
      refine OpsW.det (det_call en10 rfl (fun w hb ho => AppendN_ok nob)) rfl ?_
      refine OpsW.guard_yes rfl rfl ?_
      refine OpsW.det (Det.to (det_eql rfl rfl) (congrArg Value.bool (rfl))) rfl ?_
      refine OpsW.det (det_pick rfl rfl) rfl ?_
      refine OpsW.det (det_move rfl) rfl ?_
      refine OpsW.guard_yes rfl rfl ?_
      refine OpsW.det (det_move rfl) rfl ?_
      refine OpsW.guard_yes rfl rfl ?_
      refine OpsW.det (det_call en12 rfl (fun w hb ho => SyncN_ok nob)) rfl ?_
      refine OpsW.guard_yes rfl rfl ?_
      refine OpsW.det (Det.to (det_eql rfl rfl) (congrArg Value.bool (rfl))) rfl ?_
      refine OpsW.det (det_pick rfl rfl) rfl ?_
      refine OpsW.det (det_move rfl) rfl ?_
      refine OpsW.guard_yes rfl rfl ?_
      refine OpsW.det (det_move rfl) rfl ?_
      refine OpsW.guard_yes rfl rfl ?_
      refine OpsW.det (det_call en17 rfl (fun w hb ho => FreeN_ok nob)) rfl ?_
      refine OpsW.guard_yes rfl rfl ?_
      refine OpsW.det (Det.to (det_eql rfl rfl) (congrArg Value.bool (rfl))) rfl ?_
      refine OpsW.det (det_pick rfl rfl) rfl ?_
      refine OpsW.det (det_move rfl) rfl ?_
      refine OpsW.guard_yes rfl rfl ?_
      refine OpsW.det (det_move rfl) rfl ?_
      refine OpsW.guard_yes rfl rfl ?_
      refine OpsW.det (det_call en23 rfl (fun w hb ho => StepsN_ok nob)) rfl ?_
      refine OpsW.guard_yes rfl rfl ?_
      refine OpsW.det (Det.to (det_eql rfl rfl) (congrArg Value.bool (rfl))) rfl ?_
      refine OpsW.det (det_pick rfl rfl) rfl ?_
      refine OpsW.det (det_move rfl) rfl ?_
      refine OpsW.guard_yes rfl rfl ?_
      refine OpsW.det (det_move rfl) rfl ?_
      refine OpsW.guard_yes rfl rfl ?_
      refine OpsW.det (det_call en24 rfl (fun w hb ho => DownN_ok nob)) rfl ?_
      refine OpsW.guard_yes rfl rfl ?_
      refine OpsW.det (Det.to (det_not rfl) (congrArg Value.bool (rfl))) rfl ?_
      refine OpsW.det (det_pick rfl rfl) rfl ?_
      refine OpsW.det (det_move rfl) rfl ?_
      refine OpsW.guard_yes rfl rfl ?_
      refine OpsW.det (det_move rfl) rfl ?_
      refine OpsW.guard_yes rfl rfl ?_
      refine OpsW.det (det_call en25 rfl (fun w hb ho => ListN_ok nob)) rfl ?_
      refine OpsW.guard_yes rfl rfl ?_
      refine OpsW.det (det_len u47 rfl) rfl ?_
      refine OpsW.guard_yes rfl rfl ?_
      refine OpsW.det (Det.to (det_eql rfl rfl) (congrArg Value.bool (rfl))) rfl ?_
      refine OpsW.det (det_pick rfl rfl) rfl ?_
      refine OpsW.det (det_move rfl) rfl ?_
      refine OpsW.guard_yes rfl rfl ?_
      refine OpsW.det (det_move rfl) rfl ?_
      refine OpsW.guard_yes rfl rfl ?_
      refine OpsW.det (det_call en18 rfl (fun w hb ho => ImageN_ok nob)) rfl ?_
      refine OpsW.guard_yes rfl rfl ?_
      refine OpsW.det (det_len u38 rfl) rfl ?_
      refine OpsW.guard_yes rfl rfl ?_
      refine OpsW.det (Det.to (det_eql rfl rfl) (congrArg Value.bool (rfl))) rfl ?_
      refine OpsW.det (det_pick rfl rfl) rfl ?_
      refine OpsW.det (det_assign rfl) rfl ?_
      refine sNext ?_
      refine W.keep (F' := [(4, _)]) ⟨rfl, trivial⟩ ?_
      refine sRet ?_
      exact done1 Try.results5 (rv_tmp rfl) rfl

end Go.Dk
