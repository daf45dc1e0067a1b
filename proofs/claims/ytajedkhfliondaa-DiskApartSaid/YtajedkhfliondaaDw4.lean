/-
  The disk's names and files, read: the walks. Conditions: those of a disk.
-/
import Derived.Test.YtajedkhfliondaaDw3
namespace Go.Dk
open Go Go.Vm Go.RowKit Go.Proofs Go.Cu
attribute [local irreducible] W OpsW Det Fresh New Writes Vm.Pure Makes Changes ExternTo BuildTo ZeroTo FieldTo IndexTo BinTo SliceTo Vm.Enters
set_option linter.unusedVariables false
set_option linter.unusedSimpArgs false

theorem hmany' {fs : List FE} {room steps fuse : Nat} {down : Bool} (hA : AD.ok ⟨fs.map FE.fl, room, steps, fuse, down⟩) : fs.length ≤ 32 := by have := hA.many; simpa using this
theorem htot' {fs : List FE} {room steps fuse : Nat} {down : Bool} (hA : AD.ok ⟨fs.map FE.fl, room, steps, fuse, down⟩) : total (fs.map FE.fl) ≤ room ∧ room ≤ 4194304 := ⟨hA.fits, hA.room⟩
theorem fe_small {fs : List FE} {room steps fuse : Nat} {down : Bool} (hA : AD.ok ⟨fs.map FE.fl, room, steps, fuse, down⟩) {f : FE} (hf : f ∈ fs) : (∀ c ∈ f.data, c < 256) ∧ f.data.length ≤ 140737488355328 ∧ f.safe ≤ f.data.length :=
  ⟨hA.small f.fl (List.mem_map.2 ⟨f, hf, rfl⟩), hA.size f.fl (List.mem_map.2 ⟨f, hf, rfl⟩), hA.safe f.fl (List.mem_map.2 ⟨f, hf, rfl⟩)⟩
theorem fhp_mem {fs : List FE} {f : FE} (hf : f ∈ fs) {p : Nat × Obj} (hp : p ∈ f.hp) : p ∈ fhp fs := by
  unfold fhp
  exact List.mem_flatten.2 ⟨f.hp, List.mem_map.2 ⟨f, hf, rfl⟩, hp⟩
theorem fe_bs {fs : List FE} {room steps fuse : Nat} {down : Bool} (hA : AD.ok ⟨fs.map FE.fl, room, steps, fuse, down⟩) (hok : ∀ f ∈ fs, f.ok) {f : FE} (hf : f ∈ fs) : Bs f.hp (.slice f.ad f.data.length f.cap) f.data :=
  Bs.own (fe_small hA hf).1 (hok f hf)
theorem fld69_0 {ad : Option Addr} {n c : Nat} {s : Int} : FieldTo Try.prog 69 (.agg [.slice ad n c, .int .i64 s].toArray) 0 (.slice ad n c) := FieldTo.of fun _ => by kernel_rfl
/-- What is read. -/
def readA (A : AD) (s : Nm) : List Nat × Nat := if bars A s true ≠ 0 then ([], bars A s true) else ((getF s A.fs).data, 0)
theorem bars_there {A : AD} {s : Nm} (h : bars A s true = 0) : fnd s A.fs ≠ none := by
  intro hn
  unfold bars at h
  split at h
  · cases h
  · split at h
    · cases h
    · rw [if_pos ⟨rfl, hn⟩] at h; cases h
theorem getF_some {s : Nm} {fs : List Fl} {a : Fl} (h : fnd s fs = some a) : getF s fs = a := by unfold getF; rw [h]; rfl
theorem getF_none {s : Nm} {fs : List Fl} (h : fnd s fs = none) : getF s fs = ⟨s, [], 0⟩ := by unfold getF; rw [h]; rfl
/-- A look at a file that is there. -/
theorem look_at {s : Nm} {fs : List FE} (h : fnd s (fs.map FE.fl) ≠ none) : ∃ l1 f l2, fs = l1 ++ f :: l2 ∧ f.nm = s ∧ (∀ g ∈ l1, s ≠ g.nm) ∧ mfind s (fs.map FE.me) = some f.val ∧ getF s (fs.map FE.fl) = f.fl ∧ f ∈ fs := by
  obtain ⟨a, ha⟩ : ∃ a, fnd s (fs.map FE.fl) = some a := by cases h' : fnd s (fs.map FE.fl) with | none => exact absurd h' h | some a => exact ⟨a, rfl⟩
  obtain ⟨l1, f, l2, rfl, rfl, h3, h4⟩ := fnd_some ha
  exact ⟨l1, f, l2, rfl, h3, h4, mfind_at h3 h4, getF_some ha, by simp⟩
theorem fnd_of_name {s : Nm} {fs : List Fl} (h : s ∈ names fs) : fnd s fs ≠ none := by
  intro hn
  obtain ⟨f, hf, rfl⟩ := names_mem h
  exact fnd_no.1 hn f hf rfl
/-- A file's cells in a list of files. -/
def fcells (f : FE) : List Value := [sv f.nm, .slice f.ad f.data.length f.cap, .int .i64 (f.safe : Nat)]
theorem fcells_len (f : FE) : (fcells f).length = 3 := rfl
theorem bld46 {s : ByteArray} {ad : Option Addr} {n c : Nat} {k : Int} : BuildTo Try.prog 46 [(0, .string s), (1, .slice ad n c), (2, .int .i64 k)] (.agg [.string s, .slice ad n c, .int .i64 k].toArray) := BuildTo.of fun _ => by kernel_rfl
theorem slice38 {s : Nm} {ad : Option Addr} {n c : Nat} {k : Int} : SliceTo Try.prog 38 1 [(0, .agg [sv s, .slice ad n c, .int .i64 k].toArray)] [sv s, .slice ad n c, .int .i64 k] 46 := SliceTo.of fun _ => by kernel_rfl
theorem ty38 : TyS Try.prog 38 46 3 48 [.string .empty, .slice none 0 0, .int .i64 0] := ⟨by kernel_rfl, by kernel_rfl, by kernel_rfl, ⟨.agg #[.string .empty, .slice none 0 0, .int .i64 0], by kernel_rfl, by kernel_rfl⟩, rfl, by decide⟩
/-- A list of files: its own block, and the files' blocks. -/
def FilesIs (v : Value) (L : List Fl) (H : Hp) : Prop := ∃ (Fs : List FE) (hpo l : Hp), IsSl 46 3 v Fs.length hpo ((Fs.map fcells).flatten) ∧ (∀ f ∈ Fs, f.ok) ∧ Fs.map FE.fl = L ∧ l.Perm (hpo ++ fhp Fs) ∧ l.Sublist H
theorem image_nil : image [] = [] := by unfold image names; rw [List.map_nil, List.mergeSort_nil]; rfl

theorem en31 : Vm.Enters Try.prog 31 := Vm.Enters.of fun _ _ => by kernel_rfl
theorem en35 : Vm.Enters Try.prog 35 := Vm.Enters.of fun _ _ => by kernel_rfl
theorem en36 : Vm.Enters Try.prog 36 := Vm.Enters.of fun _ _ => by kernel_rfl
theorem List_ok {bD bm clk room steps fuse : Nat} {down : Bool} {fs : List FE} (hA : AD.ok ⟨fs.map FE.fl, room, steps, fuse, down⟩) (hok : ∀ f ∈ fs, f.ok) (hnd : (fs.map (·.born)).Nodup) (hold : ∀ f ∈ fs, f.born < clk) {w : World} (hG : Blocks ((bD, dblk bm room steps fuse down) :: (bm, mobj (fs.map FE.me) clk) :: fhp fs) w)  : Changes Try.prog 25 #[dptr bD] w [] (fun v H' => ∃ ad cap hp n, v = .slice ad n cap ∧ n = (if down = true then ([] : List Nm) else names (fs.map FE.fl)).length ∧ Own 9 ad n cap hp (scells (if down = true then [] else names (fs.map FE.fl))) ∧ hp.Sublist H') := by
  refine changes_of_W (Hf := []) (n := 13) (args := [dptr bD]) Try.func25 rfl Try.ntmps25 (Nat.le_of_ble_eq_true rfl) (fun p hp => ⟨hG p hp, by simp⟩) (fun _ h => by cases h) (by simp) ?_
  refine sStart ?_
  refine sSeq ?_
  refine W.region ?_
  refine OpsW.det (det_assign rfl) rfl ?_
  refine sNext ?_
  refine W.keep (F' := [(0, _)]) ⟨rfl, trivial⟩ ?_
  refine sSeq ?_
  refine sSeq ?_
  refine W.region ?_
  refine OpsW.det (det_move rfl) rfl ?_
  refine OpsW.det (Det.to (det_nilPtr u23 rfl rfl) (congrArg Value.bool (rfl))) rfl ?_
  refine OpsW.det (det_move rfl) rfl ?_
  refine OpsW.guard_yes rfl rfl ?_
  refine OpsW.det (det_move rfl) rfl ?_
  refine OpsW.guard_yes rfl rfl ?_
  refine OpsW.det (det_nilCheck rfl) rfl ?_
  refine OpsW.guard_yes rfl rfl ?_
  refine OpsW.det (det_fieldAddr fl66_4 rfl) rfl ?_
  refine OpsW.guard_yes rfl rfl ?_
  refine OpsW.det (det_loadC_ro ty4 rfl (List.Mem.head _) rfl) rfl ?_
  refine OpsW.det (det_pick rfl rfl) rfl ?_
  refine sNext ?_
  refine W.keep (F' := [(10, _), (0, _)]) ⟨rfl, rfl, trivial⟩ ?_
  refine W.cond rfl (fun hc10 => ?_) (fun hc10 => ?_)
  · skip
    refine sSeq ?_
    refine W.region ?_
    refine OpsW.det (det_assign rfl) rfl ?_
    refine sNext ?_
    refine W.keep (F' := [(2, _)]) ⟨rfl, trivial⟩ ?_
    refine sRet ?_
    exact done1 Try.results25 (rv_tmp rfl) ⟨none, 0, [], 0, rfl, by rw [if_pos (show down = true from hc10)]; rfl, by rw [if_pos (show down = true from hc10)]; exact .none (fun a h => by cases h), List.nil_sublist _⟩
  · skip
    refine sSkip ?_
    refine sSeq ?_
    refine W.region ?_
    refine OpsW.det (det_move rfl) rfl ?_
    refine OpsW.change (Hf := []) en35 rfl (fun w hb hbn ho hbm => names_ok hnd hold (hmany' hA) (ho.blocks)) rfl (fun v12 H12 hS12 => ?_)
    obtain ⟨ad, cap, hp, rfl, hown, hsub⟩ := hS12
    refine OpsW.det (det_assign rfl) rfl ?_
    refine sNext ?_
    refine W.keep (F' := [(2, _)]) ⟨rfl, trivial⟩ ?_
    refine sRet ?_
    exact done1 Try.results25 (rv_tmp rfl) ⟨ad, cap, hp, fs.length, rfl, by rw [if_neg (by rw [show down = false from hc10]; simp), names_length, List.length_map], by rw [if_neg (by rw [show down = false from hc10]; simp)]; exact hown, hsub.trans (List.sublist_append_left _ _)⟩
theorem ListN_ok  {w : World} (hG : Blocks [] w)  : Vm.Pure Try.prog 25 #[.pointer none] w (.slice none 0 0) := by
  refine pure_of_W (n := 13) (args := [.pointer none]) Try.func25 rfl Try.ntmps25 (Nat.le_of_ble_eq_true rfl) hG ?_
  refine sStart ?_
  refine sSeq ?_
  refine W.region ?_
  refine OpsW.det (det_assign rfl) rfl ?_
  refine sNext ?_
  refine W.keep (F' := [(0, _)]) ⟨rfl, trivial⟩ ?_
  refine sSeq ?_
  refine sSeq ?_
  refine W.region ?_
  refine OpsW.det (det_move rfl) rfl ?_
  refine OpsW.det (Det.to (det_nilPtr u23 rfl rfl) (congrArg Value.bool (rfl))) rfl ?_
  refine OpsW.det (det_move rfl) rfl ?_
  refine OpsW.guard_no rfl rfl rfl ?_
  refine OpsW.guard_no rfl rfl rfl ?_
  refine OpsW.guard_no rfl rfl rfl ?_
  refine OpsW.guard_no rfl rfl rfl ?_
  refine OpsW.det (det_pick rfl rfl) rfl ?_
  refine sNext ?_
  refine W.keep (F' := [(10, _), (0, _)]) ⟨rfl, rfl, trivial⟩ ?_
  refine W.cond_true rfl ?_
  refine sSeq ?_
  refine W.region ?_
  refine OpsW.det (det_assign rfl) rfl ?_
  refine sNext ?_
  refine W.keep (F' := [(2, _)]) ⟨rfl, trivial⟩ ?_
  refine sRet ?_
  exact done1 Try.results25 (rv_tmp rfl) rfl
theorem Read_ok {bD bm clk room steps fuse : Nat} {down : Bool} {fs : List FE} (hA : AD.ok ⟨fs.map FE.fl, room, steps, fuse, down⟩) (hok : ∀ f ∈ fs, f.ok) (hnd : (fs.map (·.born)).Nodup) (hold : ∀ f ∈ fs, f.born < clk) {s : Nm} (hs : s.length ≤ 9223372036854775807) {w : World} (hG : Blocks ((bD, dblk bm room steps fuse down) :: (bm, mobj (fs.map FE.me) clk) :: fhp fs) w)  : Changes Try.prog 15 #[dptr bD, sv s] w [] (fun v H' => ∃ ad cap hp n, v = .tuple #[.slice ad n cap, .int .i64 ((readA ⟨fs.map FE.fl, room, steps, fuse, down⟩ s).2 : Nat)] ∧ n = (readA ⟨fs.map FE.fl, room, steps, fuse, down⟩ s).1.length ∧ Own 5 ad n cap hp (bcells (readA ⟨fs.map FE.fl, room, steps, fuse, down⟩ s).1) ∧ hp.Sublist H') := by
  refine changes_of_W (Hf := []) (n := 21) (args := [dptr bD, sv s]) Try.func15 rfl Try.ntmps15 (Nat.le_of_ble_eq_true rfl) (fun p hp => ⟨hG p hp, by simp⟩) (fun _ h => by cases h) (by simp) ?_
  refine sStart ?_
  refine sSeq ?_
  refine W.region ?_
  refine OpsW.det (det_assign rfl) rfl ?_
  refine OpsW.det (det_assign rfl) rfl ?_
  refine sNext ?_
  refine W.keep (F' := [(0, _), (1, _)]) ⟨rfl, rfl, trivial⟩ ?_
  refine sSeq ?_
  refine sSeq ?_
  refine W.region ?_
  refine OpsW.det (det_move rfl) rfl ?_
  refine OpsW.det (det_move rfl) rfl ?_
  refine OpsW.det (det_call en31 rfl (fun w hb ho => barsT_ok hs ho.blocks)) rfl ?_
  refine OpsW.det (det_assign rfl) rfl ?_
  refine sNext ?_
  refine W.keep (F' := [(6, _), (0, _), (1, _)]) ⟨rfl, rfl, rfl, trivial⟩ ?_
  refine sSeq ?_
  refine W.region ?_
  refine OpsW.det (det_move rfl) rfl ?_
  refine OpsW.det (det_neq rfl rfl) rfl ?_
  refine sNext ?_
  refine W.keep (F' := [(11, _), (6, _), (0, _), (1, _)]) ⟨rfl, rfl, rfl, rfl, trivial⟩ ?_
  refine W.cond rfl (fun hc11 => ?_) (fun hc11 => ?_)
  · skip
    have hb1 : bars ⟨fs.map FE.fl, room, steps, fuse, down⟩ s true ≠ 0 := by have h := hc11; simp only [bne_iff_ne, ne_eq] at h; omega
    refine sSeq ?_
    refine W.region ?_
    refine OpsW.det (det_move rfl) rfl ?_
    refine OpsW.det (det_assign rfl) rfl ?_
    refine OpsW.det (det_assign rfl) rfl ?_
    refine sNext ?_
    refine W.keep (F' := [(5, _), (4, _)]) ⟨rfl, rfl, trivial⟩ ?_
    refine sRet ?_
    exact done2 Try.results15 (rv_tmp rfl) (rv_tmp rfl) ⟨none, 0, [], 0, by unfold readA; rw [if_pos hb1], by unfold readA; rw [if_pos hb1]; rfl, by unfold readA; rw [if_pos hb1]; exact .none (fun a h => by cases h), List.nil_sublist _⟩
  · skip
    have hb1 : bars ⟨fs.map FE.fl, room, steps, fuse, down⟩ s true = 0 := by have h := hc11; simp only [bne_eq_false_iff_eq] at h; omega
    refine sSkip ?_
    refine sSeq ?_
    obtain ⟨l1, f, l2, hfs, hfn, hfl, hmf, hgf, hf⟩ := look_at (bars_there hb1)
    refine W.region ?_
    refine OpsW.det (det_move rfl) rfl ?_
    refine OpsW.det (det_nilCheck rfl) rfl ?_
    refine OpsW.det (det_fieldAddr fl66_0 rfl) rfl ?_
    refine OpsW.det (det_loadC_ro ty64 rfl (List.Mem.head _) rfl) rfl ?_
    refine OpsW.det (det_move rfl) rfl ?_
    refine OpsW.det (Det.to (v := f.val) (det_lookup tm64 rfl rfl (.inr (List.Mem.tail _ (List.Mem.head _)))) (by rw [hmf]; rfl)) rfl ?_
    refine OpsW.det (det_field rfl fld69_0) rfl ?_
    refine OpsW.new (new_call en36 rfl (fun w hb ho => Clone_ok (fe_bs hA hok hf) (by have := (fe_small hA hf).2.1; omega) (fun p hp => ho.look (List.Mem.tail _ (List.Mem.tail _ (fhp_mem hf hp)))))) rfl fun p20 hp20 => ?_
    refine OpsW.det (det_assign rfl) rfl ?_
    refine OpsW.det (det_assign rfl) rfl ?_
    refine sNext ?_
    refine W.keep (F' := [(5, _), (4, _)]) ⟨rfl, rfl, trivial⟩ ?_
    refine sRet ?_
    have hrd : readA ⟨fs.map FE.fl, room, steps, fuse, down⟩ s = (f.data, 0) := by unfold readA; rw [if_neg (fun h => h hb1)]; show ((getF s (fs.map FE.fl)).data, 0) = _; rw [hgf]
    exact done2 Try.results15 (rv_tmp rfl) (rv_tmp rfl) ⟨_, _, clh f.data p20, f.data.length, by rw [hrd]; rfl, by rw [hrd], by rw [hrd]; exact clone_own hp20, List.sublist_append_left _ _⟩
theorem ReadN_ok {s : Nm} {w : World} (hG : Blocks [] w)  : Vm.Pure Try.prog 15 #[.pointer none, sv s] w (.tuple #[.slice none 0 0, .int .i64 1]) := by
  refine pure_of_W (n := 21) (args := [.pointer none, sv s]) Try.func15 rfl Try.ntmps15 (Nat.le_of_ble_eq_true rfl) hG ?_
  refine sStart ?_
  refine sSeq ?_
  refine W.region ?_
  refine OpsW.det (det_assign rfl) rfl ?_
  refine OpsW.det (det_assign rfl) rfl ?_
  refine sNext ?_
  refine W.keep (F' := [(0, _), (1, _)]) ⟨rfl, rfl, trivial⟩ ?_
  refine sSeq ?_
  refine sSeq ?_
  refine W.region ?_
  refine OpsW.det (det_move rfl) rfl ?_
  refine OpsW.det (det_move rfl) rfl ?_
  refine OpsW.det (det_call en31 rfl (fun w hb ho => barsN_ok nob)) rfl ?_
  refine OpsW.det (det_assign rfl) rfl ?_
  refine sNext ?_
  refine W.keep (F' := [(6, _), (0, _), (1, _)]) ⟨rfl, rfl, rfl, trivial⟩ ?_
  refine sSeq ?_
  refine W.region ?_
  refine OpsW.det (det_move rfl) rfl ?_
  refine OpsW.det (det_neq rfl rfl) rfl ?_
  refine sNext ?_
  refine W.keep (F' := [(11, _), (6, _), (0, _), (1, _)]) ⟨rfl, rfl, rfl, rfl, trivial⟩ ?_
  refine W.cond_true rfl ?_
  refine sSeq ?_
  refine W.region ?_
  refine OpsW.det (det_move rfl) rfl ?_
  refine OpsW.det (det_assign rfl) rfl ?_
  refine OpsW.det (det_assign rfl) rfl ?_
  refine sNext ?_
  refine W.keep (F' := [(5, _), (4, _)]) ⟨rfl, rfl, trivial⟩ ?_
  refine sRet ?_
  exact done2 Try.results15 (rv_tmp rfl) (rv_tmp rfl) rfl

end Go.Dk
