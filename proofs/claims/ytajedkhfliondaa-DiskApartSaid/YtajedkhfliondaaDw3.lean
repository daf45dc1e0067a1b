/-
  Copies, the disk's names: the walks. Conditions: those of a disk.
-/
import Derived.Test.YtajedkhfliondaaDw2
import Derived.Test.YtajedkhfliondaaSort
namespace Go.Dk
open Go Go.Vm Go.RowKit Go.Proofs Go.Cu
attribute [local irreducible] W OpsW Det Fresh New Writes Vm.Pure Makes Changes ExternTo BuildTo ZeroTo FieldTo IndexTo BinTo SliceTo Vm.Enters
set_option linter.unusedVariables false
set_option linter.unusedSimpArgs false

theorem sort_perm {l m : List Nm} (h : l.Perm m) : (l.mergeSort fun x y => decide (x ≤ y)) = m.mergeSort fun x y => decide (x ≤ y) := by
  have tr : ∀ a b c : Nm, decide (a ≤ b) = true → decide (b ≤ c) = true → decide (a ≤ c) = true := fun a b c h1 h2 => decide_eq_true (List.le_trans (of_decide_eq_true h1) (of_decide_eq_true h2))
  have tt : ∀ a b : Nm, (decide (a ≤ b) || decide (b ≤ a)) = true := fun a b => by
    rcases List.le_total a b with h | h <;> simp [h]
  refine List.Perm.eq_of_pairwise (le := fun x y => decide (x ≤ y) = true) (fun a b _ _ h1 h2 => List.le_antisymm (of_decide_eq_true h1) (of_decide_eq_true h2)) (List.pairwise_mergeSort tr tt l) (List.pairwise_mergeSort tr tt m) ?_
  exact ((List.mergeSort_perm l _).trans h).trans (List.mergeSort_perm m _).symm
theorem names_perm {fs done : List FE} (h : done.Perm fs) : ((done.map (·.nm)).mergeSort fun x y => decide (x ≤ y)) = names (fs.map FE.fl) := by
  unfold names
  rw [List.map_map]
  exact sort_perm (h.map _)
theorem names_length (fs : List Fl) : (names fs).length = fs.length := by unfold names; rw [List.length_mergeSort, List.length_map]
theorem names_mem {fs : List Fl} {s : Nm} (h : s ∈ names fs) : ∃ f ∈ fs, f.nm = s := by
  unfold names at h
  rw [(List.mergeSort_perm _ _).mem_iff] at h
  exact List.mem_map.1 h
/-- A copy's value, its block. -/
abbrev clv (ad : Option Addr) (n : Nat) (p : Prm) : Value := .slice (ad.map fun _ => ⟨p.1, 0, none⟩) n p.2.1
def clh (l : List Nat) (p : Prm) : Hp := if l.length = 0 then [] else [(p.1, blk (bcells l ++ p.2.2) 5)]
def clok (ad : Option Addr) (l : List Nat) (p : Prm) : Prop := (ad = none → l.length = 0) ∧ ((l.length = 0 ∧ p.2.1 = 0) ∨ (0 < l.length ∧ (bcells l ++ p.2.2).length = p.2.1 ∧ l.length ≤ p.2.1 ∧ p.2.1 ≤ maxLen))
theorem clone_own {ad : Option Addr} {l : List Nat} {p : Prm} (h : clok ad l p) : Own 5 (ad.map fun _ => ⟨p.1, 0, none⟩) l.length p.2.1 (clh l p) (bcells l) := by
  obtain ⟨h0, h⟩ := h
  rcases h with ⟨h1, h2⟩ | ⟨h1, h2, h3, h4⟩
  · have : l = [] := List.eq_nil_of_length_eq_zero h1
    subst this
    rw [h2]
    exact .none (fun a h => by cases ad <;> cases h; rfl)
  · cases ad with
    | none => exact absurd (h0 rfl) (by omega)
    | some a =>
      unfold clh
      rw [if_neg (by omega)]
      exact .at_ (bcells_length l) h3 (by omega) h4
theorem slice22n : SliceTo Try.prog 22 0 [] [] 5 := SliceTo.of fun _ => by kernel_rfl
theorem slice47 {s : ByteArray} : SliceTo Try.prog 47 1 [(0, .string s)] [.string s] 9 := SliceTo.of fun _ => by kernel_rfl
theorem bs_nz {G' : Hp} {ad : Option Addr} {n c : Nat} {l : List Nat} (h : Bs G' (.slice ad n c) l) : n = l.length ∧ (ad = none → l = []) := by
  obtain ⟨ad', c', hv⟩ := h.shape
  injection hv with h1 h2 h3
  refine ⟨h2, fun hn => ?_⟩
  rcases Nat.eq_zero_or_pos l.length with h0 | h0
  · exact List.eq_nil_of_length_eq_zero h0
  · obtain ⟨b, o, cap, cs, e, fr, h4, _⟩ := h.all h0
    injection h4 with h4
    rw [hn] at h4
    cases h4
/-- Texts that lie in a block of G'. -/
structure Ss (G' : Hp) (v : Value) (l : List Nm) : Prop where
  shape : ∃ ad cap, v = .slice ad l.length cap
  all : 0 < l.length → ∃ (b o cap : Nat) (cs : List Value) (e : TypeId) (fr : Nat × Nat), v = .slice (some ⟨b, o, none⟩) l.length cap ∧ (b, Obj.cells cs.toArray e fr) ∈ G' ∧ ∀ i (h : i < l.length), cs[o + i]? = some (sv l[i])
theorem Ss.own {ad : Option Addr} {n cap : Nat} {hp : Hp} {l : List Nm} (h : Own 9 ad n cap hp (scells l)) : Ss hp (.slice ad n cap) l := by
  have hl := h.len
  rw [scells_length] at hl
  generalize hx : scells l = xs at h
  cases h with
  | none h0 =>
    have : l = [] := List.eq_nil_of_length_eq_zero hl
    subst this
    exact ⟨⟨_, _, rfl⟩, fun h => absurd h (Nat.lt_irrefl 0)⟩
  | @at_ b _ _ _ spare h0 h1 h2 h3 =>
    subst hx
    subst hl
    exact ⟨⟨_, _, rfl⟩, fun _ => ⟨_, 0, _, _, _, _, rfl, List.mem_singleton.2 rfl, fun i hi => by rw [Nat.zero_add, List.getElem?_append_left (by rw [scells_length]; exact hi)]; simp [scells, hi]⟩⟩
theorem Ss.mono {G' G'' : Hp} {v : Value} {l : List Nm} (h : Ss G' v l) (hs : ∀ p ∈ G', p ∈ G'') : Ss G'' v l :=
  ⟨h.shape, fun i => by obtain ⟨b, o, cap, cs, e, fr, h1, h2, h3⟩ := h.all i; exact ⟨b, o, cap, cs, e, fr, h1, hs _ h2, h3⟩⟩

theorem en46 : Vm.Enters Try.prog 46 := Vm.Enters.of fun _ _ => by kernel_rfl
theorem Clone_ok {G' : Hp} {ad : Option Addr} {c : Nat} {l : List Nat} (hB : Bs G' (.slice ad l.length c) l) (hl : l.length ≤ 140737488355328) {w : World} (hG : Blocks G' w)  : Makes Try.prog 36 #[.slice ad l.length c] w (clv ad l.length) (clh l) (clok ad l) := by
  refine makes_of_W (n := 8) (args := [.slice ad l.length c]) Try.func36 rfl Try.ntmps36 (Nat.le_of_ble_eq_true rfl) hG ?_
  refine sStart ?_
  refine sSeq ?_
  refine W.region ?_
  refine OpsW.det (det_assign rfl) rfl ?_
  refine sNext ?_
  refine W.keep (F' := [(0, _)]) ⟨rfl, trivial⟩ ?_
  refine sSeq ?_
  refine sSeq ?_
  refine W.region ?_
  refine OpsW.det (det_move rfl) rfl ?_
  refine OpsW.det (det_nilSl u22 rfl rfl) rfl ?_
  refine sNext ?_
  refine W.keep (F' := [(4, _), (0, _)]) ⟨rfl, rfl, trivial⟩ ?_
  refine W.cond rfl (fun hc4 => ?_) (fun hc4 => ?_)
  · skip
    have hn : ad = none := by have h := hc4; cases ad with | none => rfl | some a => simp at h
    have hl0 := (bs_nz hB).2 hn
    refine sSeq ?_
    refine W.region ?_
    refine OpsW.det (det_assign rfl) rfl ?_
    refine sNext ?_
    refine W.keep (F' := [(2, _)]) ⟨rfl, trivial⟩ ?_
    refine sRet ?_
    exact done1 Try.results36 (rv_tmp rfl) ⟨(0, 0, []), ⟨fun _ => by rw [hl0]; rfl, .inl ⟨by rw [hl0]; rfl, rfl⟩⟩, by rw [hn, hl0]; rfl, by rw [hl0]; exact List.nil_sublist _⟩
  · skip
    obtain ⟨a, rfl⟩ : ∃ a, ad = some a := by have h := hc4; cases ad with | none => simp at h | some a => exact ⟨a, rfl⟩
    refine sSkip ?_
    refine sSeq ?_
    rcases Nat.eq_zero_or_pos l.length with hz | hz
    · skip
      refine W.region ?_
      refine OpsW.fresh (fr_buildSlice rfl slice22n) rfl fun b5 => ?_
      refine OpsW.det (det_move rfl) rfl ?_
      refine OpsW.new (new_append0m ty22 rfl rfl hz) rfl fun p7 hp7 => ?_
      refine OpsW.det (det_assign rfl) rfl ?_
      refine sNext ?_
      refine W.keep (F' := [(2, _)]) ⟨rfl, trivial⟩ ?_
      refine sRet ?_
      exact done1 Try.results36 (rv_tmp rfl) ⟨(p7.1, 0, []), ⟨(fun h => by cases h), .inl ⟨hz, rfl⟩⟩, rfl, by unfold clh; rw [if_pos hz]; exact List.nil_sublist _⟩
    · skip
      refine W.region ?_
      refine OpsW.fresh (fr_buildSlice rfl slice22n) rfl fun b5 => ?_
      refine OpsW.det (det_move rfl) rfl ?_
      obtain ⟨bb, bo, bcap, bcs, be, bfr, hbv, hbm, _, hbc⟩ := hB.all hz
      injection hbv with hbv1 hbv2 hbv3
      subst hbv3
      injection hbv1 with hbv1
      subst hbv1
      refine OpsW.new (new_append (news := bcells l) ty22 rfl rfl (.inr hbm) (by rw [bcells_length, Nat.mul_one]) (fun j u hj => by unfold bcells at hj; rw [List.getElem?_map, Option.map_eq_some_iff] at hj; obtain ⟨z, hz2, rfl⟩ := hj; obtain ⟨hj2, rfl⟩ := List.getElem?_eq_some_iff.1 hz2; exact hbc j hj2) hz (by show l.length ≤ 9223372036854775807; omega) (by omega)) rfl fun p7 hp7 => ?_
      refine OpsW.det (det_assign rfl) rfl ?_
      refine sNext ?_
      refine W.keep (F' := [(2, _)]) ⟨rfl, trivial⟩ ?_
      refine sRet ?_
      exact done1 Try.results36 (rv_tmp rfl) ⟨p7, ⟨(fun h => by cases h), .inr ⟨hz, by rw [hp7.1, Nat.mul_one], hp7.2.1, hp7.2.2⟩⟩, rfl, by unfold clh; rw [if_neg (Nat.ne_of_gt hz)]; exact List.singleton_sublist.2 (List.mem_append_left _ (by simp))⟩
theorem names_ok {bD bm clk room steps fuse : Nat} {down : Bool} {fs : List FE} (hnd : (fs.map (·.born)).Nodup) (hold : ∀ f ∈ fs, f.born < clk) (hmany : fs.length ≤ 32) {w : World} (hG : Blocks ((bD, dblk bm room steps fuse down) :: (bm, mobj (fs.map FE.me) clk) :: fhp fs) w)  : Changes Try.prog 35 #[dptr bD] w [] (fun v H' => ∃ ad cap hp, v = .slice ad fs.length cap ∧ Own 9 ad fs.length cap hp (scells (names (fs.map FE.fl))) ∧ hp.Sublist H') := by
  refine changes_of_W (Hf := []) (n := 21) (args := [dptr bD]) Try.func35 rfl Try.ntmps35 (Nat.le_of_ble_eq_true rfl) (fun p hp => ⟨hG p hp, by simp⟩) (fun _ h => by cases h) (by simp) ?_
  refine sStart ?_
  refine sSeq ?_
  refine W.region ?_
  refine OpsW.det (det_assign rfl) rfl ?_
  refine sNext ?_
  refine W.keep (F' := [(0, _)]) ⟨rfl, trivial⟩ ?_
  refine sSeq ?_
  refine W.region ?_
  refine OpsW.det (det_assign rfl) rfl ?_
  refine sNext ?_
  refine sSeq ?_
  refine sSeq ?_
  refine W.region ?_
  refine OpsW.det (det_move rfl) rfl ?_
  refine OpsW.det (det_nilCheck rfl) rfl ?_
  refine OpsW.det (det_fieldAddr fl66_0 rfl) rfl ?_
  refine OpsW.det (det_loadC_ro ty64 rfl (List.Mem.head _) rfl) rfl ?_
  refine OpsW.new (fr_range u64m rfl (.inr (List.Mem.tail _ (List.Mem.head _)))) rfl fun p9 hp9 => ?_
  refine sNext ?_
  refine W.keep (F' := [(9, _), (3, _)]) ⟨rfl, rfl, trivial⟩ ?_
  refine sBlock ?_
  refine sLoop (σ := List FE × Nat × Option Addr × Nat × Hp) (fun s => [(9, .pointer (some ⟨p9.1, 0, none⟩)), (3, .slice s.2.2.1 s.2.1 s.2.2.2.1)]) (fun s => (p9.1, iobj bm clk (s.1.map (·.born)) clk) :: s.2.2.2.2) (fun s => Going fs s.1 ∧ s.2.1 = s.1.length ∧ Own 9 s.2.2.1 s.2.1 s.2.2.2.1 s.2.2.2.2 (scells (s.1.map (·.nm)))) (fun s => fs.length - s.1.length) ([], 0, none, 0, []) ⟨going_nil, rfl, .none (fun a h => by cases h)⟩ ⟨rfl, rfl, trivial⟩ (List.Sublist.refl _) ?_
  rintro ⟨done, n, ad, cap, hp⟩ ⟨hg, hn, hown⟩
  change Going fs done at hg
  change n = done.length at hn
  change Own 9 ad n cap hp (scells (done.map (·.nm))) at hown
  refine W.norm (F' := [(9, .pointer (some ⟨p9.1, 0, none⟩)), (3, .slice ad n cap)]) (H' := (p9.1, iobj bm clk (done.map (·.born)) clk) :: hp) rfl rfl ?_
  refine sSeq ?_
  refine W.region ?_
  refine OpsW.next (l := fs.map FE.me) (c := clk) (bm := bm) (it := p9.1) (seen := (done.map (·.born))) (since := clk) (last := clk) rfl (.inr (List.Mem.tail _ (List.Mem.head _))) (List.Mem.head _) (me_born hold) (Nat.le_refl _) rfl (fun hend => ?_) (fun e he hne => ⟨_, Upd.here, ?_⟩)
  · skip
    have hpm := going_end hnd hg hend
    refine OpsW.det (det_extract rfl rfl) rfl ?_
    refine sNext ?_
    refine W.keep (F' := [(11, _), (9, _), (3, _)]) ⟨rfl, rfl, rfl, trivial⟩ ?_
    refine sSeq ?_
    refine W.cond_false rfl ?_
    refine sExit ?_
    refine xLoop ?_
    refine xHere ?_
    refine W.keep (F' := [(3, _)]) ⟨rfl, trivial⟩ ?_
    refine sSeq ?_
    refine W.region ?_
    refine OpsW.det (det_move rfl) rfl ?_
    refine OpsW.changeT (Hl := [(_, _)]) en46 rfl (fun w hb hbn ho hbm => sortS_ok (l := done.map (·.nm)) (by rw [List.length_map, hn]) hown (by rw [List.length_map, hpm.length_eq]; omega) (fun p hp => hb p (List.Mem.tail _ hp))) rfl (fun v19 H19 hS19 => ?_)
    obtain ⟨rfl, hown2⟩ := hS19
    refine OpsW.norm (H' := ((_, _) :: H19)) rfl rfl ?_
    refine sNext ?_
    refine W.keep (F' := [(3, _)]) ⟨rfl, trivial⟩ ?_
    refine sSeq ?_
    refine W.region ?_
    refine OpsW.det (det_move rfl) rfl ?_
    refine OpsW.det (det_assign rfl) rfl ?_
    refine sNext ?_
    refine W.keep (F' := [(2, _)]) ⟨rfl, trivial⟩ ?_
    refine sRet ?_
    have hl := hpm.length_eq
    rw [names_perm hpm] at hown2
    exact done1 Try.results35 (rv_tmp rfl) ⟨ad, cap, H19, by rw [← hl, ← hn], by rw [← hl, ← hn]; exact hown2, List.sublist_cons_self _ _⟩
  · skip
    obtain ⟨f, hf, rfl⟩ := List.mem_map.1 he
    obtain ⟨hg2, hlt, htot⟩ := going_step hg hf hne
    refine OpsW.det (det_extract rfl rfl) rfl ?_
    refine sNext ?_
    refine W.keep (F' := [(11, _), (9, _), (3, _)]) ⟨rfl, rfl, rfl, trivial⟩ ?_
    refine sSeq ?_
    refine W.cond_true rfl ?_
    refine sSkip ?_
    refine sBlock ?_
    refine sSeq ?_
    refine W.region ?_
    refine OpsW.det (det_entry (e := f.me) rfl (.inr (List.Mem.tail _ (List.Mem.head _))) (List.Mem.head _) (me_borns hnd) he) rfl ?_
    refine OpsW.det (det_extract rfl rfl) rfl ?_
    refine OpsW.det (det_assign rfl) rfl ?_
    refine sNext ?_
    refine W.keep (F' := [(4, _), (9, _), (3, _)]) ⟨rfl, rfl, rfl, trivial⟩ ?_
    refine W.region ?_
    refine OpsW.det (det_move rfl) rfl ?_
    refine OpsW.det (det_move rfl) rfl ?_
    refine OpsW.fresh (fr_buildSlice rfl slice47) rfl fun b16 => ?_
    refine OpsW.perm (H' := hp ++ [(_, _), (_, _)]) List.perm_append_comm ?_
    refine OpsW.appendOwn (hp := hp) (news := [sv f.nm]) ty47 rfl hown rfl ⟨rfl, .inr ⟨b16, 0, _, _, _, rfl, .inl (List.mem_append_right _ (List.Mem.head _)), fun j u h => by rw [Nat.zero_add]; exact h⟩⟩ rfl (by show n + 1 ≤ 9223372036854775807; omega) (by omega) rfl (fun ad' cap' hp' hown' => ?_)
    refine OpsW.perm (H' := [(_, _), (_, _)] ++ hp') List.perm_append_comm ?_
    refine OpsW.det (det_assign rfl) rfl ?_
    refine sLast ?_
    refine bLast ?_
    exact rEnd (done ++ [f], n + 1, ad', cap', hp') ⟨hg2, by rw [hn, List.length_append]; rfl, by rw [List.map_append]; unfold scells at hown' ⊢; rw [List.map_append]; exact hown'⟩ ⟨rfl, rfl, trivial⟩ (by rw [List.map_append]; exact List.sublist_cons_self _ _) (by show fs.length - (done ++ [f]).length < fs.length - done.length; rw [List.length_append]; simp; omega)

end Go.Dk
