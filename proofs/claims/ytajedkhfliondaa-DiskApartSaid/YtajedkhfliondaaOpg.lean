/-
  What a row's premises give a walk: lists of files, lists of calls.
  Conditions: none.
-/
import Derived.Test.YtajedkhfliondaaOpf
import Derived.Test.YtajedkhfliondaaDm2
namespace Go.Dk
open Go Go.Vm Go.RowKit Go.WideElems Go.ChangeShapes Go.WideShapes Go.Cu Go.Deep Go.Proofs
set_option linter.unusedVariables false
set_option linter.unusedSimpArgs false
set_option linter.unusedSectionVars false
set_option linter.constructorNameAsVariable false
set_option maxRecDepth 100000
/-- Whether t is a struct of fields of one cell each, of these types. -/
def recOk (P : Program) (t : TypeId) (ts : List TypeId) : Bool := match P.underlying t with
  | some (.struct fs) => decide (fs.toList.map (·.type) = ts) && decide (fs.toList.map (·.offset) = List.range ts.length) && ts.all (fun u => decide (P.cellsOf u = 1)) && decide (P.cellsOf t = ts.length)
  | _ => false
theorem rec_of {P : Program} {t : TypeId} {ts : List TypeId} (h : recOk P t ts = true) : ∃ fs : Array Field, P.underlying t = some (.struct fs) ∧ P.cellsOf t = ts.length ∧ fs.size = ts.length ∧ (∀ (k : Nat) (f : Field), fs[k]? = some f → f.offset = k ∧ P.cellsOf f.type = 1) ∧
    ∀ (k : Nat) (u : TypeId), ts[k]? = some u → ∃ f, fs[k]? = some f ∧ f.type = u := by
  unfold recOk at h
  split at h
  · rename_i fs hu
    simp only [Bool.and_eq_true, decide_eq_true_eq, List.all_eq_true] at h
    obtain ⟨⟨⟨h1, h2⟩, h3⟩, h4⟩ := h
    have hsz : fs.size = ts.length := by rw [← h1]; simp
    refine ⟨fs, hu, h4, hsz, fun k f hf => ⟨?_, ?_⟩, fun k u hk => ?_⟩
    · have hf' : fs.toList[k]? = some f := by rw [Array.getElem?_toList]; exact hf
      have := congrArg (fun l => l[k]?) h2
      simp only [List.getElem?_map, hf', Option.map_some] at this
      have h5 := List.getElem?_eq_some_iff.1 this.symm
      obtain ⟨h6, h7⟩ := h5
      rw [List.getElem_range] at h7
      exact h7.symm
    · apply h3
      have hf' : fs.toList[k]? = some f := by rw [Array.getElem?_toList]; exact hf
      rw [← h1]
      exact List.mem_map.2 ⟨f, List.mem_of_getElem? hf', rfl⟩
    · rw [← h1, List.getElem?_map] at hk
      cases hf : fs.toList[k]? with
      | none => rw [hf] at hk; cases hk
      | some f =>
        rw [hf] at hk
        exact ⟨f, by rw [← Array.getElem?_toList]; exact hf, by simpa using hk⟩
  · cases h
theorem cell_own {P : Program} {W : World} {base : Nat} {t e : TypeId} {v : Value} (ht : P.underlying t = some (.slice e)) (hval : Value.okWide P W .any base t v) : v.cells.toList = [v] := by
  have hcell : Cell.ok P W .any base t v := by
    unfold Value.okWide at hval
    rw [ht] at hval
    have hval : Cell.okWide P W .any base t v := hval
    unfold Cell.okWide at hval
    rw [ht] at hval
    cases v <;> exact hval
  cases v <;> first | rfl | (unfold Cell.ok at hcell; rw [ht] at hcell; exact hcell.elim)
theorem rec46 : recOk Try.prog 46 [9, 22, 3] = true := by kernel_rfl
theorem rec52 : recOk Try.prog 52 [3, 9, 9, 22, 3, 32] = true := by kernel_rfl
theorem u9s : Try.prog.underlying 9 = some .string := by kernel_rfl
theorem u3i : Try.prog.underlying 3 = some (.int .i64) := by kernel_rfl
theorem u38s : Try.prog.underlying 38 = some (.slice 46) := by kernel_rfl
theorem u50s : Try.prog.underlying 50 = some (.slice 52) := by kernel_rfl
theorem u32s : Try.prog.underlying 32 = some (.slice 3) := by kernel_rfl
/-- What is known of a file, of a call that an argument holds. -/
def FTok (x : FT) : Prop := x.1.length ≤ 9223372036854775807 ∧ x.2.1.length ≤ 140737488355328 ∧ -9223372036854775808 ≤ x.2.2 ∧ x.2.2 ≤ 9223372036854775807
def OTok (x : OT) : Prop := x.nm.length ≤ 9223372036854775807 ∧ x.to.length ≤ 9223372036854775807 ∧ x.data.length ≤ 140737488355328 ∧ x.keep.length * 8 ≤ 140737488355328 ∧ (∀ z ∈ x.keep, -9223372036854775808 ≤ z ∧ z ≤ 9223372036854775807) ∧ x.n ≤ 9223372036854775807
structure OaAt (G' : Hp) (v : Value) (n i : Nat) (x : OT) (b o cap : Nat) (cs : List Value) (e : TypeId) (fr : Nat × Nat) (ad : Option Addr) (c : Nat) (adk : Option Addr) (ck : Nat) : Prop where
  val : v = .slice (some ⟨b, o, none⟩) n cap
  mem : (b, Obj.cells cs.toArray e fr) ∈ G'
  cells : Vm.cut (o + ((i : Nat) : Int).toNat * 6) 6 cs = some [.int .i64 x.kind, sv x.nm, sv x.to, .slice ad x.data.length c, .int .i64 x.n, .slice adk x.keep.length ck]
  bs : Bs G' (.slice ad x.data.length c) x.data
  ks : Ints G' (.slice adk x.keep.length ck) x.keep
structure Oa (G' : Hp) (v : Value) (L : List OT) : Prop where
  shape : ∃ ad cap, v = .slice ad L.length cap
  at_ : ∀ i (h : i < L.length), ∃ b o cap cs e fr ad c adk ck, OaAt G' v L.length i L[i] b o cap cs e fr ad c adk ck
theorem Oa.mono {G' G'' : Hp} {v : Value} {L : List OT} (h : Oa G' v L) (hs : ∀ p ∈ G', p ∈ G'') : Oa G'' v L :=
  ⟨h.shape, fun i hi => by obtain ⟨b, o, cap, cs, e, fr, ad, c, adk, ck, h1⟩ := h.at_ i hi; exact ⟨b, o, cap, cs, e, fr, ad, c, adk, ck, h1.val, hs _ h1.mem, h1.cells, h1.bs.mono hs, h1.ks.mono hs⟩⟩
theorem cut_six {cs : List Value} {o : Nat} {a b c d e f : Value} (h0 : cs[o + 0]? = some a) (h1 : cs[o + 1]? = some b) (h2 : cs[o + 2]? = some c) (h3 : cs[o + 3]? = some d) (h4 : cs[o + 4]? = some e) (h5 : cs[o + 5]? = some f) : Vm.cut o 6 cs = some [a, b, c, d, e, f] := by
  unfold Vm.cut
  induction o generalizing cs with
  | zero =>
    match cs, h0, h1, h2, h3, h4, h5 with
    | x0 :: x1 :: x2 :: x3 :: x4 :: x5 :: r, h0, h1, h2, h3, h4, h5 =>
      simp at h0 h1 h2 h3 h4 h5
      subst h0 h1 h2 h3 h4 h5
      rfl
    | [x0, x1, x2, x3, x4], h0, h1, h2, h3, h4, h5 => simp at h5
    | [x0, x1, x2, x3], h0, h1, h2, h3, h4, h5 => simp at h4
    | [x0, x1, x2], h0, h1, h2, h3, h4, h5 => simp at h3
    | [x0, x1], h0, h1, h2, h3, h4, h5 => simp at h2
    | [x0], h0, h1, h2, h3, h4, h5 => simp at h1
    | [], h0, h1, h2, h3, h4, h5 => simp at h0
  | succ o ih =>
    match cs, h0, h1, h2, h3, h4, h5 with
    | x :: r, h0, h1, h2, h3, h4, h5 =>
      have ee : dropN (o + 1) (x :: r) = dropN o r := rfl
      rw [ee]
      have hs : ∀ k, (x :: r)[o + 1 + k]? = r[o + k]? := fun k => by rw [show o + 1 + k = (o + k) + 1 by omega]; simp
      rw [hs] at h0 h1 h2 h3 h4 h5
      exact ih h0 h1 h2 h3 h4 h5
    | [], h0, h1, h2, h3, h4, h5 => simp at h0
section
variable {H : Type} {enc : TypeId × Value → H} {W : World}
theorem open_Files {base : Nat} {v : Value} {d : DataW H} {ps : List MemPlace} (hval : Value.okWide Try.prog W .any base 38 v) (h : DataW.Trod enc Try.prog W 0 (fun _ => true) true 38 v d ps) (hw : ∀ n ∈ d.weights Try.prog 38, n ≤ reachBytes) :
    ∃ G' L, Fa G' v L ∧ Blocks G' W ∧ L.length ≤ 140737488355328 ∧ ∀ x ∈ L, FTok x := by
  obtain ⟨fuel, h⟩ := h
  have hag : v.cells.toList = [v] := cell_own (P := Try.prog) (W := W) (base := base) (t := 38) (e := 46) u38s hval
  rw [hag] at h
  obtain ⟨fs, he, hce, hfs, hff, hty⟩ := rec_of rec46
  rcases open_recs u38s he hce hff hfs h hw with h0 | ⟨a, len, cap, h0, h1, h2, h3⟩
  · obtain rfl : v = .slice none 0 0 := by simpa using h0
    exact ⟨[], [], ⟨⟨none, 0, rfl⟩, fun i hi => absurd hi (Nat.not_lt_zero i)⟩, (fun p hp => by cases hp), Nat.zero_le _, fun x hx => by cases hx⟩
  obtain rfl : v = .slice (some a) len cap := by simpa using h0
  have h48 : Try.prog.bytesOf 46 = 48 := by kernel_rfl
  rw [h48] at h1
  have hre := reach_le
  have each : ∀ i, i < len → ∃ y : FT × Hp × Option Addr × Nat, W.cell? (a.add (i * 3 + 0)) = some (sv y.1.1) ∧ W.cell? (a.add (i * 3 + 1)) = some (.slice y.2.2.1 y.1.2.1.length y.2.2.2) ∧ W.cell? (a.add (i * 3 + 2)) = some (.int .i64 y.1.2.2) ∧ Bs y.2.1 (.slice y.2.2.1 y.1.2.1.length y.2.2.2) y.1.2.1 ∧ Blocks y.2.1 W ∧ FTok y.1 := by
    intro i hi
    obtain ⟨n, vs, hvl, hc, hk⟩ := h3 i hi
    obtain ⟨f0, e0, t0⟩ := hty 0 9 rfl
    obtain ⟨f1, e1, t1⟩ := hty 1 22 rfl
    obtain ⟨f2, e2, t2⟩ := hty 2 3 rfl
    obtain ⟨v0, y0, g0, k0, _⟩ := hk 0 f0 e0
    obtain ⟨v1, y1, g1, k1, w1⟩ := hk 1 f1 e1
    obtain ⟨v2, y2, g2, k2, _⟩ := hk 2 f2 e2
    rw [t0] at k0
    rw [t1] at k1 w1
    rw [t2] at k2
    obtain ⟨s, rfl, hs⟩ := open_str1 u9s k0
    obtain ⟨G1, l, hB, hG1, hl⟩ := open_bz1 Try.underlying22 Try.underlying5 (by kernel_rfl) (by kernel_rfl) k1 w1
    obtain ⟨z, rfl, hz⟩ := open_int1 u3i k2
    obtain ⟨ad, c, hsh⟩ := hB.shape
    subst hsh
    have hcl : ([9, 22, 3] : List TypeId).length = 3 := rfl
    rw [hcl] at hc
    exact ⟨((s, l, z), G1, ad, c), (hc 0 (by omega)).trans g0, (hc 1 (by omega)).trans g1, (hc 2 (by omega)).trans g2, hB, hG1, hs, by show l.length ≤ _; omega, hz.1, hz.2⟩
  haveI : Inhabited (FT × Hp × Option Addr × Nat) := ⟨(([], [], 0), [], none, 0)⟩
  obtain ⟨y, hy⟩ := choose_lt each
  rcases Nat.eq_zero_or_pos len with hz | hz
  · subst hz
    exact ⟨[], [], ⟨⟨some a, cap, rfl⟩, fun i hi => absurd hi (Nat.not_lt_zero i)⟩, (fun p hp => by cases hp), Nat.zero_le _, fun x hx => by cases hx⟩
  obtain ⟨b, o, sp⟩ := a
  obtain ⟨hs, cs, T, fr, hh, _⟩ := cell_heap' (hy 0 hz).1
  have hs : sp = none := by simpa [Addr.add] using hs
  subst hs
  rw [add_off] at hh
  have hL : ((List.range len).map fun i => (y i).1).length = len := by simp
  refine ⟨(b, .cells cs T fr) :: (List.range len).flatMap fun i => (y i).2.1, (List.range len).map fun i => (y i).1, ⟨⟨_, cap, by rw [hL]⟩, fun i hi => ?_⟩, fun p hp => ?_, by rw [hL]; omega, fun x hx => ?_⟩
  · have hi2 : i < len := by rw [hL] at hi; exact hi
    obtain ⟨c0, c1, c2, hB, _, _⟩ := hy i hi2
    have hg : ((List.range len).map fun i => (y i).1)[i] = (y i).1 := by simp
    rw [hg]
    refine ⟨b, o, cap, cs.toList, T, fr, (y i).2.2.1, (y i).1.2.1.length, (y i).2.2.2, by rw [hL], by simp, ?_, ?_, ?_, hB.mono fun p hp => List.mem_cons_of_mem _ (List.mem_flatMap.2 ⟨i, List.mem_range.2 hi2, hp⟩)⟩
    · rw [Int.toNat_natCast, Nat.add_assoc]; exact get_of_cell rfl hh c0
    · rw [Int.toNat_natCast, Nat.add_assoc]; exact get_of_cell rfl hh c1
    · rw [Int.toNat_natCast, Nat.add_assoc]; exact get_of_cell rfl hh c2
  · rcases List.mem_cons.1 hp with rfl | hp
    · exact hh
    · exact blocks_flat (fun i hi => (hy i hi).2.2.2.2.1) p hp
  · obtain ⟨i, hi, rfl⟩ := List.mem_map.1 hx
    exact (hy i (List.mem_range.1 hi)).2.2.2.2.2
theorem open_Opers {base : Nat} {v : Value} {d : DataW H} {ps : List MemPlace} (hval : Value.okWide Try.prog W .any base 50 v) (h : DataW.Trod enc Try.prog W 0 (fun _ => true) true 50 v d ps) (hw : ∀ n ∈ d.weights Try.prog 50, n ≤ reachBytes) :
    ∃ G' L, Oa G' v L ∧ Blocks G' W ∧ L.length ≤ 140737488355328 ∧ ∀ x ∈ L, OTok x := by
  obtain ⟨fuel, h⟩ := h
  have hag : v.cells.toList = [v] := cell_own (P := Try.prog) (W := W) (base := base) (t := 50) (e := 52) u50s hval
  rw [hag] at h
  obtain ⟨fs, he, hce, hfs, hff, hty⟩ := rec_of rec52
  rcases open_recs u50s he hce hff hfs h hw with h0 | ⟨a, len, cap, h0, h1, h2, h3⟩
  · obtain rfl : v = .slice none 0 0 := by simpa using h0
    exact ⟨[], [], ⟨⟨none, 0, rfl⟩, fun i hi => absurd hi (Nat.not_lt_zero i)⟩, (fun p hp => by cases hp), Nat.zero_le _, fun x hx => by cases hx⟩
  obtain rfl : v = .slice (some a) len cap := by simpa using h0
  have h48 : Try.prog.bytesOf 52 = 96 := by kernel_rfl
  rw [h48] at h1
  have hre := reach_le
  have each : ∀ i, i < len → ∃ y : OT × Hp × Option Addr × Nat × Option Addr × Nat, W.cell? (a.add (i * 6 + 0)) = some (.int .i64 y.1.kind) ∧ W.cell? (a.add (i * 6 + 1)) = some (sv y.1.nm) ∧ W.cell? (a.add (i * 6 + 2)) = some (sv y.1.to) ∧ W.cell? (a.add (i * 6 + 3)) = some (.slice y.2.2.1 y.1.data.length y.2.2.2.1) ∧
      W.cell? (a.add (i * 6 + 4)) = some (.int .i64 y.1.n) ∧ W.cell? (a.add (i * 6 + 5)) = some (.slice y.2.2.2.2.1 y.1.keep.length y.2.2.2.2.2) ∧ Bs y.2.1 (.slice y.2.2.1 y.1.data.length y.2.2.2.1) y.1.data ∧ Ints y.2.1 (.slice y.2.2.2.2.1 y.1.keep.length y.2.2.2.2.2) y.1.keep ∧ Blocks y.2.1 W ∧ OTok y.1 := by
    intro i hi
    obtain ⟨n, vs, hvl, hc, hk⟩ := h3 i hi
    obtain ⟨f0, e0, t0⟩ := hty 0 3 rfl
    obtain ⟨f1, e1, t1⟩ := hty 1 9 rfl
    obtain ⟨f2, e2, t2⟩ := hty 2 9 rfl
    obtain ⟨f3, e3, t3⟩ := hty 3 22 rfl
    obtain ⟨f4, e4, t4⟩ := hty 4 3 rfl
    obtain ⟨f5, e5, t5⟩ := hty 5 32 rfl
    obtain ⟨v0, y0, g0, k0, _⟩ := hk 0 f0 e0
    obtain ⟨v1, y1, g1, k1, _⟩ := hk 1 f1 e1
    obtain ⟨v2, y2, g2, k2, _⟩ := hk 2 f2 e2
    obtain ⟨v3, y3, g3, k3, w3⟩ := hk 3 f3 e3
    obtain ⟨v4, y4, g4, k4, _⟩ := hk 4 f4 e4
    obtain ⟨v5, y5, g5, k5, w5⟩ := hk 5 f5 e5
    rw [t0] at k0
    rw [t1] at k1
    rw [t2] at k2
    rw [t3] at k3 w3
    rw [t4] at k4
    rw [t5] at k5 w5
    obtain ⟨z0, rfl, hz0⟩ := open_int1 u3i k0
    obtain ⟨s1, rfl, hs1⟩ := open_str1 u9s k1
    obtain ⟨s2, rfl, hs2⟩ := open_str1 u9s k2
    obtain ⟨G1, l, hB, hG1, hl⟩ := open_bz1 Try.underlying22 Try.underlying5 (by kernel_rfl) (by kernel_rfl) k3 w3
    obtain ⟨z4, rfl, hz4⟩ := open_int1 u3i k4
    obtain ⟨G2, m, hI, hG2, hm, hr⟩ := open_ints1 u32s u3i (by kernel_rfl) (by kernel_rfl) k5 w5
    obtain ⟨ad, c, hsh⟩ := hB.shape
    subst hsh
    obtain ⟨adk, ck, hsk⟩ := hI.shape
    subst hsk
    have hcl : ([3, 9, 9, 22, 3, 32] : List TypeId).length = 6 := rfl
    rw [hcl] at hc
    exact ⟨(⟨z0, s1, s2, l, z4, m⟩, G1 ++ G2, ad, c, adk, ck), (hc 0 (by omega)).trans g0, (hc 1 (by omega)).trans g1, (hc 2 (by omega)).trans g2, (hc 3 (by omega)).trans g3, (hc 4 (by omega)).trans g4, (hc 5 (by omega)).trans g5,
      hB.mono (fun p hp => List.mem_append_left _ hp), hI.mono (fun p hp => List.mem_append_right _ hp), blocks_app hG1 hG2, hs1, hs2, by show l.length ≤ _; omega, by show m.length * 8 ≤ _; omega, hr, hz4.2⟩
  haveI : Inhabited (OT × Hp × Option Addr × Nat × Option Addr × Nat) := ⟨(⟨0, [], [], [], 0, []⟩, [], none, 0, none, 0)⟩
  obtain ⟨y, hy⟩ := choose_lt each
  rcases Nat.eq_zero_or_pos len with hz | hz
  · subst hz
    exact ⟨[], [], ⟨⟨some a, cap, rfl⟩, fun i hi => absurd hi (Nat.not_lt_zero i)⟩, (fun p hp => by cases hp), Nat.zero_le _, fun x hx => by cases hx⟩
  obtain ⟨b, o, sp⟩ := a
  obtain ⟨hs, cs, T, fr, hh, _⟩ := cell_heap' (hy 0 hz).1
  have hs : sp = none := by simpa [Addr.add] using hs
  subst hs
  rw [add_off] at hh
  have hL : ((List.range len).map fun i => (y i).1).length = len := by simp
  refine ⟨(b, .cells cs T fr) :: (List.range len).flatMap fun i => (y i).2.1, (List.range len).map fun i => (y i).1, ⟨⟨_, cap, by rw [hL]⟩, fun i hi => ?_⟩, fun p hp => ?_, by rw [hL]; omega, fun x hx => ?_⟩
  · have hi2 : i < len := by rw [hL] at hi; exact hi
    obtain ⟨c0, c1, c2, c3, c4, c5, hB, hI, _, _⟩ := hy i hi2
    have hg : ((List.range len).map fun i => (y i).1)[i] = (y i).1 := by simp
    rw [hg]
    have hsub : ∀ p ∈ (y i).2.1, p ∈ (b, Obj.cells cs T fr) :: (List.range len).flatMap fun i => (y i).2.1 := fun p hp => List.mem_cons_of_mem _ (List.mem_flatMap.2 ⟨i, List.mem_range.2 hi2, hp⟩)
    refine ⟨b, o, cap, cs.toList, T, fr, (y i).2.2.1, (y i).2.2.2.1, (y i).2.2.2.2.1, (y i).2.2.2.2.2, by rw [hL], by simp, ?_, hB.mono hsub, hI.mono hsub⟩
    rw [Int.toNat_natCast]
    refine cut_six ?_ ?_ ?_ ?_ ?_ ?_
    · rw [Nat.add_assoc]; exact get_of_cell rfl hh c0
    · rw [Nat.add_assoc]; exact get_of_cell rfl hh c1
    · rw [Nat.add_assoc]; exact get_of_cell rfl hh c2
    · rw [Nat.add_assoc]; exact get_of_cell rfl hh c3
    · rw [Nat.add_assoc]; exact get_of_cell rfl hh c4
    · rw [Nat.add_assoc]; exact get_of_cell rfl hh c5
  · rcases List.mem_cons.1 hp with rfl | hp
    · exact hh
    · exact blocks_flat (fun i hi => (hy i hi).2.2.2.2.2.2.2.2.1) p hp
  · obtain ⟨i, hi, rfl⟩ := List.mem_map.1 hx
    exact (hy i (List.mem_range.1 hi)).2.2.2.2.2.2.2.2.2
end
end Go.Dk
