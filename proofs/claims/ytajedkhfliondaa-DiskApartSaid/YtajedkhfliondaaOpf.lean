/-
  What a row's premises give a walk: slices of structs whose fields have one cell each: files, and calls.
  Conditions: none; it is a library of lemmas over any program.
-/
import Derived.Test.YtajedkhfliondaaDl3
import Derived.Test.YtajedkhfliondaaOpb
import Derived.Deep.Slices
namespace Go.Dk
open Go Go.Vm Go.RowKit Go.WideElems Go.ChangeShapes Go.WideShapes Go.Cu Go.Deep
set_option linter.unusedVariables false
set_option linter.unusedSimpArgs false
set_option linter.unusedSectionVars false
set_option linter.constructorNameAsVariable false
section
variable {H : Type} {enc : TypeId × Value → H} {P : Program} {W : World}
theorem open_bz1 {fuel : Nat} {t e : TypeId} {v : Value} {x : DataW H × List MemPlace} (ht : P.underlying t = some (.slice e)) (he : P.underlying e = some (.int .u8)) (hc : P.cellsOf e = 1) (hby : P.bytesOf e = 1)
    (h : DataW.trod enc P W 0 (fun _ => true) true fuel t [v] = some x) (hw : ∀ n ∈ x.1.weights P t, n ≤ reachBytes) :
    ∃ G' l, Bs G' v l ∧ Blocks G' W ∧ l.length ≤ reachBytes := by
  rcases open_ints ht he hc h with ⟨h1, _⟩ | ⟨a, len, cap, zs, h1, _, h3, h4, h5, hx, h7, h8⟩
  · obtain rfl : v = .slice none 0 0 := by simpa using h1
    exact ⟨[], [], ⟨⟨none, 0, rfl⟩, (fun _ h => by cases h), fun hc => absurd hc (Nat.lt_irrefl 0)⟩, fun p hp => (by cases hp), Nat.zero_le _⟩
  · obtain rfl : v = .slice (some a) len cap := by simpa using h1
    rw [if_pos rfl] at h5
    have hd : x.1 = .slice (lits .u8 (zs.take len)) (lits .u8 (zs.drop len)) := congrArg Prod.fst hx
    have hlen : ((zs.take len).map Int.toNat).length = len := by rw [List.length_map, List.length_take]; omega
    have hsz : len ≤ reachBytes := by
      have := hw (((lits (H := H) .u8 (zs.take len)).length + (lits (H := H) .u8 (zs.drop len)).length) * P.bytesOf e) (by rw [hd]; simp [DataW.weights, ht])
      rw [hby] at this
      have h9 : (lits (H := H) .u8 (zs.take len)).length = len := by simp [lits]; omega
      omega
    have wf : ∀ y ∈ zs, 0 ≤ y ∧ y ≤ 255 := fun y hy => by
      have := h8 y hy
      unfold Lit.wf at this
      simp only [Bool.and_eq_true, decide_eq_true_eq] at this
      exact this
    rcases Nat.eq_zero_or_pos len with h0 | h0
    · subst h0
      exact ⟨[], [], ⟨⟨some a, cap, rfl⟩, (fun _ h => by cases h), fun hc => absurd hc (Nat.lt_irrefl 0)⟩, fun p hp => (by cases hp), Nat.zero_le _⟩
    · obtain ⟨b, o, sp⟩ := a
      obtain ⟨hs, cs, T, fr, hh, _⟩ := cell_heap' (h7 0 (by omega))
      have hs : sp = none := by simpa [Addr.add] using hs
      subst hs
      rw [add_off] at hh
      refine ⟨[(b, .cells cs T fr)], (zs.take len).map Int.toNat, ⟨⟨_, cap, by rw [hlen]⟩, ?_, fun _ => ⟨b, o, cap, cs.toList, T, fr, by rw [hlen], by simp, by rw [hlen]; exact h3, fun i hi => ?_⟩⟩, fun p hp => ?_, by rw [hlen]; exact hsz⟩
      · intro z hz
        obtain ⟨y, hy, rfl⟩ := List.mem_map.1 hz
        have := wf y (List.mem_of_mem_take hy)
        omega
      · have hi2 : i < len := by rw [hlen] at hi; exact hi
        have h2 := h7 i (by omega)
        rw [add_off] at h2
        unfold World.cell? at h2
        rw [show W.heap[b]? = some (.cells cs T fr) from hh] at h2
        rw [Array.getElem?_toList]
        have h2 : cs[o + i]? = some (.int .u8 (zs.getD i 0)) := by simpa using h2
        have hy := wf zs[i] (List.getElem_mem (by omega))
        rw [h2, List.getElem_map, List.getElem_take, List.getD_eq_getElem?_getD, List.getElem?_eq_getElem (by omega)]
        show some (Value.int .u8 zs[i]) = some (Value.int .u8 ((zs[i].toNat : Nat) : Int))
        rw [Int.toNat_of_nonneg hy.1]
      · rw [List.mem_singleton.1 hp]; exact hh
theorem open_ints1 {fuel : Nat} {t e : TypeId} {v : Value} {x : DataW H × List MemPlace} (ht : P.underlying t = some (.slice e)) (he : P.underlying e = some (.int .i64)) (hc : P.cellsOf e = 1) (hby : P.bytesOf e = 8)
    (h : DataW.trod enc P W 0 (fun _ => true) true fuel t [v] = some x) (hw : ∀ n ∈ x.1.weights P t, n ≤ reachBytes) :
    ∃ G' l, Ints G' v l ∧ Blocks G' W ∧ l.length * 8 ≤ reachBytes ∧ ∀ z ∈ l, -9223372036854775808 ≤ z ∧ z ≤ 9223372036854775807 := by
  rcases open_ints ht he hc h with ⟨h1, _⟩ | ⟨a, len, cap, zs, h1, _, h3, h4, h5, hx, h7, h8⟩
  · obtain rfl : v = .slice none 0 0 := by simpa using h1
    exact ⟨[], [], ⟨⟨none, 0, rfl⟩, fun hc => absurd hc (Nat.lt_irrefl 0)⟩, fun p hp => (by cases hp), Nat.zero_le _, fun _ h => by cases h⟩
  · obtain rfl : v = .slice (some a) len cap := by simpa using h1
    rw [if_pos rfl] at h5
    have hd : x.1 = .slice (lits .i64 (zs.take len)) (lits .i64 (zs.drop len)) := congrArg Prod.fst hx
    have hlen : (zs.take len).length = len := by rw [List.length_take]; omega
    have hsz : len * 8 ≤ reachBytes := by
      have := hw (((lits (H := H) .i64 (zs.take len)).length + (lits (H := H) .i64 (zs.drop len)).length) * P.bytesOf e) (by rw [hd]; simp [DataW.weights, ht])
      rw [hby] at this
      have h9 : (lits (H := H) .i64 (zs.take len)).length = len := by simp [lits]; omega
      omega
    have wf : ∀ y ∈ zs, -9223372036854775808 ≤ y ∧ y ≤ 9223372036854775807 := fun y hy => fit_i64 (h8 y hy)
    rcases Nat.eq_zero_or_pos len with h0 | h0
    · subst h0
      exact ⟨[], [], ⟨⟨some a, cap, rfl⟩, fun hc => absurd hc (Nat.lt_irrefl 0)⟩, fun p hp => (by cases hp), Nat.zero_le _, fun _ h => by cases h⟩
    · obtain ⟨b, o, sp⟩ := a
      obtain ⟨hs, cs, T, fr, hh, _⟩ := cell_heap' (h7 0 (by omega))
      have hs : sp = none := by simpa [Addr.add] using hs
      subst hs
      rw [add_off] at hh
      refine ⟨[(b, .cells cs T fr)], zs.take len, ⟨⟨_, cap, by rw [hlen]⟩, fun _ => ⟨b, o, cap, cs.toList, T, fr, by rw [hlen], by simp, fun i hi => ?_⟩⟩, fun p hp => ?_, by rw [hlen]; exact hsz, fun z hz => wf z (List.mem_of_mem_take hz)⟩
      · have hi2 : i < len := by rw [hlen] at hi; exact hi
        have h2 := h7 i (by omega)
        rw [add_off] at h2
        unfold World.cell? at h2
        rw [show W.heap[b]? = some (.cells cs T fr) from hh] at h2
        rw [Array.getElem?_toList]
        have h2 : cs[o + i]? = some (.int .i64 (zs.getD i 0)) := by simpa using h2
        rw [h2, List.getElem_take, List.getD_eq_getElem?_getD, List.getElem?_eq_getElem (by omega)]
        rfl
      · rw [List.mem_singleton.1 hp]; exact hh
theorem open_str1 {fuel : Nat} {t : TypeId} {v : Value} {x : DataW H × List MemPlace} (ht : P.underlying t = some .string) (h : DataW.trod enc P W 0 (fun _ => true) true fuel t [v] = some x) : ∃ s : Nm, v = sv s ∧ s.length ≤ 9223372036854775807 := by
  cases fuel with
  | zero => simp [DataW.trod] at h
  | succ n =>
    unfold DataW.trod at h
    rw [ht] at h
    cases v with
    | string s =>
      have h2 : s.size ≤ maxLen := by
        simp only at h
        split at h
        · assumption
        · cases h
      have h3 : s.data.toList.length = s.size := Array.length_toList
      have h4 : maxLen = 9223372036854775807 := by unfold maxLen; rfl
      exact ⟨s.data.toList, by show Value.string s = Value.string ⟨s.data.toList.toArray⟩; rw [Array.toArray_toList], by omega⟩
    | _ => simp at h
theorem open_int1 {fuel : Nat} {t : TypeId} {v : Value} {x : DataW H × List MemPlace} (ht : P.underlying t = some (.int .i64)) (h : DataW.trod enc P W 0 (fun _ => true) true fuel t [v] = some x) : ∃ a : Int, v = .int .i64 a ∧ -9223372036854775808 ≤ a ∧ a ≤ 9223372036854775807 := by
  cases fuel with
  | zero => simp [DataW.trod] at h
  | succ n =>
    unfold DataW.trod at h
    rw [ht] at h
    cases v with
    | int k a =>
      simp only at h
      split at h
      · rename_i hk
        obtain ⟨rfl, hk⟩ := hk
        exact ⟨a, rfl, fit_i64 hk⟩
      · cases h
    | _ => simp at h
theorem all_mem {e : TypeId} {n : Nat} {d : DataW H} : ∀ {l : List (DataW H)}, d ∈ l → n ∈ d.weights P e → n ∈ DataW.weightsAll P e l
  | x :: r, h, hn => by
    simp only [DataW.weightsAll, List.mem_append]
    rcases List.mem_cons.1 h with rfl | h
    · exact .inl hn
    · exact .inr (all_mem h hn)
/-- A slice of structs of one-cell fields. -/
theorem open_recs {fuel : Nat} {t e : TypeId} {fs : Array Field} {m : Nat} {cs : List Value} {x : DataW H × List MemPlace} (ht : P.underlying t = some (.slice e)) (he : P.underlying e = some (.struct fs)) (hce : P.cellsOf e = m)
    (hf : ∀ (k : Nat) (f : Field), fs[k]? = some f → f.offset = k ∧ P.cellsOf f.type = 1) (hm : fs.size = m) (h : DataW.trod enc P W 0 (fun _ => true) true fuel t cs = some x) (hw : ∀ n ∈ x.1.weights P t, n ≤ reachBytes) :
    cs = [.slice none 0 0] ∨ ∃ (a : Addr) (len cap : Nat), cs = [.slice (some a) len cap] ∧ len * P.bytesOf e ≤ reachBytes ∧ len ≤ 9223372036854775807 ∧ ∀ i, i < len → ∃ (n : Nat) (vs : List Value), vs.length = m ∧ (∀ k, k < m → W.cell? (a.add (i * m + k)) = vs[k]?) ∧
      ∀ (k : Nat) (f : Field), fs[k]? = some f → ∃ v y, vs[k]? = some v ∧ DataW.trod enc P W 0 (fun _ => true) true n f.type [v] = some y ∧ ∀ z ∈ y.1.weights P f.type, z ≤ reachBytes := by
  rcases open_slice ht h with ⟨h0, _⟩ | ⟨a, len, cap, m', n, D, Pl, rfl, hb, hl, hmx, hmm, rfl, hx⟩
  · exact .inl h0
  right
  simp only [if_true] at hmm
  have hmm' := hmm.symm
  subst hmm'
  refine ⟨a, len, cap, rfl, ?_, Nat.le_trans hl (by unfold maxLen at hmx; omega), fun i hi => ?_⟩
  · have := hw ((((List.range len).map D).length + ((List.range (cap - len)).map fun j => D (len + j)).length) * P.bytesOf e) (by simp [DataW.weights, ht])
    refine Nat.le_trans (Nat.mul_le_mul_right _ ?_) this
    simp
  · obtain ⟨cs', h1, h2⟩ := hx i (by omega)
    rw [hce] at h1
    obtain ⟨_, hlen, hcell⟩ := World.cells?_some h1
    obtain ⟨xs, k0, hk0, hxy, _, hxl, hff⟩ := DataW.trod_struct he h2
    refine ⟨k0, cs', hlen, fun k hk => ?_, fun k f hkf => ?_⟩
    · have := hcell k hk
      rw [add_add] at this
      exact this
    · have hkm : k < m := by
        rw [← hm]
        exact (Array.getElem?_eq_some_iff.1 hkf).1
      have g0 := hff k f hkf
      obtain ⟨o1, c1⟩ := hf k f hkf
      rw [o1, c1] at g0
      have hkl : k < cs'.length := by omega
      have hdt : (cs'.drop k).take 1 = [cs'[k]] := by rw [List.drop_eq_getElem_cons hkl]; rfl
      rw [hdt] at g0
      have hkx : k < xs.length := by omega
      rw [List.getElem?_eq_getElem hkx] at g0
      refine ⟨cs'[k], xs[k], List.getElem?_eq_getElem hkl, g0, fun z hz => hw z ?_⟩
      have hD : D i = .agg (xs.map (·.1)) := congrArg Prod.fst hxy
      have h5 : z ∈ (D i).weights P e := by
        rw [hD]
        simp only [DataW.weights, he]
        exact DataW.weights_mem_each (j := k) (t := f.type) (d := xs[k].1) (by rw [List.getElem?_map, Array.getElem?_toList, hkf]; rfl) (by rw [List.getElem?_map, List.getElem?_eq_getElem hkx]; rfl) z hz
      simp only [DataW.weights, ht, List.mem_cons, List.mem_append]
      exact .inr (.inl (all_mem (List.mem_map.2 ⟨i, List.mem_range.2 hi, rfl⟩) h5))
theorem get_of_cell {a : Addr} {b o : Nat} {cs : Array Value} {T : TypeId} {fr : Nat × Nat} {j : Nat} {v : Value} (ha : a = ⟨b, o, none⟩) (hh : W.heap[b]? = some (.cells cs T fr)) (h : W.cell? (a.add j) = some v) : cs.toList[o + j]? = some v := by
  subst ha
  rw [add_off] at h
  unfold World.cell? at h
  rw [hh] at h
  rw [Array.getElem?_toList]
  simpa using h
theorem blocks_flat {n : Nat} {f : Nat → Hp} (h : ∀ i, i < n → Blocks (f i) W) : Blocks ((List.range n).flatMap f) W := fun p hp => by
  obtain ⟨i, hi, hpi⟩ := List.mem_flatMap.1 hp
  exact h i (List.mem_range.1 hi) p hpi
end
end Go.Dk
