/-
  What a row's premises give a walk: slices of bytes, and how long they are at most.
  Conditions: none; it is a library of lemmas over any program.
-/
import Derived.Test.YtajedkhfliondaaInts
import Derived.Test.YtajedkhfliondaaBy
namespace Go.Vm
open Go Go.RowKit Go.WideElems Go.ChangeShapes Go.WideShapes Go.Cu
set_option linter.unusedVariables false
set_option linter.unusedSimpArgs false
set_option linter.unusedSectionVars false
set_option linter.constructorNameAsVariable false
section
variable {H : Type} {enc : TypeId × Value → H} {P : Program} {W : World}
theorem open_Bz {base : Nat} {t e : TypeId} {v : Value} {d : DataW H} {ps : List MemPlace} (ht : P.underlying t = some (.slice e)) (he : P.underlying e = some (.int .u8)) (hc : P.cellsOf e = 1) (hby : P.bytesOf e = 1)
    (hval : Value.okWide P W .any base t v) (h : DataW.Trod enc P W 0 (fun _ => true) true t v d ps) (hw : ∀ n ∈ d.weights P t, n ≤ reachBytes) :
    ∃ G' l, Bs G' v l ∧ Blocks G' W ∧ l.length ≤ reachBytes := by
  have hcell : Cell.ok P W .any base t v := by
    unfold Value.okWide at hval
    rw [ht] at hval
    have hval : Cell.okWide P W .any base t v := hval
    unfold Cell.okWide at hval
    rw [ht] at hval
    cases v <;> exact hval
  obtain ⟨fuel, h⟩ := h
  have hag : v.cells.toList = [v] := by
    cases v <;> first | rfl | (unfold Cell.ok at hcell; rw [ht] at hcell; exact hcell.elim)
  rw [hag] at h
  rcases open_ints ht he hc h with ⟨h1, _⟩ | ⟨a, len, cap, zs, h1, _, h3, h4, h5, hx, h7, h8⟩
  · obtain rfl : v = .slice none 0 0 := by simpa using h1
    exact ⟨[], [], ⟨⟨none, 0, rfl⟩, (fun _ h => by cases h), fun hc => absurd hc (Nat.lt_irrefl 0)⟩, fun p hp => (by cases hp), Nat.zero_le _⟩
  · obtain rfl : v = .slice (some a) len cap := by simpa using h1
    rw [if_pos rfl] at h5
    have hd : d = .slice (lits .u8 (zs.take len)) (lits .u8 (zs.drop len)) := congrArg Prod.fst hx
    have hlen : ((zs.take len).map Int.toNat).length = len := by rw [List.length_map, List.length_take]; omega
    have hsz : len ≤ reachBytes := by
      have := hw (((lits (H := H) .u8 (zs.take len)).length + (lits (H := H) .u8 (zs.drop len)).length) * P.bytesOf e) (by rw [hd]; simp [DataW.weights, ht])
      rw [hby] at this
      have h9 : (lits (H := H) .u8 (zs.take len)).length = len := by simp [lits]; omega
      omega
    have wf : ∀ y ∈ zs, 0 ≤ y ∧ y ≤ 255 := fun y hy => by
      have := h8 y hy
      unfold Lit.wf at this
      simp only [Bool.and_eq_true, decide_eq_true_eq] at this
      exact this
    rcases Nat.eq_zero_or_pos len with h0 | h0
    · subst h0
      exact ⟨[], [], ⟨⟨some a, cap, rfl⟩, (fun _ h => by cases h), fun hc => absurd hc (Nat.lt_irrefl 0)⟩, fun p hp => (by cases hp), Nat.zero_le _⟩
    · obtain ⟨b, o, sp⟩ := a
      obtain ⟨hs, cs, T, fr, hh, _⟩ := cell_heap' (h7 0 (by omega))
      have hs : sp = none := by simpa [Addr.add] using hs
      subst hs
      rw [add_off] at hh
      refine ⟨[(b, .cells cs T fr)], (zs.take len).map Int.toNat, ⟨⟨_, cap, by rw [hlen]⟩, ?_, fun _ => ⟨b, o, cap, cs.toList, T, fr, by rw [hlen], by simp, by rw [hlen]; exact h3, fun i hi => ?_⟩⟩, fun p hp => ?_, by rw [hlen]; exact hsz⟩
      · intro z hz
        obtain ⟨y, hy, rfl⟩ := List.mem_map.1 hz
        have := wf y (List.mem_of_mem_take hy)
        omega
      · have hi2 : i < len := by rw [hlen] at hi; exact hi
        have h2 := h7 i (by omega)
        rw [add_off] at h2
        unfold World.cell? at h2
        rw [show W.heap[b]? = some (.cells cs T fr) from hh] at h2
        rw [Array.getElem?_toList]
        have h2 : cs[o + i]? = some (.int .u8 (zs.getD i 0)) := by simpa using h2
        have hy := wf zs[i] (List.getElem_mem (by omega))
        rw [h2, List.getElem_map, List.getElem_take, List.getD_eq_getElem?_getD, List.getElem?_eq_getElem (by omega)]
        show some (Value.int .u8 zs[i]) = some (Value.int .u8 ((zs[i].toNat : Nat) : Int))
        rw [Int.toNat_of_nonneg hy.1]
      · rw [List.mem_singleton.1 hp]; exact hh
theorem fit_i64 {a : Int} (h : (Lit.int .i64 a).wf = true) : -9223372036854775808 ≤ a ∧ a ≤ 9223372036854775807 := by
  unfold Lit.wf at h
  simp only [Bool.and_eq_true, decide_eq_true_eq] at h
  exact h
theorem fit_byte {a : Int} (h : (Lit.int .u8 a).wf = true) : ∃ n : Nat, a = (n : Int) ∧ n < 256 := by
  unfold Lit.wf at h
  simp only [Bool.and_eq_true, decide_eq_true_eq] at h
  have h : 0 ≤ a ∧ a ≤ 255 := h
  exact ⟨a.toNat, by omega, by omega⟩
theorem reach_le : reachBytes ≤ 140737488355328 := by decide
end
end Go.Vm
