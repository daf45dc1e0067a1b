/-
  Slices of ints among a row's arguments.
  Conditions: none; it is a library of lemmas over any program.
-/
import Derived.Test.YtajedkhfliondaaOpen
import Derived.SizedLaws
namespace Go.Vm
open Go Go.RowKit Go.WideElems Go.ChangeShapes Go.WideShapes
set_option linter.unusedVariables false
set_option linter.unusedSimpArgs false
set_option linter.unusedSectionVars false
set_option linter.constructorNameAsVariable false
/-- v is a slice of the ints l, which lie in a block of G'. -/
structure Ints (G' : Hp) (v : Value) (l : List Int) : Prop where
  shape : ∃ ad cap, v = .slice ad l.length cap
  all : 0 < l.length → ∃ (b o cap : Nat) (cs : List Value) (e : TypeId) (fr : Nat × Nat), v = .slice (some ⟨b, o, none⟩) l.length cap ∧ (b, Obj.cells cs.toArray e fr) ∈ G' ∧ ∀ i (h : i < l.length), cs[o + i]? = some (.int .i64 l[i])
theorem Ints.mono {G' G'' : Hp} {v : Value} {l : List Int} (h : Ints G' v l) (hs : ∀ p ∈ G', p ∈ G'') : Ints G'' v l :=
  ⟨h.shape, fun i => by obtain ⟨b, o, cap, cs, e, fr, h1, h2, h3⟩ := h.all i; exact ⟨b, o, cap, cs, e, fr, h1, hs _ h2, h3⟩⟩
section
variable {H : Type} {enc : TypeId × Value → H} {P : Program} {W : World}
theorem cell_heap' {a : Addr} {v : Value} (h : W.cell? a = some v) : a.spot = none ∧ ∃ cs T fr, W.heap[a.block]? = some (.cells cs T fr) ∧ cs[a.off]? = some v := by
  have h1 := World.cell?_spot h
  refine ⟨h1, ?_⟩
  unfold World.cell? at h
  split at h
  · rename_i c T fr hh
    rw [h1] at h
    exact ⟨c, T, fr, hh, by simpa using h⟩
  · cases h
/-- A slice of ints: its numbers, and how long it is at most. -/
theorem open_Ints {base : Nat} {t e : TypeId} {v : Value} {d : DataW H} {ps : List MemPlace} (ht : P.underlying t = some (.slice e)) (he : P.underlying e = some (.int .i64)) (hc : P.cellsOf e = 1) (hby : P.bytesOf e = 8)
    (hval : Value.okWide P W .any base t v) (h : DataW.Trod enc P W 0 (fun _ => true) true t v d ps) (hw : ∀ n ∈ d.weights P t, n ≤ reachBytes) :
    ∃ G' l, Ints G' v l ∧ Blocks G' W ∧ l.length * 8 ≤ reachBytes := by
  have hcell : Cell.ok P W .any base t v := by
    unfold Value.okWide at hval
    rw [ht] at hval
    have hval : Cell.okWide P W .any base t v := hval
    unfold Cell.okWide at hval
    rw [ht] at hval
    cases v <;> exact hval
  obtain ⟨fuel, h⟩ := h
  have hag : v.cells.toList = [v] := by
    cases v <;> first | rfl | (unfold Cell.ok at hcell; rw [ht] at hcell; exact hcell.elim)
  rw [hag] at h
  rcases open_ints ht he hc h with ⟨h1, _⟩ | ⟨a, len, cap, zs, h1, _, h3, h4, h5, hx, h7, h8⟩
  · obtain rfl : v = .slice none 0 0 := by simpa using h1
    exact ⟨[], [], ⟨⟨none, 0, rfl⟩, fun hc => absurd hc (Nat.lt_irrefl 0)⟩, fun p hp => (by cases hp), Nat.zero_le _⟩
  · obtain rfl : v = .slice (some a) len cap := by simpa using h1
    rw [if_pos rfl] at h5
    have hd : d = .slice (lits .i64 (zs.take len)) (lits .i64 (zs.drop len)) := congrArg Prod.fst hx
    have hlen : (zs.take len).length = len := by rw [List.length_take]; omega
    have hsz : len * 8 ≤ reachBytes := by
      have := hw (((lits (H := H) .i64 (zs.take len)).length + (lits (H := H) .i64 (zs.drop len)).length) * P.bytesOf e) (by rw [hd]; simp [DataW.weights, ht])
      rw [hby] at this
      have h9 : (lits (H := H) .i64 (zs.take len)).length = len := by simp [lits]; omega
      omega
    rcases Nat.eq_zero_or_pos len with h0 | h0
    · subst h0
      exact ⟨[], [], ⟨⟨some a, cap, rfl⟩, fun hc => absurd hc (Nat.lt_irrefl 0)⟩, fun p hp => (by cases hp), Nat.zero_le _⟩
    · obtain ⟨b, o, sp⟩ := a
      obtain ⟨hs, cs, T, fr, hh, _⟩ := cell_heap' (h7 0 (by omega))
      have hs : sp = none := by simpa [Addr.add] using hs
      subst hs
      rw [add_off] at hh
      refine ⟨[(b, .cells cs T fr)], zs.take len, ⟨⟨_, cap, by rw [hlen]⟩, fun _ => ⟨b, o, cap, cs.toList, T, fr, by rw [hlen], by simp, fun i hi => ?_⟩⟩, fun p hp => ?_, by rw [hlen]; exact hsz⟩
      · have hi2 : i < len := by rw [hlen] at hi; exact hi
        have h2 := h7 i (by omega)
        rw [add_off] at h2
        unfold World.cell? at h2
        rw [show W.heap[b]? = some (.cells cs T fr) from hh] at h2
        rw [Array.getElem?_toList]
        have h2 : cs[o + i]? = some (.int .i64 (zs.getD i 0)) := by simpa using h2
        rw [h2, List.getElem_take, List.getD_eq_getElem?_getD, List.getElem?_eq_getElem (by omega)]
        rfl
      · rw [List.mem_singleton.1 hp]; exact hh
end
end Go.Vm
