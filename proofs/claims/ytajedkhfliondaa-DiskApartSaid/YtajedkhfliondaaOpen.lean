/-
  What a row's premises give a walk: slices of bytes, listed variables.
  Conditions: none; it is a library of lemmas over any program.
-/
import Derived.Test.YtajedkhfliondaaRow
import Derived.Lib.LaidTab
import Derived.Deep.DeepHandedRow
namespace Go.Vm
open Go Go.RowKit Go.WideElems Go.ChangeShapes Go.WideShapes
set_option linter.unusedVariables false
set_option linter.unusedSimpArgs false
set_option linter.unusedSectionVars false
set_option linter.constructorNameAsVariable false

section
variable {H : Type} {enc : TypeId × Value → H} {P : Program} {W : World}
theorem laid_tail {x : String × DataW Unit} {r : List (String × DataW Unit)} {w : World} (h : laidMet P (x :: r) w) : laidMet P r w := by
  obtain ⟨ps, hv, hnd, hrows⟩ := h
  obtain ⟨n, d⟩ := x
  obtain ⟨g, t, cs, fuel, p, q, _, _, _, _, hq, rfl⟩ := hv
  exact ⟨q, hq, List.Nodup.sublist (List.sublist_append_right _ _) hnd, fun b off hm => hrows b off (List.mem_append_right _ hm)⟩
theorem laid_block {name : String} {k : IntKind} {zs : List Int} {rest : List (String × DataW Unit)} {g : Nat} {t e : TypeId} {n : Nat}
    (hg : P.globalNamed name = some g) (hty : (P.globals[g]?).map (·.type) = some t) (ht : P.underlying t = some (.array n e)) (he : P.underlying e = some (.int k)) (hce : P.cellsOf e = 1) (hct : P.cellsOf t = n)
    (h : laidMet P ((name, Lib.tabData k zs) :: rest) W) : ∃ T : TypeId × Nat × Nat, W.heap[g]? = some (.cells (zs.map fun z => Value.int k z).toArray T.1 T.2) := by
  have hv := Lib.tabIs_of_head hg hty ht he hce hct h
  unfold Lib.TabIs World.var? at hv
  rw [hg] at hv
  simp only [Option.bind_some] at hv
  split at hv
  · rename_i cs T fr hh
    rw [hh]
    exact ⟨(T, fr), by rw [Option.some.inj hv]⟩
  · cases hv
/-- A slice of bytes: either nil, or a piece of a block. -/
theorem open_u8s {base : Nat} {t e : TypeId} {v : Value} {d : DataW H} {ps : List MemPlace} (ht : P.underlying t = some (.slice e)) (he : P.underlying e = some (.int .u8)) (hc : P.cellsOf e = 1)
    (hval : Value.okWide P W .any base t v) (h : DataW.Trod enc P W 0 (fun _ => true) true t v d ps) :
    v = .slice none 0 0 ∨ ∃ (b o len cap : Nat) (cs : List Value) (T : TypeId) (fr : Nat × Nat) (zs : List Nat), v = .slice (some ⟨b, o, none⟩) len cap ∧ W.heap[b]? = some (.cells cs.toArray T fr) ∧ zs.length = len ∧ len ≤ cap ∧ cap ≤ maxLen ∧
      (∀ z ∈ zs, z < 256) ∧ ∀ (i z : Nat), zs[i]? = some z → cs[o + i]? = some (.int .u8 (z : Int)) := by
  have hcell : Cell.ok P W .any base t v := by
    unfold Value.okWide at hval
    rw [ht] at hval
    have hval : Cell.okWide P W .any base t v := hval
    unfold Cell.okWide at hval
    rw [ht] at hval
    cases v <;> exact hval
  obtain ⟨fuel, h⟩ := h
  have hag : v.cells.toList = [v] := by
    cases v <;> first | rfl | (unfold Cell.ok at hcell; rw [ht] at hcell; exact hcell.elim)
  rw [hag] at h
  rcases open_ints ht he hc h with ⟨h1, _⟩ | ⟨a, len, cap, zs, h1, _, h3, h4, h5, _, h7, h8⟩
  · exact .inl (by simpa using h1)
  · right
    obtain rfl : v = .slice (some a) len cap := by simpa using h1
    have wf : ∀ y ∈ zs, 0 ≤ y ∧ y ≤ 255 := fun y hy => by
      have := h8 y hy
      unfold Lit.wf at this
      simp only [Bool.and_eq_true, decide_eq_true_eq] at this
      exact this
    unfold Cell.ok at hcell
    rw [ht] at hcell
    obtain ⟨_, _, _, hsp, row, cells, hshape, _⟩ := hcell
    obtain ⟨b, o, sp⟩ := a
    obtain rfl : sp = none := hsp
    unfold World.shape? at hshape
    split at hshape
    · rename_i c elem fr hh
      rw [if_pos rfl] at h5
      refine ⟨b, o, len, cap, c.toList, elem, fr, (zs.take len).map Int.toNat, rfl, by rw [hh], ?_, h3, h4, ?_, ?_⟩
      · rw [List.length_map, List.length_take]; omega
      · intro z hz
        obtain ⟨y, hy, rfl⟩ := List.mem_map.1 hz
        have := wf y (List.mem_of_mem_take hy)
        omega
      · intro i z hz
        rw [List.getElem?_map, Option.map_eq_some_iff] at hz
        obtain ⟨y, hy, rfl⟩ := hz
        have hy2 : zs[i]? = some y := by
          rw [List.getElem?_take] at hy
          split at hy
          · exact hy
          · cases hy
        have hlt := (List.getElem?_eq_some_iff.1 hy2).1
        have := h7 i hlt
        rw [add_off] at this
        unfold World.cell? at this
        rw [hh] at this
        have h10 := wf y (List.mem_of_getElem? hy2)
        simp only [Option.isSome_none, Bool.false_eq_true, if_false] at this
        rw [Array.getElem?_toList, this, List.getD_eq_getElem?_getD, hy2]
        simp; omega
    · cases hshape
end
end Go.Vm
