/-
  The library's sort of texts, by the kit's contract: the laying.
  Conditions: none.
-/
import Derived.Test.YtajedkhfliondaaDw1
import Derived.Shelf.Sort.Plain
import Derived.Shelf.Slices.In.SortNone
namespace Go.Proofs
open Go Go.Shelf

def sort_renYtajedkhfliondaa : Go.Shelf.Ren := ⟨fun | 190 => 46 | 125 => 49 | 258 => 48 | 128 => 59 | 129 => 60 | 302 => 50 | 303 => 51 | 304 => 52 | 305 => 53 | 306 => 54 | 307 => 55 | 308 => 56 | 309 => 57 | 310 => 58 | 333 => 61 | 329 => 62 | 330 => 63 | 334 => 64 | 335 => 65 | 336 => 66 | 344 => 67 | n => n, fun | 31 => 47 | 9 => 9 | 3 => 3 | 46 => 84 | 0 => 0 | 51 => 95 | 53 => 97 | 4 => 4 | 183 => 87 | 182 => 86 | 131 => 92 | 5 => 5 | 218 => 98 | 222 => 102 | 228 => 104 | 229 => 105 | n => n, fun n => n⟩
theorem sort_laysYtajedkhfliondaa : Lays.n190 Try.prog sort_renYtajedkhfliondaa where
  mixed := by kernel_rfl
  f125 := Try.func49.trans (congrArg some (by kernel_rfl))
  f128 := Try.func59.trans (congrArg some (by kernel_rfl))
  f129 := Try.func60.trans (congrArg some (by kernel_rfl))
  f190 := Try.func46.trans (congrArg some (by kernel_rfl))
  f258 := Try.func48.trans (congrArg some (by kernel_rfl))
  f302 := Try.func50.trans (congrArg some (by kernel_rfl))
  f303 := Try.func51.trans (congrArg some (by kernel_rfl))
  f304 := Try.func52.trans (congrArg some (by kernel_rfl))
  f305 := Try.func53.trans (congrArg some (by kernel_rfl))
  f306 := Try.func54.trans (congrArg some (by kernel_rfl))
  f307 := Try.func55.trans (congrArg some (by kernel_rfl))
  f308 := Try.func56.trans (congrArg some (by kernel_rfl))
  f309 := Try.func57.trans (congrArg some (by kernel_rfl))
  f310 := Try.func58.trans (congrArg some (by kernel_rfl))
  f329 := Try.func62.trans (congrArg some (by kernel_rfl))
  f330 := Try.func63.trans (congrArg some (by kernel_rfl))
  f333 := Try.func61.trans (congrArg some (by kernel_rfl))
  f334 := Try.func64.trans (congrArg some (by kernel_rfl))
  f335 := Try.func65.trans (congrArg some (by kernel_rfl))
  f336 := Try.func66.trans (congrArg some (by kernel_rfl))
  f344 := Try.func67.trans (congrArg some (by kernel_rfl))
  t0 := by kernel_rfl
  a0 := fun _ => by kernel_rfl
  z0 := fun _ => by kernel_rfl
  v0 := fun _ => by kernel_rfl
  t3 := by kernel_rfl
  a3 := fun _ => by kernel_rfl
  z3 := fun _ => by kernel_rfl
  v3 := fun _ => by kernel_rfl
  t4 := by kernel_rfl
  a4 := fun _ => by kernel_rfl
  z4 := fun _ => by kernel_rfl
  v4 := fun _ => by kernel_rfl
  t5 := by kernel_rfl
  a5 := fun _ => by kernel_rfl
  z5 := fun _ => by kernel_rfl
  v5 := fun _ => by kernel_rfl
  t9 := by kernel_rfl
  a9 := fun _ => by kernel_rfl
  z9 := fun _ => by kernel_rfl
  v9 := fun _ => by kernel_rfl
  t31 := by kernel_rfl
  a31 := fun _ => by kernel_rfl
  z31 := fun _ => by kernel_rfl
  v31 := fun _ => by kernel_rfl
  t46 := by kernel_rfl
  a46 := fun _ => by kernel_rfl
  z46 := fun _ => by kernel_rfl
  v46 := fun _ => by kernel_rfl
  t51 := by kernel_rfl
  a51 := fun _ => by kernel_rfl
  z51 := fun _ => by kernel_rfl
  v51 := fun _ => by kernel_rfl
  t53 := by kernel_rfl
  a53 := fun _ => by kernel_rfl
  z53 := fun _ => by kernel_rfl
  v53 := fun _ => by kernel_rfl
  t131 := by kernel_rfl
  a131 := fun _ => by kernel_rfl
  z131 := fun _ => by kernel_rfl
  v131 := fun _ => by kernel_rfl
  t182 := by kernel_rfl
  a182 := fun _ => by kernel_rfl
  z182 := fun _ => by kernel_rfl
  v182 := fun _ => by kernel_rfl
  t183 := by kernel_rfl
  a183 := fun _ => by kernel_rfl
  z183 := fun _ => by kernel_rfl
  v183 := fun _ => by kernel_rfl
  t218 := by kernel_rfl
  a218 := fun _ => by kernel_rfl
  z218 := fun _ => by kernel_rfl
  v218 := fun _ => by kernel_rfl
  t222 := by kernel_rfl
  a222 := fun _ => by kernel_rfl
  z222 := fun _ => by kernel_rfl
  v222 := fun _ => by kernel_rfl
  t228 := by kernel_rfl
  a228 := fun _ => by kernel_rfl
  z228 := fun _ => by kernel_rfl
  v228 := fun _ => by kernel_rfl
  t229 := by kernel_rfl
  a229 := fun _ => by kernel_rfl
  z229 := fun _ => by kernel_rfl
  v229 := fun _ => by kernel_rfl
end Go.Proofs
namespace Go.Cu
open Go Go.Vm Go.RowKit Go.Proofs Go.Dk
attribute [local irreducible] W OpsW Det Fresh New Writes Vm.Pure Makes Changes ExternTo BuildTo ZeroTo FieldTo IndexTo BinTo SliceTo Vm.Enters
set_option linter.unusedVariables false
set_option linter.unusedSimpArgs false
/-- A text's cell. -/
def scells (l : List Nm) : List Value := l.map sv
theorem scells_length (l : List Nm) : (scells l).length = l.length := List.length_map ..
theorem scells_one (l : List Nm) : (scells l).all (·.oneCell') = true := by
  rw [List.all_eq_true]
  intro v hv
  obtain ⟨z, _, rfl⟩ := List.mem_map.1 hv
  rfl
theorem ty47 : TyS Try.prog 47 9 1 16 [.string .empty] := ⟨by kernel_rfl, by kernel_rfl, by kernel_rfl, ⟨.string .empty, by kernel_rfl, by kernel_rfl⟩, rfl, by decide⟩
/-- slices.Sort at []string. -/
theorem sortS_ok {ad : Option Addr} {cap n : Nat} {hp : Hp} {l : List Nm} (hn : l.length = n) (hv : Own 9 ad n cap hp (scells l)) (hlen : l.length < 4611686018427387904) {w : World} (hG : Blocks hp w) :
    Changes Try.prog 46 #[.slice ad n cap] w hp (fun v H' => v = .tuple #[] ∧ Own 9 ad n cap H' (scells (l.mergeSort fun x y => decide (x ≤ y)))) := by
  unfold Changes
  generalize hx : scells l = xs at hv
  cases hv with
  | none h0 =>
    have hl : l = [] := List.eq_nil_of_length_eq_zero hn
    subst hl
    refine (Any.slices_Sort_string_none sort_laysYtajedkhfliondaa ad 0 w).mono ?_
    rintro e w' ⟨rfl, rfl⟩
    exact ⟨_, [], rfl, ⟨rfl, by rw [List.mergeSort_nil]; exact .none h0⟩, hG, by simp, (fun p hp => by cases hp), ⟨rfl, rfl, rfl, Nat.le_refl _, fun _ _ _ => rfl, fun p hp => by cases hp⟩⟩
  | @at_ b _ _ _ spare h0 h1 h2 h3 =>
    subst hx
    have hb : w.heap[b]? = some (blk (scells l ++ spare) 9) := hG (b, blk (scells l ++ spare) 9) (by simp)
    have hlt := lt_of_some hb
    have hH : Go.Sort.Holds encStr w b 0 l.toArray := by
      intro j hj
      have hj' : j < l.length := by simpa using hj
      constructor
      · rw [Nat.zero_add]
        simp only [World.cell?, hb]
        have e1 : (scells l ++ spare)[j]? = some (encStr l[j]) := by
          rw [List.getElem?_append_left (by rw [scells_length]; exact hj')]
          simp [scells, hj']
        have e2 : l.toArray[j]! = l[j] := by simp [hj']
        rw [e2]
        simpa using e1
      · rw [Nat.zero_add]
        simp [World.frozen?, hb]
    have hc := Any.slices_Sort_string sort_laysYtajedkhfliondaa b 0 cap l w hH hlt hlen
    rw [hn] at hc
    refine hc.mono ?_
    rintro e w' ⟨rfl, k, os, rfl⟩
    have hs : (l.mergeSort fun x y => decide (x ≤ y)).length = l.length := List.length_mergeSort _
    generalize hss : (l.mergeSort fun x y => decide (x ≤ y)) = ss at hs
    have hcells : Go.Sort.putCells encStr 0 ss.toArray (scells l ++ spare).toArray = (scells ss ++ spare).toArray := by
      apply Array.ext'
      apply List.ext_getElem?
      intro i
      simp only [Go.Sort.putCells, Array.toList_mapIdx, List.getElem?_mapIdx, Nat.zero_le, true_and, Nat.zero_add, Nat.sub_zero, List.size_toArray]
      by_cases hi : i < ss.length
      · rw [List.getElem?_append_left (by rw [scells_length]; omega), List.getElem?_append_left (by rw [scells_length]; omega)]
        have hi2 : i < l.length := by omega
        simp [hi, hi2, scells]
      · rw [List.getElem?_append_right (by rw [scells_length]; omega), List.getElem?_append_right (by rw [scells_length]; omega)]
        have hi2 : ¬ i < l.length := by omega
        simp [hi, hi2, scells_length, hs]
    have hnew : (Go.Sort.grow (Go.Sort.putRow encStr (Go.Sort.ahead w k) b 0 ss.toArray) os).heap[b]? = some (blk (scells ss ++ spare) 9) := by
      show ((w.heap.modify b (Go.Sort.onCells (Go.Sort.putCells encStr 0 ss.toArray))) ++ os)[b]? = _
      rw [Array.getElem?_append_left (by simpa using hlt), Array.getElem?_modify, if_pos rfl, hb]
      show some (Obj.cells (Go.Sort.putCells encStr 0 ss.toArray (scells l ++ spare).toArray) 9 (0, 0)) = _
      rw [hcells]
    refine ⟨_, [(b, blk (scells ss ++ spare) 9)], rfl, ⟨rfl, .at_ (by rw [scells_length]; omega) h1 ?_ h3⟩, ?_, by simp, ?_, ⟨rfl, rfl, rfl, ?_, ?_, fun p hp => by cases hp⟩⟩
    · rw [List.length_append, scells_length] at h2 ⊢; omega
    · intro p hp
      rw [List.mem_singleton.1 hp]
      exact hnew
    · intro p hp
      rw [List.mem_singleton.1 hp]
      exact .inl (by simp)
    · show w.heap.size ≤ ((w.heap.modify b _) ++ os).size
      simp
    · intro i hi hk
      have hib : b ≠ i := fun h => hk (by subst h; simp)
      show ((w.heap.modify b (Go.Sort.onCells (Go.Sort.putCells encStr 0 ss.toArray))) ++ os)[i]? = _
      rw [Array.getElem?_append_left (by simpa using hi), Array.getElem?_modify, if_neg hib]
end Go.Cu

