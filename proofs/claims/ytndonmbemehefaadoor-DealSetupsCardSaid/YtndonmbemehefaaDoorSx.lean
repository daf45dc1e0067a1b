/-
  What the rows of the codec's and of the setups' laws give their walks: the listed variables, slices of bytes; and a world for their witnesses.
  Conditions: none.
-/
import Derived.Test.YtndonmbemehefaaDoorOpen
import Derived.Test.YtndonmbemehefaaDoorFr6
import Derived.Test.YtndonmbemehefaaDoorInts
import Derived.Test.YtndonmbemehefaaDoorCards
import Derived.Test.YtndonmbemehefaaDoorTie
import Derived.WalkKit
import Derived.ProofKit
import Derived.OpenShut
namespace Go.Cu
open Go Go.Vm Go.RowKit Go.Proofs Go.Proofs.YtndonmbemehefaaDoor Go.ChangeShapes Go.WideShapes
set_option linter.unusedVariables false
set_option linter.unusedSimpArgs false
set_option linter.unusedSectionVars false
set_option linter.constructorNameAsVariable false

theorem laid_all {W : World} (h : laidMetH Tryd.prog Rows.dealSetupsRow.laid W) : ∃ T, Blocks (GH T) W := by
  have h : laidMet Tryd.prog [(_, Lib.tabData .u64 [13402431016077863595, 2210141511517208575, 7435674573564081700, 7239337960414712511, 5412103778470702295, 1873798617647539866]), (_, Lib.tabData .u64 [17644856173732828998, 754043588434789617, 10224657059481499349, 7488229067341005760, 11130996698012816685, 1267921511277847466])] W := h
  obtain ⟨t2, h2⟩ := laid_block (g := 1) (t := 27) (e := 26) (n := 6) (by kernel_rfl) (by kernel_rfl) (by kernel_rfl) (by kernel_rfl) (by kernel_rfl) (by kernel_rfl) h
  obtain ⟨t1, h1⟩ := laid_block (g := 0) (t := 27) (e := 26) (n := 6) (by kernel_rfl) (by kernel_rfl) (by kernel_rfl) (by kernel_rfl) (by kernel_rfl) (by kernel_rfl) (laid_tail h)
  refine ⟨fun i => match i with | 1 => t1 | _ => t2, fun p hp => ?_⟩
  simp only [GH, List.mem_cons, List.not_mem_nil, or_false] at hp
  rcases hp with rfl | rfl
  · exact h1
  · exact h2
theorem cells5 : Tryd.prog.cellsOf 5 = 1 := by kernel_rfl
set_option maxRecDepth 100000 in
/-- A slice of bytes among the arguments. -/
theorem open_Bs {H : Type} {enc : TypeId × Value → H} {W : World} {base : Nat} {v : Value} {d : DataW H} {ps : List MemPlace} (hval : Value.okWide Tryd.prog W .any base 22 v) (h : DataW.Trod enc Tryd.prog W 0 (fun _ => true) true 22 v d ps) :
    ∃ G' l, Bs G' v l ∧ Blocks G' W := by
  rcases open_u8s (P := Tryd.prog) (t := 22) (e := 5) Tryd.underlying22 Tryd.underlying5 cells5 hval h with rfl | ⟨b, o, len, cap, cs, T, fr, zs, rfl, hb, rfl, hlc, hcm, hz, hcell⟩
  · exact ⟨[], [], ⟨⟨none, 0, rfl⟩, fun c hc => (by cases hc), fun hc => (by cases hc)⟩, fun p hp => (by cases hp)⟩
  · refine ⟨[(b, .cells cs.toArray T fr)], zs, ⟨⟨_, _, rfl⟩, hz, fun _ => ⟨b, o, cap, cs, T, fr, rfl, List.mem_singleton.2 rfl, hlc, fun i h => ?_⟩⟩, fun p hp => ?_⟩
    · rw [hcell i zs[i] (List.getElem?_eq_getElem h)]; rfl
    · rw [List.mem_singleton.1 hp]; exact hb
theorem fit_u8 {a : Int} (h : (Lit.int .u8 a).wf = true) : ∃ n : Nat, a = (n : Int) ∧ n < 256 := by
  unfold Lit.wf at h
  simp only [Bool.and_eq_true, decide_eq_true_eq] at h
  have h : 0 ≤ a ∧ a ≤ 255 := h
  exact ⟨a.toNat, by omega, by omega⟩
theorem fit_u16 {a : Int} (h : (Lit.int .u16 a).wf = true) : ∃ n : Nat, a = (n : Int) ∧ n < 65536 := by
  unfold Lit.wf at h
  simp only [Bool.and_eq_true, decide_eq_true_eq] at h
  have h : 0 ≤ a ∧ a ≤ 65535 := h
  exact ⟨a.toNat, by omega, by omega⟩
/-- A world for the witnesses. -/
noncomputable def laidWorld (os : Os) : World :=
  { World.holding Tryd.prog os ⟨#[], #[], []⟩ with heap := (((World.holding Tryd.prog os ⟨#[], #[], []⟩).heap.modify 0 fun
      | .cells _ t frozen => .cells glo1.toArray t frozen
      | o => o).modify 1 fun
      | .cells _ t frozen => .cells glo2.toArray t frozen
      | o => o) }
/-- What the rows' readings ask of the program's types. -/
theorem laidOut : laidOutB Tryd.prog = true := by kernel_rfl
theorem own : ownKnob Tryd.prog.godebug = none := by kernel_rfl
end Go.Cu
