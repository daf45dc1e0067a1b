/-
  cressetlaw17.DiskApart returns true for every input, and each argument reads behind the call as it read before. Conditions: none.
-/
import Derived.Test.YtajedkhfliondaaRows
import Derived.Test.YtajedkhfliondaaDl6
import Derived.Test.YtajedkhfliondaaOpg
import Derived.WalkKit
import Derived.ProofKit
import Derived.OpenShut
import Derived.SizedLaws
namespace Go.Proofs.Ytajedkhfliondaa.diskApart
open Go Go.ChangeShapes Go.WideShapes Go.ChangeAt Go.RowKit Go.Vm Go.Cu Go.Dk
set_option linter.unusedVariables false

theorem own : ownKnob Try.prog.godebug = none := by kernel_rfl
set_option maxRecDepth 100000 in
theorem lifted (os : Os) (started : os.Started) (H : Type) (enc : TypeId × Value → H) :
    ReturnsInHanded {} Try.checked os 6 .any (Rows.diskApartSpec.pre6 enc Try.prog Try.f6 Rows.diskApartRow.domain false) (Rows.diskApartSpec.post enc Try.prog Try.f6 false true false false) := by
  refine returnsInHanded_of_change_sized (C := Try.checked) own started (by kernel_rfl) Try.func6
    (ChangeSpec.witness6 (enc := enc) (C := Try.checked) false ⟨#[], #[Value.slice none 0 0, Value.slice none 0 0], []⟩ 8 (by kernel_rfl) (by kernel_rfl) (by kernel_rfl) (by kernel_rfl)) ?_
  intro W base args ds gs before hval0 hW hcnd hsz _
  have hval : ∀ (j : Nat) t v, Try.f6.params[j]? = some t → args[j]? = some v → Value.okWide Try.prog W .any base t v := hval0
  have hW' := hW
  obtain ⟨p, q, hA0, hV, rfl, hfz, hnd⟩ := hW
  have hA : DataW.TrodAll enc Try.prog W 0 (fun _ => true) true Try.f6.params.toList args.toList ds p := hA0
  rw [Try.params6] at hA hval
  obtain ⟨v0, vs0, d0, ds0, p0, q0, hargs, rfl, rfl, h0, r0⟩ := trodAll_cons hA
  obtain ⟨v1, vs1, d1, ds1, p1, q1, rfl, rfl, rfl, h1, r1⟩ := trodAll_cons r0
  obtain ⟨rfl, rfl, rfl⟩ := trodAll_nil r1
  obtain rfl : args = #[v0, v1] := by cases args; simp_all
  obtain ⟨rfl, rfl⟩ := trodVars_none hV
  obtain ⟨G0, l0, B0, H0, S0⟩ := open_Bz Try.underlying22 Try.underlying5 (by kernel_rfl) (by kernel_rfl) (hval 0 22 v0 rfl rfl) h0 (fun n hn => of_decide_eq_true (List.all_eq_true.1 hsz _ (DataW.weights_mem_each (j := 0) (t := 22) (d := d0) (by rw [Try.params6]; rfl) rfl n hn)))
  have S0 := Nat.le_trans S0 reach_le
  obtain ⟨G1, l1, B1, H1, S1⟩ := open_Opers (hval 1 50 v1 rfl rfl) h1 (fun n hn => of_decide_eq_true (List.all_eq_true.1 hsz _ (DataW.weights_mem_each (j := 1) (t := 50) (d := d1) (by rw [Try.params6]; rfl) rfl n hn)))
  obtain ⟨S1, O1⟩ := S1
  have hG := blocks_app H0 H1
  have walk := DiskApart_ok (G' := G0 ++ G1) (B0.mono fun p hp => by simp [hp]) S0 (B1.mono fun p hp => by simp [hp]) S1 O1 hG
  clear hA0 hval0
  simp only [List.append_nil] at hW'
  refine (Vm.Pure.out walk).mono fun e W' ⟨he, hg⟩ => ?_
  subst he
  exact ⟨_, rfl, Go.Vm.law_post (by kernel_rfl) (by kernel_rfl) (by kernel_rfl) hW' hg rfl Try.underlying4 rfl rfl rfl⟩
theorem over : Rows.diskApartRow.holds Try.pinned (OpenSpec.ofChange Rows.diskApartSpec) :=
  OpenClaim.holds_of_wide 6 Try.f6 rfl rfl rfl rfl rfl rfl rfl ⟨rfl, rfl, rfl, rfl, rfl⟩ rfl rfl rfl rfl rfl (by kernel_rfl) Try.func6 (by kernel_rfl)
    (of_decide_eq_true (by kernel_rfl)) (by unfold Func.isWrapper; first | (rw [if_pos (by decide +kernel)]; kernel_rfl) | (rw [if_neg (by decide +kernel)]; exact ⟨rfl, rfl⟩))
    (fun os started H enc _ => lifted os started H enc)
/-- The statement. -/
theorem proved : Rows.DiskApartSaid :=
  over
#print axioms proved
end Go.Proofs.Ytajedkhfliondaa.diskApart
